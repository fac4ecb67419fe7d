/- Merged by program: FgY1, FgY2, FgY3, FgY4, FgY5. -/
import Derived.Test.YtljbfnabnkkfeaaFgX

/- frag, plain: the fragments of one packet in a group. No walk. -/
namespace Go.Proofs.Ytljbfnabnkkfeaa
open Go.RowKit
set_option linter.unusedVariables false
set_option linter.unusedSimpArgs false

/-- a fragment of the packet with header h, options o, data d -/
structure FRG (h : HD) (o d : List Int) (f : FR) : Prop where
  ok : FOK f
  right : Rightly f.h.off f.h.mf f.o.length f.d.length
  hd : { f.h with off := 0, mf := false } = h
  o : f.o = o
  dE : f.d = (d.drop f.b).take f.d.length
  ne : 0 < f.d.length
  le : f.e ≤ d.length
  mf : f.h.mf = false ↔ f.e = d.length
section
variable {h : HD} {o d : List Int} {f q : FR} {p : List FR} {g : AG} {now : Int}
theorem FRG.parse (H : FRG h o d f) : PARSED f.h f.o f.d (bytesF f) := by
  have := parse_pkt (more := []) H.ok.wf H.ok.op.1 H.right
  rwa [List.append_nil] at this
theorem fr_of {f : FR} (P : PARSED f.h f.o f.d (bytesF f)) : frOf (bytesF f) = f := by
  have e1 : ((bytesF f).drop (sizeR (bytesF f))).take (totalR (bytesF f) - sizeR (bytesF f)) = f.d := by
    rw [P.size, P.total]
    unfold bytesF
    have e0 : (pktB f.h f.o f.d).drop (20 + f.o.length) = f.d := by unfold pktB; rw [List.drop_left' (by rw [fixOf_len, headB_len])]
    rw [e0, List.take_of_length_le (by omega)]
  unfold frOf
  rw [P.hdE, P.opE, e1]
theorem FRG.fr (H : FRG h o d f) : frOf (bytesF f) = f := fr_of H.parse
theorem FRG.bds (H : FRG h o d f) : BD 255 (bytesF f) := pkt_bd H.ok.wf H.ok.op.1 H.ok.op.2 H.ok.bd
theorem FRG.same (H : FRG h o d f) (g : AG) : sameK f.h g = sameK h g := by rw [← H.hd]; rfl
theorem FRG.newG (H : FRG h o d f) (now : Int) : newG now f.h = newG now h := by rw [← H.hd]; rfl
def apartF (f g : FR) : Prop := f.e ≤ g.b ∨ g.e ≤ f.b
theorem apartF.symm {f g : FR} (h : apartF f g) : apartF g f := h.elim .inr .inl
def psF (p : List FR) : List (Nat × List Int) := p.map fun f => (f.b, f.d)
def sumF (p : List FR) : Nat := bytesP (psF p)
theorem sumF_append (a b : List FR) : sumF (a ++ b) = sumF a + sumF b := by unfold sumF psF; rw [List.map_append, bytesP_append]
theorem sumF_one (f : FR) : sumF [f] = f.d.length := by simp [sumF, psF, bytesP]
theorem sumF_perm {a b : List FR} (h : a.Perm b) : sumF a = sumF b := by
  unfold sumF bytesP psF; exact ((h.map _).map _).sum_nat
theorem sumF_cons (f : FR) (b : List FR) : sumF (f :: b) = f.d.length + sumF b := by
  have := sumF_append [f] b; rw [sumF_one] at this; exact this
theorem psF_pw (h : p.Pairwise apartF) : (psF p).Pairwise apartP := List.pairwise_map.2 h

structure GST (now : Int) (h : HD) (o d : List Int) (p : List FR) (g : AG) : Prop where
  src : g.src = h.src
  dst : g.dst = h.dst
  proto : g.proto = h.proto
  id : g.id = h.id
  beg : g.begin_ = now
  dead : g.dead = false
  ps : g.ps = psF p
  tot : g.total = if p.any (fun f => !f.h.mf) then (d.length : Int) else -1
  hd : g.h = if p.any (fun f => f.b == 0) then h else HD.zero
  o : g.o = if p.any (fun f => f.b == 0) then o else []
theorem GST.new (now : Int) (h : HD) (o d : List Int) : GST now h o d [] (newG now h) := ⟨rfl, rfl, rfl, rfl, rfl, rfl, rfl, rfl, rfl, rfl⟩
theorem GST.same (H : GST now h o d p g) : sameK h g = true := by unfold sameK; rw [H.src, H.dst, H.proto, H.id]; simp
theorem GST.add (H : GST now h o d p g) (hF : ∀ q ∈ p, FRG h o d q) (hf : FRG h o d f) (ha : ∀ q ∈ p, apartF q f) : diesG g f = false ∧ GST now h o d (p ++ [f]) (putG g f) := by
  have hb := hf.ok.b
  have hne := hf.ne
  have hle := hf.le
  have hfe : f.e = f.b + f.d.length := rfl
  constructor
  · unfold diesG
    rw [Bool.or_eq_false_iff]
    constructor
    · unfold dies1
      rw [H.tot]
      by_cases hp : p.any (fun f => !f.h.mf) = true
      · rw [if_pos hp]
        obtain ⟨q, hq, hm⟩ := List.any_eq_true.1 hp
        have hqe := (hF q hq).mf.1 (by simpa using hm)
        have h1 := ha q hq
        have h2 := (hF q hq).ne
        have h3 : q.e = q.b + q.d.length := rfl
        have h4 : f.h.mf = true := by
          cases hm : f.h.mf
          · have := hf.mf.1 hm
            rcases h1 with h1 | h1 <;> omega
          · rfl
        rw [h4]
        simp
        omega
      · rw [if_neg hp]; simp
    · rw [H.ps]
      rw [List.any_eq_false]
      intro x hx
      obtain ⟨q, hq, rfl⟩ := List.mem_map.1 hx
      have h1 := ha q hq
      have h2 := (hF q hq).ne
      have h3 : q.e = q.b + q.d.length := rfl
      have h4 := (hF q hq).le
      have h5 : pe (q.b, q.d) = q.e := rfl
      unfold dies2
      rw [h5]
      simp only [Bool.or_eq_true, Bool.and_eq_true, decide_eq_true_eq, Bool.not_eq_true', not_or, not_and]
      refine ⟨fun h6 h7 => ?_, fun h6 h7 => ?_⟩
      · rcases h1 with h1 | h1 <;> omega
      · have := hf.mf.1 h6; omega
  · refine ⟨H.src, H.dst, H.proto, H.id, H.beg, H.dead, ?_, ?_, ?_, ?_⟩
    · unfold putG
      simp only
      rw [if_neg (fun h => by rw [h] at hne; simp at hne), H.ps]
      simp [psF]
    · unfold putG
      simp only
      rw [List.any_append, H.tot]
      cases hm : f.h.mf
      · rw [if_neg (by simp), if_pos (by simp [hm]), hf.mf.1 hm]
      · rw [if_pos rfl]
        congr 1
        simp [hm]
    · unfold putG
      simp only
      rw [List.any_append, H.hd]
      by_cases h0 : f.b = 0
      · rw [if_pos h0, if_pos (by simp [h0])]
        rw [← hf.hd]
        have : f.h.off = 0 := by omega
        rw [← this]
      · rw [if_neg h0]
        congr 1
        simp [h0]
    · unfold putG
      simp only
      rw [List.any_append, H.o]
      by_cases h0 : f.b = 0
      · rw [if_pos h0, if_pos (by simp [h0]), hf.o]
      · rw [if_neg h0]
        congr 1
        simp [h0]
theorem GST.dies (H : GST now h o d p g) (hq : q ∈ p) (h1 : q.b < f.e) (h2 : f.b < q.e) : diesG g f = true := by
  unfold diesG
  rw [Bool.or_eq_true]
  right
  rw [H.ps]
  refine List.any_eq_true.2 ⟨(q.b, q.d), List.mem_map.2 ⟨q, hq, rfl⟩, ?_⟩
  unfold dies2
  have h5 : pe (q.b, q.d) = q.e := rfl
  rw [h5]
  simp [h1, h2]
theorem sum_le (hF : ∀ q ∈ p, FRG h o d q) (hp : p.Pairwise apartF) : sumF p ≤ d.length :=
  bytesP_le (psF_pw hp) (fun x hx => by obtain ⟨q, hq, rfl⟩ := List.mem_map.1 hx; exact (hF q hq).le)
theorem covered (hF : ∀ q ∈ p, FRG h o d q) (hp : p.Pairwise apartF) (hs : sumF p = d.length) (x : Nat) (hx : x < d.length) : ∃ q ∈ p, q.b ≤ x ∧ x < q.e := by
  have hle : ∀ y ∈ psF p, pe y ≤ d.length := fun y hy => by obtain ⟨q, hq, rfl⟩ := List.mem_map.1 hy; exact (hF q hq).le
  have h1 := upsum_cov (psF p) d.length hle
  have h2 := upsum_full (cov_le (psF_pw hp)) d.length (h1.trans hs) x hx
  refine Classical.byContradiction fun hn => ?_
  have : cov (psF p) x = 0 := cov_zero (fun y hy hc => by
    obtain ⟨q, hq, rfl⟩ := List.mem_map.1 hy
    exact hn ⟨q, hq, hc⟩)
  omega
theorem GST.done (H : GST now h o d p g) (hF : ∀ q ∈ p, FRG h o d q) (hp : p.Pairwise apartF) (hd : 0 < d.length) : doneG g = decide (sumF p = d.length) := by
  by_cases hs : sumF p = d.length
  · obtain ⟨q, hq, h1, h2⟩ := covered hF hp hs (d.length - 1) (by omega)
    have h3 := (hF q hq).le
    have h4 : p.any (fun f => !f.h.mf) = true := List.any_eq_true.2 ⟨q, hq, by rw [(hF q hq).mf.2 (by omega)]; rfl⟩
    unfold doneG
    rw [H.tot, if_pos h4, H.ps]
    have : bytesP (psF p) = d.length := hs
    simp [this, hs]
  · rw [decide_eq_false hs]
    unfold doneG
    rw [H.tot, H.ps]
    have : bytesP (psF p) = sumF p := rfl
    rw [this]
    split
    · simp; omega
    · simp
/-- where the parts of d stand -/
theorem splice_get {zs : List Int} {p : Nat × List Int} (h : pe p ≤ zs.length) (x : Nat) : (splice zs p)[x]? = if p.1 ≤ x ∧ x < pe p then p.2[x - p.1]? else zs[x]? := by
  unfold splice
  unfold pe at *
  rw [List.take_of_length_le (l := p.2) (by omega)]
  by_cases h1 : x < p.1
  · rw [if_neg (by omega), List.getElem?_append_left (by rw [List.length_take]; omega), List.getElem?_take_of_lt h1]
  · rw [List.getElem?_append_right (by rw [List.length_take]; omega), List.length_take]
    by_cases h2 : x < p.1 + p.2.length
    · rw [if_pos (by omega), List.getElem?_append_left (by omega)]
      congr 1; omega
    · rw [if_neg (by omega), List.getElem?_append_right (by omega), List.getElem?_drop]
      congr 1; omega
theorem asm_get {d : List Int} : ∀ (ps : List (Nat × List Int)) (zs : List Int), zs.length = d.length → (∀ p ∈ ps, pe p ≤ d.length ∧ p.2 = (d.drop p.1).take p.2.length) → ∀ x, (zs[x]? = d[x]? ∨ ∃ p ∈ ps, p.1 ≤ x ∧ x < pe p) → (ps.foldl splice zs)[x]? = d[x]?
  | [], zs, _, _, x, hx => by
    rcases hx with hx | ⟨p, hp, _⟩
    · exact hx
    · cases hp
  | p :: ps, zs, hl, h, x, hx => by
    obtain ⟨h1, h2⟩ := h p (by simp)
    rw [List.foldl_cons]
    refine asm_get ps _ ((splice_len (by omega)).trans hl) (fun q hq => h q (by simp [hq])) x ?_
    rw [splice_get (by omega)]
    by_cases hc : p.1 ≤ x ∧ x < pe p
    · left
      rw [if_pos hc, h2]
      unfold pe at hc
      rw [List.getElem?_take_of_lt (by omega), List.getElem?_drop]
      congr 1; omega
    · rw [if_neg hc]
      rcases hx with hx | ⟨q, hq, hc2⟩
      · exact .inl hx
      · rcases List.mem_cons.1 hq with rfl | hq
        · exact absurd hc2 hc
        · exact .inr ⟨q, hq, hc2⟩
theorem asm_all (hF : ∀ q ∈ p, FRG h o d q) (hp : p.Pairwise apartF) (hs : sumF p = d.length) : asmP d.length (psF p) = d := by
  apply List.ext_getElem?
  intro x
  refine asm_get (psF p) _ (List.length_replicate ..) (fun y hy => ?_) x ?_
  · obtain ⟨q, hq, rfl⟩ := List.mem_map.1 hy
    exact ⟨(hF q hq).le, (hF q hq).dE⟩
  · by_cases hx : x < d.length
    · obtain ⟨q, hq, h1⟩ := covered hF hp hs x hx
      exact .inr ⟨(q.b, q.d), List.mem_map.2 ⟨q, hq, rfl⟩, h1⟩
    · left
      rw [List.getElem?_eq_none (by rw [List.length_replicate]; omega), List.getElem?_eq_none (by omega)]
theorem GST.full (H : GST now h o d p g) (hF : ∀ q ∈ p, FRG h o d q) (hp : p.Pairwise apartF) (hd : 0 < d.length) (hs : sumF p = d.length) : g.total = d.length ∧ g.h = h ∧ g.o = o ∧ g.ps = psF p := by
  have h1 := H.done hF hp hd
  rw [decide_eq_true hs] at h1
  unfold doneG at h1
  have h2 : 0 ≤ g.total := by simp at h1; omega
  obtain ⟨q, hq, h3, _⟩ := covered hF hp hs 0 hd
  have h4 : p.any (fun f => f.b == 0) = true := List.any_eq_true.2 ⟨q, hq, by simp; omega⟩
  refine ⟨?_, by rw [H.hd, if_pos h4], by rw [H.o, if_pos h4], H.ps⟩
  have := H.tot
  split at this
  · exact this
  · omega
/-- a packet that is whole -/
structure WHOLE (h : HD) (o d : List Int) : Prop where
  wf : h.WF
  mf : h.mf = false
  off : h.off = 0
  right : Rightly h.off h.mf o.length d.length
  op : BD 255 o
  bd : BD 255 d
  pos : 0 < d.length
theorem GST.ok (H : GST now h o d p g) (W : WHOLE h o d) (hF : ∀ q ∈ p, FRG h o d q) (hp : p.Pairwise apartF) : okG g = true := by
  unfold okG
  rw [H.done hF hp W.pos]
  by_cases hs : sumF p = d.length
  · obtain ⟨h1, h2, h3, h4⟩ := H.full hF hp W.pos hs
    rw [h1, h2, h3, rightB_yes W.right]; simp
  · rw [decide_eq_false hs]; rfl
theorem GST.pkt (H : GST now h o d p g) (W : WHOLE h o d) (hF : ∀ q ∈ p, FRG h o d q) (hp : p.Pairwise apartF) (hs : sumF p = d.length) : pktB g.h g.o (asmP g.total.toNat g.ps) = pktB h o d := by
  obtain ⟨h1, h2, h3, h4⟩ := H.full hF hp W.pos hs
  rw [h1, h2, h3, h4, Int.toNat_natCast, asm_all hF hp hs]

/-! ### a step, for the one group -/
def stepM (now : Int) (h : HD) (m : Option AG) (f : FR) : Option AG × List Int × Int :=
  if (m.getD (newG now h)).dead then (some (m.getD (newG now h)), [], 71)
  else match addG (m.getD (newG now h)) f with
    | none => (some (deadG (m.getD (newG now h))), [], 71)
    | some g' => if doneG g' then (none, pktB g'.h g'.o (asmP g'.total.toNat g'.ps), 0) else (some g', [], 0)
def GSTO (now : Int) (h : HD) (o d : List Int) (p : List FR) (m : Option AG) : Prop := GST now h o d p (m.getD (newG now h)) ∧ (p = [] → m = none) ∧ (m = none → p = [])
theorem GSTO.nil (now : Int) (h : HD) (o d : List Int) : GSTO now h o d [] none := ⟨GST.new now h o d, fun _ => rfl, fun _ => rfl⟩
variable {m : Option AG}
theorem addG_yes (H : GST now h o d p g) (W : WHOLE h o d) (hF : ∀ q ∈ p, FRG h o d q) (hp : p.Pairwise apartF) (hf : FRG h o d f) (ha : ∀ q ∈ p, apartF q f) : addG g f = some (putG g f) ∧ GST now h o d (p ++ [f]) (putG g f) := by
  obtain ⟨h1, h2⟩ := H.add hF hf ha
  refine ⟨?_, h2⟩
  have hF2 : ∀ q ∈ p ++ [f], FRG h o d q := fun q hq => by
    rcases List.mem_append.1 hq with hq | hq
    · exact hF q hq
    · simp at hq; subst hq; exact hf
  have hp2 : (p ++ [f]).Pairwise apartF := List.pairwise_append.2 ⟨hp, List.pairwise_singleton _ _, fun q hq x hx => by simp at hx; subst hx; exact ha q hq⟩
  unfold addG
  rw [h1, h2.ok W hF2 hp2]
  rfl
theorem allF (hF : ∀ q ∈ p, FRG h o d q) (hf : FRG h o d f) : ∀ q ∈ p ++ [f], FRG h o d q := fun q hq => by
  rcases List.mem_append.1 hq with hq | hq
  · exact hF q hq
  · simp at hq; subst hq; exact hf
theorem allP (hp : p.Pairwise apartF) (ha : ∀ q ∈ p, apartF q f) : (p ++ [f]).Pairwise apartF := List.pairwise_append.2 ⟨hp, List.pairwise_singleton _ _, fun q hq x hx => by simp at hx; subst hx; exact ha q hq⟩
theorem stepM_live (H : GSTO now h o d p m) (W : WHOLE h o d) (hF : ∀ q ∈ p, FRG h o d q) (hp : p.Pairwise apartF) (hf : FRG h o d f) (ha : ∀ q ∈ p, apartF q f) :
    if sumF (p ++ [f]) = d.length then stepM now h m f = (none, pktB h o d, 0) else ∃ g', stepM now h m f = (some g', [], 0) ∧ GSTO now h o d (p ++ [f]) (some g') := by
  obtain ⟨h1, h2⟩ := addG_yes H.1 W hF hp hf ha
  have h3 := h2.done (allF hF hf) (allP hp ha) W.pos
  unfold stepM
  rw [H.1.dead, h1]
  simp only
  rw [h3]
  split
  · rename_i hs
    rw [decide_eq_true hs]
    simp only [if_true]
    rw [h2.pkt W (allF hF hf) (allP hp ha) hs]
    rfl
  · rename_i hs
    rw [decide_eq_false hs]
    exact ⟨_, rfl, h2, fun h => by simp at h, fun h => by cases h⟩
theorem stepM_dies (H : GSTO now h o d p m) (hq : q ∈ p) (h1 : q.b < f.e) (h2 : f.b < q.e) : ∃ g, m = some g ∧ GST now h o d p g ∧ stepM now h m f = (some (deadG g), [], 71) := by
  obtain ⟨H1, _, H3⟩ := H
  cases m with
  | none => have := H3 rfl; subst this; cases hq
  | some g =>
    refine ⟨g, rfl, H1, ?_⟩
    have h3 := H1.dies hq h1 h2
    have h4 : addG g f = none := by
      unfold addG
      rw [show diesG g f = true from h3]; rfl
    unfold stepM
    rw [H1.dead, Option.getD_some, h4]
    rfl
theorem stepM_dead (g : AG) (hd : g.dead = true) (f : FR) : stepM now h (some g) f = (some g, [], 71) := by
  unfold stepM
  rw [Option.getD_some, hd]; rfl
end
end Go.Proofs.Ytljbfnabnkkfeaa

/- frag, plain: the fragments of one packet, put into a table. No walk. -/
namespace Go.Proofs.Ytljbfnabnkkfeaa
open Go.RowKit
set_option linter.unusedVariables false
set_option linter.unusedSimpArgs false

def mine (h : HD) (gs : List AG) : List AG := gs.filter (sameK h)
def oth (h : HD) (gs : List AG) : List AG := gs.filter (fun g => !sameK h g)
theorem split_len (h : HD) (gs : List AG) : gs.length = (mine h gs).length + (oth h gs).length := by
  unfold mine oth
  induction gs with
  | nil => rfl
  | cons g gs ih =>
    rw [List.filter_cons, List.filter_cons]
    cases sameK h g <;> simp <;> omega
theorem oth_nil {h : HD} {gs : List AG} (ho : oth h gs = []) : gs = mine h gs := by
  unfold mine
  refine (List.filter_eq_self.2 fun g hg => ?_).symm
  have := List.filter_eq_nil_iff.1 ho g hg
  simpa using this
theorem mine_none {h : HD} {gs : List AG} (hm : mine h gs = []) : ∀ g ∈ gs, sameK h g = false := fun g hg => by
  have := List.filter_eq_nil_iff.1 hm g hg
  simpa using this
theorem filt_yes {h : HD} {A : List AG} (hA : ∀ x ∈ A, sameK h x = false) : A.filter (sameK h) = [] := List.filter_eq_nil_iff.2 fun x hx => by simp [hA x hx]
theorem filt_no {h : HD} {A : List AG} (hA : ∀ x ∈ A, sameK h x = false) : A.filter (fun g => !sameK h g) = A := List.filter_eq_self.2 fun x hx => by simp [hA x hx]
theorem mine_some {h : HD} {gs : List AG} {g : AG} (hm : mine h gs = [g]) : ∃ A B, gs = A ++ g :: B ∧ (∀ x ∈ A, sameK h x = false) ∧ (∀ x ∈ B, sameK h x = false) ∧ sameK h g = true := by
  unfold mine at hm
  obtain ⟨A, B, h1, h2, h3, h4⟩ := List.filter_eq_cons_iff.1 hm
  refine ⟨A, B, h1, fun x hx => by simpa using h2 x hx, fun x hx => ?_, h3⟩
  have := List.filter_eq_nil_iff.1 h4 x hx
  simpa using this
theorem mine_at {h : HD} {A B : List AG} (hA : ∀ x ∈ A, sameK h x = false) (hB : ∀ x ∈ B, sameK h x = false) (g : AG) (hg : sameK h g = true) : mine h (A ++ g :: B) = [g] ∧ oth h (A ++ g :: B) = A ++ B := by
  unfold mine oth
  rw [List.filter_append, List.filter_append, List.filter_cons, List.filter_cons, filt_yes hA, filt_yes hB, filt_no hA, filt_no hB, hg]
  exact ⟨rfl, rfl⟩
theorem mine_cut {h : HD} {A B : List AG} (hA : ∀ x ∈ A, sameK h x = false) (hB : ∀ x ∈ B, sameK h x = false) : mine h (A ++ B) = [] ∧ oth h (A ++ B) = A ++ B := by
  unfold mine oth
  rw [List.filter_append, List.filter_append, filt_yes hA, filt_yes hB, filt_no hA, filt_no hB]
  exact ⟨rfl, rfl⟩
theorem find_mine {h : HD} {A B : List AG} {g : AG} (hA : ∀ x ∈ A, sameK h x = false) (hg : sameK h g = true) : (A ++ g :: B).findIdx? (sameK h) = some A.length := by
  rw [List.findIdx?_append, List.findIdx?_eq_none_iff.2 hA, List.findIdx?_cons, hg]
  simp
theorem dead_same (h : HD) (g : AG) : sameK h (deadG g) = sameK h g := rfl
theorem put_same7 (h : HD) (g : AG) (f : FR) : sameK h (putG g f) = sameK h g := rfl
theorem new_same (h : HD) (now : Int) : sameK h (newG now h) = true := by unfold sameK newG; simp

section
variable {h : HD} {o d : List Int} {f : FR} {T : AT} {now : Int} {m : Option AG}
/-- a group of the list gets a fragment -/
theorem add_step {A B : List AG} {g : AG} (hA : ∀ x ∈ A, sameK h x = false) (hB : ∀ x ∈ B, sameK h x = false) (hg : sameK h g = true) (hm : m.getD (newG now h) = g) :
    ∃ gs', addA (A ++ g :: B) A.length f = (gs', (stepM now h m f).2.1, (stepM now h m f).2.2) ∧ mine h gs' = (stepM now h m f).1.toList ∧ oth h gs' = A ++ B := by
  have h1 : (A ++ g :: B)[A.length]? = some g := by simp
  have hset : ∀ x, (A ++ g :: B).set A.length x = A ++ x :: B := fun x => by simp
  have her : (A ++ g :: B).eraseIdx A.length = A ++ B := by
    rw [List.eraseIdx_append_of_length_le (Nat.le_refl _), Nat.sub_self]; rfl
  unfold addA stepM
  rw [h1, hm]
  simp only
  split
  · rename_i hd
    exact ⟨_, rfl, mine_at hA hB g hg⟩
  · rename_i hd
    cases e1 : addG g f with
    | none =>
      simp only
      rw [hset]
      exact ⟨_, rfl, mine_at hA hB (deadG g) hg⟩
    | some g' =>
      obtain ⟨_, e2, _⟩ := addG_some e1
      subst e2
      simp only
      split
      · rw [her]
        exact ⟨_, rfl, mine_cut hA hB⟩
      · rw [hset]
        exact ⟨_, rfl, mine_at hA hB (putG g f) hg⟩
theorem late_no (h1 : T.now ≤ now) (h2 : now ≤ 1099511627776) : lateA T now = false := by unfold lateA; simp; omega
theorem pass_none (hv : ∀ g ∈ T.gs.head?, overG T.life now g = false) : passA T now = { T with now := now } := by
  unfold passA
  congr 1
  cases hT : T.gs with
  | nil => rfl
  | cons g gs => rw [hT] at hv; rw [List.dropWhile_cons, hv g (by simp)]; rfl
def wholeF (f : FR) : Prop := f.h.mf = false ∧ f.h.off = 0
theorem put_as (hl : lateA T now = false) (H : FRG h o d f) (hw : ¬ wholeF f) :
    putA T now (bytesF f) = ({ passA T now with gs := (addA (ofA (passA T now) h).1 (ofA (passA T now) h).2 f).1 }, (addA (ofA (passA T now) h).1 (ofA (passA T now) h).2 f).2.1, (addA (ofA (passA T now) h).1 (ofA (passA T now) h).2 f).2.2) := by
  have P := H.parse
  have e1 : ofA (passA T now) f.h = ofA (passA T now) h := by
    have e2 : sameK f.h = sameK h := funext H.same
    unfold ofA
    rw [e2, H.newG]
  unfold putA
  rw [hl, if_neg (by simp), if_neg (by simp [P.fault]), P.hdE, if_neg (show ¬ (f.h.mf = false ∧ f.h.off = 0) from hw), H.fr]
  simp only
  rw [e1]
theorem put_step' (hl : lateA T now = false) (H : FRG h o d f) (hw : ¬ wholeF f) (hm : mine h (passA T now).gs = m.toList) (hlim : m = none → ((passA T now).gs.length : Int) ≠ T.limit) :
    ∃ gs', putA T now (bytesF f) = ({ passA T now with gs := gs' }, (stepM now h m f).2.1, (stepM now h m f).2.2) ∧ mine h gs' = (stepM now h m f).1.toList ∧ oth h gs' = oth h (passA T now).gs := by
  rw [put_as hl H hw]
  have en : (passA T now).now = now := rfl
  have el : (passA T now).limit = T.limit := rfl
  cases m with
  | none =>
    have h0 := mine_none hm
    have e1 : ofA (passA T now) h = ((passA T now).gs ++ [newG now h], (passA T now).gs.length) := by
      unfold ofA
      rw [List.findIdx?_eq_none_iff.2 h0]
      simp only
      rw [if_neg (by rw [el]; exact hlim rfl), en]
    obtain ⟨gs', h1, h2, h3⟩ := add_step (B := []) (m := none) (f := f) (now := now) h0 (fun x hx => by cases hx) (new_same h now) rfl
    rw [e1]
    simp only
    rw [h1]
    refine ⟨gs', rfl, h2, ?_⟩
    rw [h3, List.append_nil]
    exact (filt_no h0).symm
  | some g =>
    obtain ⟨A, B, hgs, hA, hB, hg⟩ := mine_some (show mine h (passA T now).gs = [g] from hm)
    have e1 : ofA (passA T now) h = (A ++ g :: B, A.length) := by
      unfold ofA
      rw [hgs, find_mine hA hg]
    obtain ⟨gs', h1, h2, h3⟩ := add_step (m := some g) (f := f) (now := now) hA hB hg rfl
    rw [e1]
    simp only
    rw [h1]
    refine ⟨gs', rfl, h2, ?_⟩
    rw [h3, hgs, (mine_at hA hB g hg).2]
theorem put_step (hl : lateA T now = false) (hv : ∀ g ∈ T.gs.head?, overG T.life now g = false) (H : FRG h o d f) (hw : ¬ wholeF f) (hm : mine h T.gs = m.toList) (hlim : m = none → (T.gs.length : Int) ≠ T.limit) :
    ∃ gs', putA T now (bytesF f) = ({ T with now := now, gs := gs' }, (stepM now h m f).2.1, (stepM now h m f).2.2) ∧ mine h gs' = (stepM now h m f).1.toList ∧ oth h gs' = oth h T.gs := by
  have e := pass_none hv
  obtain ⟨gs', h1, h2, h3⟩ := put_step' hl H hw (by rw [e]; exact hm) (by rw [e]; exact hlim)
  rw [e] at h1 h3
  exact ⟨gs', h1, h2, h3⟩

/-! ### many, one after the other -/
structure SEQ (T : AT) (now : Int) (h : HD) (o d : List Int) (p : List FR) (r : AT × List Int × Bool) : Prop where
  ok : r.2.2 = true
  out : r.2.1 = if sumF p = d.length then pktB h o d else []
  lim : r.1.limit = T.limit
  life : r.1.life = T.life
  nowE : r.1.now = now
  mineE : ∃ m, mine h r.1.gs = m.toList ∧ (if sumF p = d.length then m = none else GSTO now h o d p m)
  othE : oth h r.1.gs = oth h T.gs
theorem mem_head {gs : List AG} {P : AG → Prop} (h : ∀ g ∈ gs, P g) : ∀ g ∈ gs.head?, P g := fun g hg => h g (List.mem_of_mem_head? hg)
theorem all_over {gs : List AG} {life : Int} (h1 : ∀ g ∈ mine h gs, overG life now g = false) (h2 : ∀ g ∈ oth h gs, overG life now g = false) : ∀ g ∈ gs, overG life now g = false := fun g hg => by
  by_cases hs : sameK h g = true
  · exact h1 g (List.mem_filter.2 ⟨hg, hs⟩)
  · exact h2 g (List.mem_filter.2 ⟨hg, by simpa using hs⟩)
theorem puts_seq (W : WHOLE h o d) (hnow : now ≤ 1099511627776) : ∀ (fs p : List FR) (T : AT) (m : Option AG), (∀ q ∈ p ++ fs, FRG h o d q) → (∀ q ∈ fs, ¬ wholeF q) → (p ++ fs).Pairwise apartF → T.now ≤ now → 0 < T.life → (∀ g ∈ oth h T.gs, overG T.life now g = false) →
    mine h T.gs = m.toList → GSTO now h o d p m → sumF p < d.length → ((oth h T.gs).length : Int) < T.limit → (fs ≠ [] ∨ T.now = now) → SEQ T now h o d (p ++ fs) (putsA T now [] (fs.map bytesF))
  | [], p, T, m, hF, hW, hP, hn, hli, hO, hm, hG, hs, hlim, hne => by
    have hne2 : ¬ sumF p = d.length := by omega
    refine ⟨rfl, ?_, rfl, rfl, ?_, ⟨m, hm, ?_⟩, rfl⟩
    · rw [List.append_nil, if_neg hne2]; rfl
    · rcases hne with hne | hne
      · exact absurd rfl hne
      · exact hne
    · rw [List.append_nil, if_neg hne2]; exact hG
  | f :: fs, p, T, m, hF, hW, hP, hn, hli, hO, hm, hG, hs, hlim, hne => by
    have hf := hF f (by simp)
    have hFp : ∀ q ∈ p, FRG h o d q := fun q hq => hF q (by simp [hq])
    obtain ⟨hPp, hPf, hPc⟩ := List.pairwise_append.1 hP
    have ha : ∀ q ∈ p, apartF q f := fun q hq => hPc q hq f (by simp)
    have hM : ∀ g ∈ mine h T.gs, overG T.life now g = false := fun g hg => by
      rw [hm] at hg
      cases m with
      | none => cases hg
      | some g0 =>
        simp at hg; subst hg
        unfold overG
        have := hG.1.beg
        rw [Option.getD_some] at this
        rw [this]; simp; omega
    have hlen := split_len h T.gs
    obtain ⟨gs', h1, h2, h3⟩ := put_step (late_no hn hnow) (mem_head (all_over hM hO)) hf (hW f (by simp)) hm (fun e => by subst e; rw [hlen, hm]; simp; omega)
    have h4 := stepM_live hG W hFp hPp hf ha
    have happ : p ++ f :: fs = (p ++ [f]) ++ fs := by simp
    have hsum : sumF (p ++ f :: fs) = sumF (p ++ [f]) + sumF fs := by rw [happ, sumF_append]
    have hall := sum_le hF hP
    cases fs with
    | nil =>
      have e0 : putsA T now [] ([f].map bytesF) = if (stepM now h m f).2.2 ≠ 0 ∨ ([] : List Int) ≠ [] then ({ T with now := now, gs := gs' }, [], false) else ({ T with now := now, gs := gs' }, (stepM now h m f).2.1, true) := by
        show (if (putA T now (bytesF f)).2.2 ≠ 0 ∨ _ then _ else putsA (putA T now (bytesF f)).1 now (putA T now (bytesF f)).2.1 []) = _
        rw [h1]; rfl
      rw [e0]
      split at h4
      · rename_i hsd
        rw [h4] at h2 ⊢
        simp only [ne_eq, not_true_eq_false, or_self, if_false]
        refine ⟨rfl, by rw [if_pos hsd], rfl, rfl, rfl, ⟨none, h2, by rw [if_pos hsd]⟩, h3⟩
      · rename_i hsd
        obtain ⟨g', h5, h6⟩ := h4
        rw [h5] at h2 ⊢
        simp only [ne_eq, not_true_eq_false, or_self, if_false]
        refine ⟨rfl, by rw [if_neg hsd], rfl, rfl, rfl, ⟨some g', h2, by rw [if_neg hsd]; exact h6⟩, h3⟩
    | cons f2 fs =>
      have hf2 := (hF f2 (by simp)).ne
      have hlt : sumF (p ++ [f]) < d.length := by
        rw [sumF_cons] at hsum; omega
      rw [if_neg (by omega)] at h4
      obtain ⟨g', h5, h6⟩ := h4
      rw [h5] at h1 h2
      have e0 : putsA T now [] ((f :: f2 :: fs).map bytesF) = putsA { T with now := now, gs := gs' } now [] ((f2 :: fs).map bytesF) := by
        show (if (putA T now (bytesF f)).2.2 ≠ 0 ∨ _ then _ else putsA (putA T now (bytesF f)).1 now (putA T now (bytesF f)).2.1 ((f2 :: fs).map bytesF)) = _
        rw [h1]; simp
      rw [e0]
      have := puts_seq W hnow (f2 :: fs) (p ++ [f]) { T with now := now, gs := gs' } (some g') (by rw [← happ]; exact hF) (fun q hq => hW q (by simp [hq])) (by rw [← happ]; exact hP) (Int.le_refl _) hli (by rw [show oth h ({ T with now := now, gs := gs' } : AT).gs = oth h T.gs from h3]; exact hO) h2 h6 hlt (by rw [show oth h ({ T with now := now, gs := gs' } : AT).gs = oth h T.gs from h3]; exact hlim) (.inl (by simp))
      rw [← happ] at this
      exact ⟨this.ok, this.out, this.lim, this.life, this.nowE, this.mineE, this.othE.trans h3⟩
end

/-! ### the pieces of a packet -/
section
variable {h : HD} {o d : List Int}
theorem WHOLE.fok (W : WHOLE h o d) : FOK ⟨h, o, d⟩ := by
  obtain ⟨r1, r2, r3, r4, r5, r6, r7, r8, r9⟩ := W.right
  refine ⟨W.wf, ⟨r2, r1, r3⟩, ⟨W.op, r4⟩, W.bd, ?_, fun hm => ?_⟩
  · unfold FR.e FR.b
    have := W.off
    simp only
    omega
  · have : h.mf = false := W.mf
    simp [this] at hm
theorem piece_b (W : WHOLE h o d) (s j : Nat) : (pieceF ⟨h, o, d⟩ s j).b = s * j := by
  unfold FR.b pieceF
  simp only
  rw [W.off]; omega
theorem piece_e (W : WHOLE h o d) {s j : Nat} (hj : s * j < d.length) : (pieceF ⟨h, o, d⟩ s j).e = min (s * (j + 1)) d.length := by
  unfold FR.e
  rw [piece_b W, pieceF_len, Nat.mul_add, Nat.mul_one]
  simp only
  omega
theorem piece_frg (W : WHOLE h o d) {s j : Nat} (hs : 8 ≤ s) (h8 : s % 8 = 0) (hj : s * j < d.length) : FRG h o d (pieceF ⟨h, o, d⟩ s j) := by
  have hr := W.right
  obtain ⟨r1, r2, r3, r4, r5, r6, r7, r8, r9⟩ := W.right
  have hR := pieceF_right (f := ⟨h, o, d⟩) W.fok r5 (by simp only; omega) hs h8 hj (fun hm => by have : h.mf = false := W.mf; simp [this] at hm)
  have hw := pieceF_wf (f := ⟨h, o, d⟩) W.fok hj
  have hl := pieceF_len ⟨h, o, d⟩ s j
  have hb := piece_b W s j
  have he := piece_e W hj
  simp only at hl
  have hm : (pieceF ⟨h, o, d⟩ s j).h.mf = decide (s * (j + 1) < d.length) := by
    show (h.mf || _) = _
    rw [W.mf]; rfl
  have hoff : (pieceF ⟨h, o, d⟩ s j).h.off = ((s * j : Nat) : Int) := by
    show h.off + _ = _
    rw [W.off]; omega
  have hj1 : s * (j + 1) = s * j + s := by rw [Nat.mul_add, Nat.mul_one]
  refine ⟨⟨hw, ?_, ⟨W.op, r4⟩, (W.bd.drop _).take _, ?_, fun hmf => ?_⟩, hR, ?_, rfl, ?_, by omega, by omega, ?_⟩
  · obtain ⟨q1, q2, q3, _⟩ := hR
    exact ⟨q2, q1, q3⟩
  · rw [he]; omega
  · obtain ⟨_, _, _, _, _, _, _, _, q9⟩ := hR
    obtain ⟨q9, q10⟩ := q9 hmf
    omega
  · show { h with off := 0, mf := false } = h
    have e1 := W.off
    have e2 := W.mf
    cases h
    simp only at e1 e2
    subst e1 e2
    rfl
  · show (d.drop (s * j)).take s = (d.drop _).take _
    rw [hb, hl]
    rw [← List.length_drop, List.take_eq_take_iff]
    omega
  · rw [hm, he]; simp; omega
theorem piece_apart (W : WHOLE h o d) {s i j : Nat} (hi : s * i < d.length) (hj : s * j < d.length) (hij : i ≠ j) : apartF (pieceF ⟨h, o, d⟩ s i) (pieceF ⟨h, o, d⟩ s j) := by
  unfold apartF
  rw [piece_e W hi, piece_e W hj, piece_b W, piece_b W]
  rcases Nat.lt_or_gt_of_ne hij with h1 | h1
  · left
    have : s * (i + 1) ≤ s * j := Nat.mul_le_mul_left s h1
    omega
  · right
    have : s * (j + 1) ≤ s * i := Nat.mul_le_mul_left s h1
    omega
theorem sum_range (s n : Nat) : ∀ k, (∀ j, j < k → s * j < n) → ((List.range k).map fun j => min s (n - s * j)).sum = min (s * k) n
  | 0, _ => by simp
  | k + 1, h => by
    rw [List.range_succ, List.map_append, List.sum_append, sum_range s n k (fun j hj => h j (by omega))]
    have := h k (by omega)
    simp only [List.map_cons, List.map_nil, List.sum_cons, List.sum_nil]
    rw [Nat.mul_add, Nat.mul_one]
    omega
theorem pieces_sum (s : Nat) (hs : 1 ≤ s) : sumF (pieces ⟨h, o, d⟩ s) = d.length := by
  unfold sumF bytesP psF pieces
  rw [List.map_map, List.map_map]
  rw [show List.map (((fun p : Nat × List Int => p.2.length) ∘ fun f : FR => (f.b, f.d)) ∘ pieceF ⟨h, o, d⟩ s) (List.range (cnt d.length s)) = (List.range (cnt d.length s)).map (fun j => min s (d.length - s * j)) from List.map_congr_left (fun j hj => pieceF_len ⟨h, o, d⟩ s j)]
  rw [sum_range s d.length _ (fun j hj => (lt_cnt hs).1 hj)]
  have h1 : ¬ s * cnt d.length s < d.length := fun h => by
    have := (lt_cnt hs).2 h; omega
  omega
/-- some of the pieces, each once -/
structure PCS (h : HD) (o d : List Int) (s : Nat) (l : List FR) : Prop where
  all : ∀ q ∈ l, FRG h o d q
  pw : l.Pairwise apartF
  wh : 2 ≤ cnt d.length s → ∀ q ∈ l, ¬ wholeF q
theorem piece_whole (W : WHOLE h o d) {s j : Nat} (hs : 1 ≤ s) (h2 : 2 ≤ cnt d.length s) (hj : j < cnt d.length s) : ¬ wholeF (pieceF ⟨h, o, d⟩ s j) := by
  intro ⟨h3, h4⟩
  have hoff : (pieceF ⟨h, o, d⟩ s j).h.off = ((s * j : Nat) : Int) := by
    show h.off + _ = _
    rw [W.off]; omega
  have hm : (pieceF ⟨h, o, d⟩ s j).h.mf = decide (s * (j + 1) < d.length) := by
    show (h.mf || _) = _
    rw [W.mf]; rfl
  rw [hoff] at h4
  have hj0 : j = 0 := by
    rcases Nat.eq_zero_or_pos j with h | h
    · exact h
    · have := Nat.mul_le_mul hs h; omega
  subst hj0
  rw [hm] at h3
  have := (lt_cnt (n := d.length) (k := 1) hs).1 (by omega)
  simp at h3
  omega
theorem pcs_of (W : WHOLE h o d) {s : Nat} (hs : 8 ≤ s) (h8 : s % 8 = 0) (ix : List Nat) (hx : ∀ j ∈ ix, j < cnt d.length s) (hn : ix.Nodup) : PCS h o d s (ix.map (pieceF ⟨h, o, d⟩ s)) := by
  have hlt : ∀ j ∈ ix, s * j < d.length := fun j hj => (lt_cnt (by omega)).1 (hx j hj)
  refine ⟨fun q hq => ?_, ?_, fun h2 q hq => ?_⟩
  · obtain ⟨j, hj, rfl⟩ := List.mem_map.1 hq
    exact piece_frg W hs h8 (hlt j hj)
  · rw [List.pairwise_map]
    exact hn.imp_of_mem fun {a b} ha hb hab => piece_apart W (hlt a ha) (hlt b hb) hab
  · obtain ⟨j, hj, rfl⟩ := List.mem_map.1 hq
    exact piece_whole W (by omega) h2 (hx j hj)
theorem one_piece (W : WHOLE h o d) {s : Nat} (hs : d.length ≤ s) : pieceF ⟨h, o, d⟩ s 0 = ⟨h, o, d⟩ := by
  unfold pieceF
  simp only [Nat.mul_zero, List.drop_zero]
  rw [List.take_of_length_le hs]
  have : (h.mf || decide (s * (0 + 1) < d.length)) = h.mf := by rw [W.mf]; simp; omega
  rw [this]
  simp
theorem cnt_one {n s : Nat} (hn : 0 < n) (hs : n ≤ s) : cnt n s = 1 := by
  have h1 : ¬ 1 < cnt n s := fun h => by have := (lt_cnt (n := n) (k := 1) (by omega)).1 h; omega
  have := cnt_pos (n := n) (size := s) (by omega) hn
  omega
theorem cnt_two {n s : Nat} (hs : 1 ≤ s) (h : s < n) : 2 ≤ cnt n s := by
  have := (lt_cnt (n := n) (k := 1) hs).2 (by omega)
  omega
theorem WHOLE.parse (W : WHOLE h o d) : PARSED h o d (pktB h o d) := by
  have := parse_pkt (more := []) W.wf W.op W.right
  rwa [List.append_nil] at this
theorem WHOLE.bds (W : WHOLE h o d) : BD 255 (pktB h o d) := pkt_bd W.wf W.op W.right.2.2.2.1 W.bd
theorem WHOLE.fr (W : WHOLE h o d) : frOf (pktB h o d) = ⟨h, o, d⟩ := fr_of (f := ⟨h, o, d⟩) W.parse
/-- Split of a packet that is whole -/
theorem split_whole (W : WHOLE h o d) (hdf : h.df = false) {s : Nat} (hs : 8 ≤ s) (h8 : s % 8 = 0) : splitA (pktB h o d) (s : Int) = ((pieces ⟨h, o, d⟩ s).map bytesF, 0) := by
  have P := W.parse
  unfold splitA
  rw [if_neg (by unfold sizeOk; simp; omega), if_neg (by simp [P.fault]), W.fr, P.hdE, hdf]
  simp only
  by_cases h1 : d.length ≤ s
  · rw [if_pos (by omega)]
    unfold pieces
    simp only
    rw [cnt_one W.pos h1]
    show _ = ([bytesF (pieceF ⟨h, o, d⟩ s 0)], _)
    rw [one_piece W h1, P.total]
    rw [List.take_of_length_le (by rw [pkt_len]; omega)]
    rfl
  · rw [if_neg (by omega), if_neg (by simp), Int.toNat_natCast]
end
end Go.Proofs.Ytljbfnabnkkfeaa

/- frag, plain: pieces of pieces. No walk. -/
namespace Go.Proofs.Ytljbfnabnkkfeaa
open Go.RowKit
set_option linter.unusedVariables false
set_option linter.unusedSimpArgs false

section
variable {h : HD} {o d : List Int}
theorem flatMap_congr' {α β : Type} {l : List α} {f g : α → List β} (h : ∀ x ∈ l, f x = g x) : l.flatMap f = l.flatMap g := by
  induction l with
  | nil => rfl
  | cons a l ih => rw [List.flatMap_cons, List.flatMap_cons, h a (by simp), ih (fun x hx => h x (by simp [hx]))]
theorem cnt8 (n : Nat) : cnt n 8 = (n + 7) / 8 := rfl
theorem piece_piece (W : WHOLE h o d) {q j i : Nat} (hq : 1 ≤ q) (hj : 8 * q * j < d.length) (hi : 8 * i < (pieceF ⟨h, o, d⟩ (8 * q) j).d.length) : pieceF (pieceF ⟨h, o, d⟩ (8 * q) j) 8 i = pieceF ⟨h, o, d⟩ 8 (q * j + i) := by
  have hl := pieceF_len ⟨h, o, d⟩ (8 * q) j
  simp only at hl
  have e1 : 8 * q * (j + 1) = 8 * (q * j) + 8 * q := by rw [Nat.mul_add, Nat.mul_one, Nat.mul_assoc]
  have e2 : 8 * q * j = 8 * (q * j) := Nat.mul_assoc _ _ _
  rw [hl] at hi
  rw [e2] at hi hj hl
  unfold pieceF
  simp only
  rw [e1, e2]
  have e3 : ((d.drop (8 * (q * j))).take (8 * q)).length = min (8 * q) (d.length - 8 * (q * j)) := by simp
  rw [e3]
  generalize q * j = t at *
  have a1 : (((d.drop (8 * t)).take (8 * q)).drop (8 * i)).take 8 = (d.drop (8 * (t + i))).take 8 := by
    rw [List.drop_take, List.drop_drop, List.take_take]
    congr 1
    · omega
    · congr 1; omega
  have a2 : h.off + ((8 * t : Nat) : Int) + ((8 * i : Nat) : Int) = h.off + ((8 * (t + i) : Nat) : Int) := by omega
  have a3 : (h.mf || decide (8 * t + 8 * q < d.length) || decide (8 * (i + 1) < min (8 * q) (d.length - 8 * t))) = (h.mf || decide (8 * (t + i + 1) < d.length)) := by
    rw [W.mf, Bool.false_or, Bool.false_or]
    by_cases h1 : 8 * t + 8 * q < d.length
    · have h9 : i + 1 ≤ q := by omega
      rw [decide_eq_true h1, Bool.true_or, eq_comm, decide_eq_true_eq]; omega
    · rw [decide_eq_false h1, Bool.false_or]
      congr 1
      apply propext
      omega
  rw [a1, a2, a3]
theorem split_piece (W : WHOLE h o d) (hdf : h.df = false) {q j : Nat} (hq : 1 ≤ q) (hj : 8 * q * j < d.length) :
    splitA (bytesF (pieceF ⟨h, o, d⟩ (8 * q) j)) 8 = ((List.range (cnt (pieceF ⟨h, o, d⟩ (8 * q) j).d.length 8)).map (fun i => bytesF (pieceF ⟨h, o, d⟩ 8 (q * j + i))), 0) := by
  have F := piece_frg W (s := 8 * q) (j := j) (by omega) (by omega) hj
  have P := F.parse
  have hp := F.ne
  have hps : ∀ i, i < cnt (pieceF ⟨h, o, d⟩ (8 * q) j).d.length 8 → bytesF (pieceF (pieceF ⟨h, o, d⟩ (8 * q) j) 8 i) = bytesF (pieceF ⟨h, o, d⟩ 8 (q * j + i)) := fun i hi => by
    rw [piece_piece W hq hj ((lt_cnt (by omega)).1 hi)]
  have hm : (pieces (pieceF ⟨h, o, d⟩ (8 * q) j) 8).map bytesF = (List.range (cnt (pieceF ⟨h, o, d⟩ (8 * q) j).d.length 8)).map (fun i => bytesF (pieceF ⟨h, o, d⟩ 8 (q * j + i))) := by
    unfold pieces
    rw [List.map_map]
    apply List.map_congr_left
    intro i hi
    exact hps i (by simpa using hi)
  unfold splitA
  rw [if_neg (by simp [sizeOk]), if_neg (by simp [P.fault]), F.fr, P.hdE]
  by_cases h1 : (pieceF ⟨h, o, d⟩ (8 * q) j).d.length ≤ 8
  · rw [if_pos (by omega), ← hm]
    unfold pieces
    rw [cnt_one hp h1]
    have e1 : pieceF (pieceF ⟨h, o, d⟩ (8 * q) j) 8 0 = pieceF ⟨h, o, d⟩ (8 * q) j := by
      generalize pieceF ⟨h, o, d⟩ (8 * q) j = p at *
      unfold pieceF
      simp only [Nat.mul_zero, List.drop_zero]
      rw [List.take_of_length_le h1]
      have : (p.h.mf || decide (8 * (0 + 1) < p.d.length)) = p.h.mf := by
        rw [decide_eq_false (by omega), Bool.or_false]
      rw [this]
      simp
    show _ = ([bytesF (pieceF (pieceF ⟨h, o, d⟩ (8 * q) j) 8 0)], _)
    rw [e1, P.total, List.take_of_length_le (by show (pktB _ _ _).length ≤ _; rw [pkt_len]; omega)]
  · rw [if_neg (by omega), if_neg (by show ¬ (h.df = true); simp [hdf])]
    have : (8 : Int).toNat = 8 := rfl
    rw [this, hm]
theorem cnt_part {q t n : Nat} (hq : 1 ≤ q) (ht : 8 * t < n) : cnt (min (8 * q) (n - 8 * t)) 8 = min q (cnt n 8 - t) := by
  rw [cnt8, cnt8]; omega
theorem flat_range {α : Type} (X : Nat → α) (q N : Nat) : ∀ k, (∀ j, j < k → q * j < N) → (List.range k).flatMap (fun j => (List.range (min q (N - q * j))).map fun i => X (q * j + i)) = (List.range (min (q * k) N)).map X
  | 0, _ => by simp
  | k + 1, hk => by
    rw [List.range_succ, List.flatMap_append, flat_range X q N k (fun j hj => hk j (by omega))]
    have h1 := hk k (by omega)
    rw [List.flatMap_cons, List.flatMap_nil, List.append_nil, Nat.min_eq_left (by omega : q * k ≤ N)]
    rw [Nat.mul_add, Nat.mul_one]
    have e : min (q * k + q) N = q * k + min q (N - q * k) := by omega
    rw [e, List.range_add, List.map_append, List.map_map]
    rfl
/-- all pieces of all pieces are the pieces -/
theorem pieces_pieces (W : WHOLE h o d) (hdf : h.df = false) {q : Nat} (hq : 1 ≤ q) :
    ((pieces ⟨h, o, d⟩ (8 * q)).map bytesF).flatMap (fun b => (splitA b 8).1) = (pieces ⟨h, o, d⟩ 8).map bytesF := by
  unfold pieces
  simp only
  rw [List.map_map, List.map_map, List.flatMap_map]
  have e1 : (List.range (cnt d.length (8 * q))).flatMap (fun j => (splitA ((bytesF ∘ pieceF ⟨h, o, d⟩ (8 * q)) j) 8).1) = (List.range (cnt d.length (8 * q))).flatMap (fun j => (List.range (min q (cnt d.length 8 - q * j))).map fun i => (bytesF ∘ pieceF ⟨h, o, d⟩ 8) (q * j + i)) := by
    refine flatMap_congr' fun j hj => ?_
    have hj : 8 * q * j < d.length := (lt_cnt (by omega)).1 (by simpa using hj)
    show (splitA (bytesF (pieceF ⟨h, o, d⟩ (8 * q) j)) 8).1 = _
    rw [split_piece W hdf hq hj, pieceF_len]
    simp only
    rw [Nat.mul_assoc] at hj ⊢
    rw [cnt_part hq hj]
    rfl
  rw [e1, flat_range (bytesF ∘ pieceF ⟨h, o, d⟩ 8) q (cnt d.length 8) _ (fun j hj => ?_)]
  · congr 2
    rw [Nat.min_eq_right]
    have h1 : ¬ 8 * q * cnt d.length (8 * q) < d.length := fun h => by
      have := (lt_cnt (by omega)).2 h; omega
    rw [Nat.mul_assoc] at h1
    generalize q * cnt d.length (8 * q) = t at *
    rw [cnt8]; omega
  · have h1 := (lt_cnt (n := d.length) (size := 8 * q) (by omega)).1 hj
    rw [Nat.mul_assoc] at h1
    generalize q * j = t at *
    rw [cnt8]; omega
end
end Go.Proofs.Ytljbfnabnkkfeaa

/- frag, plain: which pieces are there. No walk. -/
namespace Go.Proofs.Ytljbfnabnkkfeaa
open Go.RowKit
set_option linter.unusedVariables false
set_option linter.unusedSimpArgs false

section
variable {h : HD} {o d : List Int}
theorem sum_pos {l : List FR} (hl : ∀ q ∈ l, 0 < q.d.length) : (sumF l = 0 ↔ l = []) ∧ l.length ≤ sumF l := by
  induction l with
  | nil => exact ⟨⟨fun _ => rfl, fun _ => rfl⟩, Nat.zero_le _⟩
  | cons q l ih =>
    have h1 := hl q (by simp)
    have h2 := (ih (fun x hx => hl x (by simp [hx]))).2
    rw [sumF_cons, List.length_cons]
    refine ⟨⟨fun h => by omega, fun h => by cases h⟩, by omega⟩
/-- with the pieces ix there, and iy not: complete if iy is empty -/
theorem sum_parts (W : WHOLE h o d) {s : Nat} (hs : 8 ≤ s) (h8 : s % 8 = 0) {ix iy : List Nat} (hp : (ix ++ iy).Perm (List.range (cnt d.length s))) :
    (sumF (ix.map (pieceF ⟨h, o, d⟩ s)) = d.length ↔ iy = []) ∧ (iy ≠ [] → sumF (ix.map (pieceF ⟨h, o, d⟩ s)) < d.length) := by
  have h1 := sumF_perm (hp.map (pieceF ⟨h, o, d⟩ s))
  have h2 : sumF ((List.range (cnt d.length s)).map (pieceF ⟨h, o, d⟩ s)) = d.length := pieces_sum s (by omega)
  rw [List.map_append, sumF_append, h2] at h1
  have h3 : ∀ q ∈ iy.map (pieceF ⟨h, o, d⟩ s), 0 < q.d.length := fun q hq => by
    obtain ⟨j, hj, rfl⟩ := List.mem_map.1 hq
    have : j ∈ List.range (cnt d.length s) := hp.subset (by simp [hj])
    exact (piece_frg W hs h8 ((lt_cnt (by omega)).1 (by simpa using this))).ne
  have h4 := (sum_pos h3).1
  have h5 : iy.map (pieceF ⟨h, o, d⟩ s) = [] ↔ iy = [] := List.map_eq_nil_iff
  rw [← h5, ← h4]
  refine ⟨⟨fun h => by omega, fun h => by omega⟩, fun h => ?_⟩
  have : ¬ iy.map (pieceF ⟨_, o, d⟩ s) = [] := fun e => h (h5.1 e)
  rw [← h4] at this
  omega
theorem pcs_perm (W : WHOLE h o d) {s : Nat} (hs : 8 ≤ s) (h8 : s % 8 = 0) {ix iy : List Nat} (hp : (ix ++ iy).Perm (List.range (cnt d.length s))) : PCS h o d s (ix.map (pieceF ⟨h, o, d⟩ s)) := by
  refine pcs_of W hs h8 ix (fun j hj => ?_) ?_
  · have := hp.subset (show j ∈ ix ++ iy by simp [hj])
    simpa using this
  · exact (List.nodup_append.1 (hp.nodup_iff.2 List.nodup_range)).1

/-! ### putting whole lists -/
theorem whole_put {T : AT} {now : Int} (W : WHOLE h o d) (hl : lateA T now = false) : putA T now (pktB h o d) = (passA T now, pktB h o d, 0) := by
  have P := W.parse
  unfold putA
  rw [hl, if_neg (by simp), if_neg (by simp [P.fault]), P.hdE, if_pos ⟨W.mf, W.off⟩, P.total, List.take_of_length_le (by rw [pkt_len]; omega)]
/-- all pieces, in any order, into a table without that group -/
theorem puts_all (W : WHOLE h o d) {s : Nat} (hs : 8 ≤ s) (h8 : s % 8 = 0) {σ : List Nat} (hσ : σ.Perm (List.range (cnt d.length s))) {T : AT} {now : Int} (h1 : T.now ≤ now) (h2 : now ≤ 1099511627776) (hl : 0 < T.life) (ho : (passA T now).gs = []) (hlim : 0 < T.limit) :
    ∃ T', putsA T now [] (σ.map (fun i => bytesF (pieceF ⟨h, o, d⟩ s i))) = (T', pktB h o d, true) ∧ T'.gs = [] ∧ T'.limit = T.limit ∧ T'.life = T.life ∧ T'.now = now := by
  have hlen : σ.length = cnt d.length s := by have := hσ.length_eq; simpa using this
  have hc := cnt_pos (n := d.length) (size := s) (by omega) W.pos
  by_cases h3 : d.length ≤ s
  · have h4 := cnt_one W.pos h3
    rw [h4] at hσ hlen
    have e1 : σ = [0] := by
      have : σ.Perm [0] := hσ
      exact List.perm_singleton.1 this
    subst e1
    show ∃ T', (if (putA T now (bytesF (pieceF ⟨h, o, d⟩ s 0))).2.2 ≠ 0 ∨ _ then _ else ((putA T now (bytesF (pieceF ⟨h, o, d⟩ s 0))).1, (putA T now (bytesF (pieceF ⟨h, o, d⟩ s 0))).2.1, true)) = _ ∧ _
    rw [one_piece W h3]
    show ∃ T', (if (putA T now (pktB h o d)).2.2 ≠ 0 ∨ _ then _ else ((putA T now (pktB h o d)).1, (putA T now (pktB h o d)).2.1, true)) = _ ∧ _
    rw [whole_put W (late_no h1 h2)]
    exact ⟨passA T now, by simp, ho, rfl, rfl, rfl⟩
  · have h5 := cnt_two (n := d.length) (s := s) (by omega) (by omega)
    have hp : (σ ++ []).Perm (List.range (cnt d.length s)) := by rw [List.append_nil]; exact hσ
    obtain ⟨P1, P2, P3⟩ := pcs_perm W hs h8 hp
    -- the pass of the first step is the pass of all
    cases hσ0 : σ with
    | nil => rw [hσ0] at hlen; simp at hlen; omega
    | cons i r =>
      rw [hσ0] at P1 P2 P3 hp
      have hpass : putsA T now [] ((i :: r).map (fun i => bytesF (pieceF ⟨h, o, d⟩ s i))) = putsA (passA T now) now [] ((i :: r).map (fun i => bytesF (pieceF ⟨h, o, d⟩ s i))) := by
        have hi := P1 (pieceF ⟨h, o, d⟩ s i) (by simp)
        have hw := P3 h5 (pieceF ⟨h, o, d⟩ s i) (by simp)
        have e2 : passA (passA T now) now = passA T now := by
          unfold passA
          have : (passA T now).gs = [] := ho
          unfold passA at this
          simp only at this ⊢
          rw [this]; rfl
        have e3 : putA T now (bytesF (pieceF ⟨h, o, d⟩ s i)) = putA (passA T now) now (bytesF (pieceF ⟨h, o, d⟩ s i)) := by
          rw [put_as (late_no h1 h2) hi hw, put_as (late_no (T := passA T now) (now := now) (Int.le_refl _) h2) hi hw, e2]
        show (if (putA T now (bytesF (pieceF ⟨h, o, d⟩ s i))).2.2 ≠ 0 ∨ _ then _ else putsA (putA T now (bytesF (pieceF ⟨h, o, d⟩ s i))).1 now (putA T now (bytesF (pieceF ⟨h, o, d⟩ s i))).2.1 _) = _
        rw [e3]; rfl
      rw [hpass]
      have e4 : (i :: r).map (fun i => bytesF (pieceF ⟨h, o, d⟩ s i)) = ((i :: r).map (pieceF ⟨h, o, d⟩ s)).map bytesF := by rw [List.map_map]; rfl
      rw [e4]
      have S := puts_seq W h2 ((i :: r).map (pieceF ⟨h, o, d⟩ s)) [] (passA T now) none (by simpa using P1) (P3 h5) (by simpa using P2) (Int.le_refl _) hl (by rw [ho]; intro g hg; cases hg) (by rw [ho]; rfl) (GSTO.nil _ _ _ _) W.pos (by rw [ho]; show ((0 : Nat) : Int) < T.limit; omega) (.inl (by simp))
      have hfull := (sum_parts W hs h8 hp).1.2 rfl
      obtain ⟨s1, s2, s3, s4, s5, ⟨m, s6, s7⟩, s8⟩ := S
      rw [List.nil_append] at s2 s7
      rw [if_pos hfull] at s2 s7
      subst s7
      refine ⟨_, Prod.ext rfl (Prod.ext s2 s1), ?_, s3, s4, s5⟩
      rw [oth_nil (s8.trans (by rw [ho]; rfl)), s6]
      rfl
/-- some pieces, not all, in any order, into an empty table -/
theorem puts_some (W : WHOLE h o d) {s : Nat} (hs : 8 ≤ s) (h8 : s % 8 = 0) {σ iy : List Nat} (hσ : (σ ++ iy).Perm (List.range (cnt d.length s))) (h0 : σ ≠ []) (hy : iy ≠ []) {T : AT} {now : Int} (h1 : T.now ≤ now) (h2 : now ≤ 1099511627776) (hl : 0 < T.life) (ho : T.gs = []) (hlim : 0 < T.limit) :
    ∃ T' g, putsA T now [] (σ.map (fun i => bytesF (pieceF ⟨h, o, d⟩ s i))) = (T', [], true) ∧ T'.gs = [g] ∧ GST now h o d (σ.map (pieceF ⟨h, o, d⟩ s)) g ∧ T'.limit = T.limit ∧ T'.life = T.life ∧ T'.now = now := by
  have h5 : 2 ≤ cnt d.length s := by
    have := hσ.length_eq
    simp only [List.length_append, List.length_range] at this
    have := List.length_pos_iff.2 h0
    have := List.length_pos_iff.2 hy
    omega
  obtain ⟨P1, P2, P3⟩ := pcs_perm W hs h8 hσ
  have e4 : σ.map (fun i => bytesF (pieceF ⟨h, o, d⟩ s i)) = (σ.map (pieceF ⟨h, o, d⟩ s)).map bytesF := by rw [List.map_map]; rfl
  rw [e4]
  have S := puts_seq W h2 (σ.map (pieceF ⟨h, o, d⟩ s)) [] T none (by simpa using P1) (P3 h5) (by simpa using P2) h1 hl (by rw [ho]; intro g hg; cases hg) (by rw [ho]; rfl) (GSTO.nil _ _ _ _) W.pos (by rw [ho]; show ((0 : Nat) : Int) < T.limit; omega) (.inl (by simpa using h0))
  have hless := (sum_parts W hs h8 hσ).2 hy
  obtain ⟨s1, s2, s3, s4, s5, ⟨m, s6, s7⟩, s8⟩ := S
  rw [List.nil_append] at s2 s7
  rw [if_neg (by omega)] at s2 s7
  cases m with
  | none =>
    have := s7.2.2 rfl
    simp at this
    exact absurd this h0
  | some g =>
    refine ⟨_, g, Prod.ext rfl (Prod.ext s2 s1), ?_, s7.1, s3, s4, s5⟩
    rw [oth_nil (s8.trans (by rw [ho]; rfl)), s6]
    rfl
/-- a piece more -/
theorem put_one (W : WHOLE h o d) {s : Nat} (hs : 8 ≤ s) (h8 : s % 8 = 0) {σ iy : List Nat} {k : Nat} (hσ : (σ ++ k :: iy).Perm (List.range (cnt d.length s))) (h2 : 2 ≤ cnt d.length s) {T : AT} {now beg : Int} {m : Option AG} (hl : lateA T now = false) (hb : (passA T now).gs = m.toList) (hm : GSTO now h o d (σ.map (pieceF ⟨h, o, d⟩ s)) m ∨ ∃ g, m = some g ∧ GST beg h o d (σ.map (pieceF ⟨h, o, d⟩ s)) g ∧ σ ≠ []) (hlim : 0 < T.limit) :
    if iy = [] then putA T now (bytesF (pieceF ⟨h, o, d⟩ s k)) = ({ passA T now with gs := [] }, pktB h o d, 0)
    else ∃ g, putA T now (bytesF (pieceF ⟨h, o, d⟩ s k)) = ({ passA T now with gs := [g] }, [], 0) ∧ GST (m.elim now AG.begin_) h o d ((σ ++ [k]).map (pieceF ⟨h, o, d⟩ s)) g := by
  have hp2 : ((σ ++ [k]) ++ iy).Perm (List.range (cnt d.length s)) := by rw [List.append_assoc]; exact hσ
  obtain ⟨P1, P2, P3⟩ := pcs_perm W hs h8 hp2
  have hS := sum_parts W hs h8 hp2
  rw [List.map_append, List.map_cons, List.map_nil] at P1 P2 P3 hS ⊢
  have hf := P1 (pieceF ⟨h, o, d⟩ s k) (by simp)
  obtain ⟨Q1, Q2, Q3⟩ := List.pairwise_append.1 P2
  have ha : ∀ q ∈ σ.map (pieceF ⟨h, o, d⟩ s), apartF q (pieceF ⟨h, o, d⟩ s k) := fun q hq => Q3 q hq _ (by simp)
  have hF : ∀ q ∈ σ.map (pieceF ⟨h, o, d⟩ s), FRG h o d q := fun q hq => P1 q (by simp only [List.mem_append]; exact .inl hq)
  have hmine : mine h (passA T now).gs = m.toList := by
    rw [hb]
    cases m with
    | none => rfl
    | some g =>
      have hg : sameK h g = true := by
        rcases hm with hm | ⟨g', e, hm, _⟩
        · exact hm.1.same
        · cases e; exact hm.same
      show [g].filter (sameK h) = [g]
      rw [List.filter_cons, hg]; rfl
  have hoth : oth h (passA T now).gs = [] := by
    rw [hb]
    cases m with
    | none => rfl
    | some g =>
      have hg : sameK h g = true := by
        rcases hm with hm | ⟨g', e, hm, _⟩
        · exact hm.1.same
        · cases e; exact hm.same
      show [g].filter (fun g => !sameK h g) = []
      rw [List.filter_cons, hg]; rfl
  obtain ⟨gs', h3, h4, h5⟩ := put_step' hl hf (P3 h2 _ (by simp)) hmine (fun e => by subst e; rw [hb]; show ((0 : Nat) : Int) ≠ _; omega)
  rw [hoth] at h5
  have h6 := oth_nil h5
  rw [h4] at h6
  rw [h3, h6]
  -- what the step gives
  have key : if sumF (σ.map (pieceF ⟨h, o, d⟩ s) ++ [pieceF ⟨h, o, d⟩ s k]) = d.length then stepM now h m (pieceF ⟨h, o, d⟩ s k) = (none, pktB h o d, 0) else ∃ g', stepM now h m (pieceF ⟨h, o, d⟩ s k) = (some g', [], 0) ∧ GST (m.elim now AG.begin_) h o d (σ.map (pieceF ⟨h, o, d⟩ s) ++ [pieceF ⟨h, o, d⟩ s k]) g' := by
    rcases hm with hm | ⟨g, rfl, hm, hne⟩
    · have := stepM_live hm W hF Q1 hf ha
      split
      · rename_i hc; rw [if_pos hc] at this; exact this
      · rename_i hc
        rw [if_neg hc] at this
        obtain ⟨g', e, e2⟩ := this
        refine ⟨g', e, ?_⟩
        have e3 : (m.elim now AG.begin_) = now := by
          cases m with
          | none => rfl
          | some g => exact hm.1.beg
        rw [e3]
        exact e2.1
    · have hG : GSTO beg h o d (σ.map (pieceF ⟨h, o, d⟩ s)) (some g) := ⟨hm, fun e => absurd (List.map_eq_nil_iff.1 e) hne, fun e => by cases e⟩
      have := stepM_live hG W hF Q1 hf ha
      have e3 : ((some g).elim now AG.begin_) = beg := hm.beg
      rw [e3]
      have e4 : stepM now h (some g) (pieceF ⟨h, o, d⟩ s k) = stepM beg h (some g) (pieceF ⟨h, o, d⟩ s k) := rfl
      rw [e4]
      split
      · rename_i hc; rw [if_pos hc] at this; exact this
      · rename_i hc
        rw [if_neg hc] at this
        obtain ⟨g', e, e2⟩ := this
        exact ⟨g', e, e2.1⟩
  by_cases hiy : iy = []
  · rw [if_pos hiy]
    rw [if_pos (hS.1.2 hiy)] at key
    rw [key]
    rfl
  · rw [if_neg hiy]
    have := hS.2 hiy
    rw [if_neg (by omega)] at key
    obtain ⟨g', e, e2⟩ := key
    rw [e]
    exact ⟨g', rfl, e2⟩
end
end Go.Proofs.Ytljbfnabnkkfeaa

/- frag, plain: a piece twice; the pieces of two packets, mixed. No walk. -/
namespace Go.Proofs.Ytljbfnabnkkfeaa
open Go.RowKit
set_option linter.unusedVariables false
set_option linter.unusedSimpArgs false

theorem drop_at {α : Type} {l : List α} {i : Nat} {a : α} (h : l[i]? = some a) : l.take (i + 1) = l.take i ++ [a] ∧ l.drop i = a :: l.drop (i + 1) := by
  obtain ⟨h1, rfl⟩ := List.getElem?_eq_some_iff.1 h
  refine ⟨?_, List.drop_eq_getElem_cons h1⟩
  rw [List.take_add_one, h]; rfl
section
variable {h : HD} {o d : List Int}
theorem pkt_ne (h : HD) (o d : List Int) : pktB h o d ≠ [] := fun e => by
  have := pkt_len h o d
  rw [e] at this
  simp at this
  omega
/-- the pieces, and one more -/
def allX (h : HD) (o d : List Int) (s : Nat) (X : FR) (j : Nat) : FR := if j < cnt d.length s then pieceF ⟨h, o, d⟩ s j else X
structure EXTRA (h : HD) (o d : List Int) (s : Nat) (k : Nat) (X : FR) : Prop where
  frg : FRG h o d X
  wh : ¬ wholeF X
  lt : k < cnt d.length s
  b : X.b = s * k
  len : X.d.length ≤ (pieceF ⟨h, o, d⟩ s k).d.length
variable {s k : Nat} {X : FR}
theorem allX_frg (W : WHOLE h o d) (hs : 8 ≤ s) (h8 : s % 8 = 0) (E : EXTRA h o d s k X) (h2 : 2 ≤ cnt d.length s) (j : Nat) : FRG h o d (allX h o d s X j) ∧ ¬ wholeF (allX h o d s X j) := by
  unfold allX
  split
  · rename_i hj
    exact ⟨piece_frg W hs h8 ((lt_cnt (by omega)).1 hj), piece_whole W (by omega) h2 hj⟩
  · exact ⟨E.frg, E.wh⟩
theorem allX_apart (W : WHOLE h o d) (hs : 8 ≤ s) (h8 : s % 8 = 0) (E : EXTRA h o d s k X) {a b : Nat} (ha : a ≤ cnt d.length s) (hb : b ≤ cnt d.length s) (hab : a ≠ b) (hn : ¬ ((a = k ∧ b = cnt d.length s) ∨ (b = k ∧ a = cnt d.length s))) : apartF (allX h o d s X a) (allX h o d s X b) := by
  have hk := (lt_cnt (n := d.length) (size := s) (by omega)).1 E.lt
  have key : ∀ a, a < cnt d.length s → a ≠ k → apartF (pieceF ⟨h, o, d⟩ s a) X := fun a ha hak => by
    have ha2 := (lt_cnt (n := d.length) (size := s) (by omega)).1 ha
    have h1 := piece_apart W ha2 hk hak
    have h3 := piece_b W s k
    have h5 := E.b
    have h6 := E.len
    have h7 : X.e = X.b + X.d.length := rfl
    have h8 : (pieceF ⟨h, o, d⟩ s k).e = (pieceF ⟨h, o, d⟩ s k).b + (pieceF ⟨h, o, d⟩ s k).d.length := rfl
    unfold apartF at *
    rcases h1 with h1 | h1
    · left; omega
    · right; omega
  unfold allX
  by_cases h1 : a < cnt d.length s
  · rw [if_pos h1]
    by_cases h3 : b < cnt d.length s
    · rw [if_pos h3]
      exact piece_apart W ((lt_cnt (by omega)).1 h1) ((lt_cnt (by omega)).1 h3) hab
    · rw [if_neg h3]
      exact key a h1 (fun e => hn (.inl ⟨e, by omega⟩))
  · rw [if_neg h1, if_pos (by omega)]
    exact (key b (by omega) (fun e => hn (.inr ⟨e, by omega⟩))).symm
theorem allX_over (W : WHOLE h o d) (hs : 8 ≤ s) (h8 : s % 8 = 0) (E : EXTRA h o d s k X) {a b : Nat} (hn : (a = k ∧ b = cnt d.length s) ∨ (b = k ∧ a = cnt d.length s)) : (allX h o d s X a).b < (allX h o d s X b).e ∧ (allX h o d s X b).b < (allX h o d s X a).e := by
  have hk := (lt_cnt (n := d.length) (size := s) (by omega)).1 E.lt
  have h1 := (piece_frg W hs h8 hk).ne
  have h2 := E.frg.ne
  have h3 := piece_b W s k
  have h5 := E.b
  have h7 : X.e = X.b + X.d.length := rfl
  have h9 : (pieceF ⟨h, o, d⟩ s k).e = (pieceF ⟨h, o, d⟩ s k).b + (pieceF ⟨h, o, d⟩ s k).d.length := rfl
  have hkl := E.lt
  rcases hn with ⟨rfl, rfl⟩ | ⟨rfl, rfl⟩
  · unfold allX
    rw [if_pos hkl, if_neg (by omega)]
    omega
  · unfold allX
    rw [if_pos hkl, if_neg (by omega)]
    omega
/-- how the group stands when i of the packets were put -/
def DLIVE (now : Int) (h : HD) (o d : List Int) (s k : Nat) (X : FR) (σ : List Nat) (i : Nat) (gs : List AG) : Prop :=
  ¬ (k ∈ σ.take i ∧ cnt d.length s ∈ σ.take i) ∧ (∃ m : Option AG, gs = m.toList ∧ GSTO now h o d ((σ.take i).map (allX h o d s X)) m) ∧ sumF ((σ.take i).map (allX h o d s X)) < d.length
def DDEAD (now : Int) (h : HD) (gs : List AG) : Prop := ∃ g, gs = [g] ∧ g.dead = true ∧ g.begin_ = now ∧ g.ps = [] ∧ sameK h g = true
theorem DLIVE.start (W : WHOLE h o d) (now : Int) (s k : Nat) (X : FR) (σ : List Nat) : DLIVE now h o d s k X σ 0 [] :=
  ⟨fun h => (by cases h.1), ⟨none, rfl, GSTO.nil _ _ _ _⟩, W.pos⟩
theorem mine_one {h : HD} {m : Option AG} (hm : ∀ g, m = some g → sameK h g = true) : mine h m.toList = m.toList ∧ oth h m.toList = [] := by
  cases m with
  | none => exact ⟨rfl, rfl⟩
  | some g =>
    have hg := hm g rfl
    constructor
    · show [g].filter (sameK h) = [g]
      rw [List.filter_cons, hg]; rfl
    · show [g].filter (fun g => !sameK h g) = []
      rw [List.filter_cons, hg]; rfl
theorem dead_step (W : WHOLE h o d) (hs : 8 ≤ s) (h8 : s % 8 = 0) (E : EXTRA h o d s k X) (h2 : 2 ≤ cnt d.length s) {σ : List Nat} (hσ : σ.Perm (List.range (cnt d.length s + 1))) {i a : Nat} (ha : σ[i]? = some a) {T : AT} {now : Int} (hn : T.now ≤ now) (hnow : now ≤ 1099511627776) (hlife : 0 < T.life) (hlim : 0 < T.limit) :
    (DLIVE now h o d s k X σ i T.gs → (∃ gs', putA T now (bytesF (allX h o d s X a)) = ({ T with now := now, gs := gs' }, pktB h o d, 0) ∧ i + 1 = cnt d.length s) ∨ (∃ gs', putA T now (bytesF (allX h o d s X a)) = ({ T with now := now, gs := gs' }, [], 0) ∧ DLIVE now h o d s k X σ (i + 1) gs') ∨ (∃ gs', putA T now (bytesF (allX h o d s X a)) = ({ T with now := now, gs := gs' }, [], 71) ∧ DDEAD now h gs')) ∧
    (DDEAD now h T.gs → ∃ gs', putA T now (bytesF (allX h o d s X a)) = ({ T with now := now, gs := gs' }, [], 71) ∧ DDEAD now h gs') := by
  obtain ⟨hf, hw⟩ := allX_frg W hs h8 E h2 a
  obtain ⟨t1, t2⟩ := drop_at ha
  have hsplit : (σ.take i ++ a :: σ.drop (i + 1)).Perm (List.range (cnt d.length s + 1)) := by rw [← t2, List.take_append_drop]; exact hσ
  have hnd : (σ.take i ++ a :: σ.drop (i + 1)).Nodup := hsplit.nodup_iff.2 List.nodup_range
  obtain ⟨nd1, nd2, nd3⟩ := List.nodup_append.1 hnd
  have hmem : ∀ x ∈ σ.take i ++ a :: σ.drop (i + 1), x ≤ cnt d.length s := fun x hx => by
    have := hsplit.subset hx
    simp at this; omega
  have hal := hmem a (by simp)
  have hne : ∀ b ∈ σ.take i, b ≠ a := fun b hb => nd3 b hb a (by simp)
  constructor
  · rintro ⟨l1, ⟨m, l2, l3⟩, l4⟩
    have hF : ∀ q ∈ (σ.take i).map (allX h o d s X), FRG h o d q := fun q hq => by
      obtain ⟨j, _, rfl⟩ := List.mem_map.1 hq
      exact (allX_frg W hs h8 E h2 j).1
    have hP : ((σ.take i).map (allX h o d s X)).Pairwise apartF := by
      rw [List.pairwise_map]
      refine nd1.imp_of_mem fun {x y} hx hy hxy => allX_apart W hs h8 E (hmem x (by simp only [List.mem_append]; exact .inl hx)) (hmem y (by simp only [List.mem_append]; exact .inl hy)) hxy fun hc => ?_
      rcases hc with ⟨rfl, rfl⟩ | ⟨rfl, rfl⟩
      · exact l1 ⟨hx, hy⟩
      · exact l1 ⟨hy, hx⟩
    have hsm : ∀ g, m = some g → sameK h g = true := fun g e => by subst e; exact l3.1.same
    obtain ⟨m1, m2⟩ := mine_one hsm
    have hv : ∀ g ∈ T.gs, overG T.life now g = false := fun g hg => by
      rw [l2] at hg
      cases m with
      | none => cases hg
      | some g0 =>
        simp at hg; subst hg
        have := l3.1.beg
        unfold overG
        rw [show g.begin_ = now from this]; simp; omega
    obtain ⟨gs', h3, h4, h5⟩ := put_step (m := m) (late_no hn hnow) (mem_head hv) hf hw (by rw [l2]; exact m1) (fun e => by subst e; rw [l2]; show ((0 : Nat) : Int) ≠ _; omega)
    rw [l2, m2] at h5
    have h6 := oth_nil h5
    rw [h4] at h6
    by_cases hap : ∃ b ∈ σ.take i, (b = k ∧ a = cnt d.length s) ∨ (a = k ∧ b = cnt d.length s)
    · obtain ⟨b, hb, hc⟩ := hap
      obtain ⟨v1, v2⟩ := allX_over W hs h8 E hc
      obtain ⟨g, e1, e2, e3⟩ := stepM_dies l3 (List.mem_map.2 ⟨b, hb, rfl⟩) v1 v2
      rw [e3] at h3 h6
      right; right
      exact ⟨gs', h3, deadG g, h6, rfl, e2.beg, rfl, e2.same⟩
    · have hA : ∀ q ∈ (σ.take i).map (allX h o d s X), apartF q (allX h o d s X a) := fun q hq => by
        obtain ⟨b, hb, rfl⟩ := List.mem_map.1 hq
        exact allX_apart W hs h8 E (hmem b (by simp only [List.mem_append]; exact .inl hb)) hal (hne b hb) fun hc => hap ⟨b, hb, hc⟩
      have h7 := stepM_live l3 W hF hP hf hA
      have e8 : (σ.take i).map (allX h o d s X) ++ [allX h o d s X a] = (σ.take (i + 1)).map (allX h o d s X) := by rw [t1, List.map_append]; rfl
      rw [e8] at h7
      have hle := sum_le (allF hF hf) (allP hP hA)
      rw [e8] at hle
      have l1' : ¬ (k ∈ σ.take (i + 1) ∧ cnt d.length s ∈ σ.take (i + 1)) := by
        rw [t1]
        simp only [List.mem_append, List.mem_singleton]
        rintro ⟨c1 | c1, c2 | c2⟩
        · exact l1 ⟨c1, c2⟩
        · exact hap ⟨k, c1, .inl ⟨rfl, c2.symm⟩⟩
        · exact hap ⟨_, c2, .inr ⟨c1.symm, rfl⟩⟩
        · have := E.lt; omega
      split at h7
      · rename_i hc
        rw [h7] at h3
        left
        refine ⟨gs', h3, ?_⟩
        -- what is left is one packet
        have hrest : (σ.drop (i + 1)).length = 1 := by
          have hs1 := sumF_perm (hsplit.map (allX h o d s X))
          have hs2 : sumF ((List.range (cnt d.length s + 1)).map (allX h o d s X)) = d.length + X.d.length := by
            rw [List.range_succ, List.map_append, sumF_append]
            have e1 : (List.range (cnt d.length s)).map (allX h o d s X) = pieces ⟨h, o, d⟩ s := by
              unfold pieces
              apply List.map_congr_left
              intro j hj
              unfold allX
              rw [if_pos (by simpa using hj)]
            have e2 : [cnt d.length s].map (allX h o d s X) = [X] := by
              show [allX h o d s X _] = _
              unfold allX
              rw [if_neg (by omega)]
            rw [e1, e2, pieces_sum s (by omega), sumF_one]
          rw [hs2] at hs1
          have e9 : σ.take i ++ a :: σ.drop (i + 1) = σ.take (i + 1) ++ σ.drop (i + 1) := by rw [t1, List.append_assoc]; rfl
          rw [e9, List.map_append, sumF_append, hc] at hs1
          have hpos : ∀ q ∈ (σ.drop (i + 1)).map (allX h o d s X), 0 < q.d.length := fun q hq => by
            obtain ⟨j, _, rfl⟩ := List.mem_map.1 hq
            exact (allX_frg W hs h8 E h2 j).1.ne
          have hin : k ∈ σ.drop (i + 1) ∨ cnt d.length s ∈ σ.drop (i + 1) := by
            have q1 : k ∈ σ.take (i + 1) ++ σ.drop (i + 1) := by rw [← e9]; exact hsplit.mem_iff.2 (by have := E.lt; simp; omega)
            have q2 : cnt d.length s ∈ σ.take (i + 1) ++ σ.drop (i + 1) := by rw [← e9]; exact hsplit.mem_iff.2 (by simp)
            rcases List.mem_append.1 q1 with q1 | q1
            · rcases List.mem_append.1 q2 with q2 | q2
              · exact absurd ⟨q1, q2⟩ l1'
              · exact .inr q2
            · exact .inl q1
          have hbig : ∃ x ∈ σ.drop (i + 1), X.d.length ≤ (allX h o d s X x).d.length := by
            rcases hin with hin | hin
            · refine ⟨k, hin, ?_⟩
              unfold allX
              rw [if_pos E.lt]; exact E.len
            · refine ⟨_, hin, ?_⟩
              unfold allX
              rw [if_neg (by omega)]; exact Nat.le_refl _
          obtain ⟨x, hx, hxl⟩ := hbig
          obtain ⟨r, hr⟩ : ∃ r, (σ.drop (i + 1)).Perm (x :: r) := ⟨_, List.perm_cons_erase hx⟩
          have hs3 := sumF_perm (hr.map (allX h o d s X))
          rw [List.map_cons, sumF_cons] at hs3
          have hs4 : sumF (r.map (allX h o d s X)) = 0 := by omega
          have hs5 := (sum_pos (l := r.map (allX h o d s X)) (fun q hq => by
            obtain ⟨j, hj, rfl⟩ := List.mem_map.1 hq
            exact (allX_frg W hs h8 E h2 j).1.ne)).1.1 hs4
          have hs6 : r = [] := List.map_eq_nil_iff.1 hs5
          rw [hr.length_eq, hs6]; rfl
        have hlen := hσ.length_eq
        rw [List.length_range] at hlen
        rw [List.length_drop, hlen] at hrest
        omega
      · rename_i hc
        obtain ⟨g', e1, e2⟩ := h7
        rw [e1] at h3 h6
        right; left
        exact ⟨gs', h3, l1', ⟨some g', h6, e2⟩, by omega⟩
  · rintro ⟨g, d1, d2, d3, d4, d5⟩
    obtain ⟨m1, m2⟩ := mine_one (h := h) (m := some g) (fun g' e => by cases e; exact d5)
    have hv : ∀ g ∈ T.gs, overG T.life now g = false := fun x hx => by
      rw [d1] at hx
      simp at hx; subst hx
      unfold overG
      rw [d3]; simp; omega
    obtain ⟨gs', h3, h4, h5⟩ := put_step (m := some g) (late_no hn hnow) (mem_head hv) hf hw (by rw [d1]; exact m1) (fun e => by cases e)
    rw [d1, show ([g] : List AG) = (some g).toList from rfl, m2] at h5
    have h6 := oth_nil h5
    rw [stepM_dead g d2] at h3 h4
    rw [h4] at h6
    exact ⟨gs', h3, g, h6, d2, d3, d4, d5⟩
theorem DLIVE.end_ (E : EXTRA h o d s k X) {σ : List Nat} (hσ : σ.Perm (List.range (cnt d.length s + 1))) {now : Int} {gs : List AG} (H : DLIVE now h o d s k X σ σ.length gs) : False := by
  have h1 := H.1
  rw [List.take_length] at h1
  have := E.lt
  exact h1 ⟨hσ.mem_iff.2 (by simp; omega), hσ.mem_iff.2 (by simp)⟩
end

/-! ### two packets -/
section
variable {h hB : HD} {o d : List Int} {s : Nat}
def MST (now : Int) (h : HD) (o d : List Int) (s : Nat) (ix iy : List Nat) (m : Option AG) : Prop := if iy = [] then m = none else GSTO now h o d (ix.map (pieceF ⟨h, o, d⟩ s)) m
structure MIX (h hB : HD) (T : AT) (now : Int) (ma mb : Option AG) : Prop where
  nowE : T.now = now
  a : mine h T.gs = ma.toList
  b : mine hB T.gs = mb.toList
  ab : oth h T.gs = mine hB T.gs
  ba : oth hB T.gs = mine h T.gs
  beg : ∀ g ∈ T.gs, g.begin_ = now
theorem MIX.symm {T : AT} {now : Int} {ma mb : Option AG} (H : MIX h hB T now ma mb) : MIX hB h T now mb ma := ⟨H.nowE, H.b, H.a, H.ba, H.ab, H.beg⟩
theorem mix_step (W : WHOLE h o d) (hs : 8 ≤ s) (h8 : s % 8 = 0) (hk : ∀ g, sameK h g = true → sameK hB g = false) {ix iy : List Nat} {k : Nat} (hσ : (ix ++ k :: iy).Perm (List.range (cnt d.length s))) {T : AT} {now : Int} {ma mb : Option AG} (M : MIX h hB T now ma mb) (hm : MST now h o d s ix (k :: iy) ma) (hnow : now ≤ 1099511627776) (hlife : 0 < T.life) (hlim : T.limit = 2) :
    ∃ T' ma', putA T now (bytesF (pieceF ⟨h, o, d⟩ s k)) = (T', if iy = [] then pktB h o d else [], 0) ∧ T'.limit = T.limit ∧ T'.life = T.life ∧ MIX h hB T' now ma' mb ∧ MST now h o d s (ix ++ [k]) iy ma' := by
  have hp2 : ((ix ++ [k]) ++ iy).Perm (List.range (cnt d.length s)) := by rw [List.append_assoc]; exact hσ
  have hG : GSTO now h o d (ix.map (pieceF ⟨h, o, d⟩ s)) ma := by unfold MST at hm; rw [if_neg (by simp)] at hm; exact hm
  have hv : ∀ g ∈ T.gs, overG T.life now g = false := fun g hg => by
    unfold overG; rw [M.beg g hg]; simp; omega
  have hl := late_no (T := T) (now := now) (by rw [M.nowE]; exact Int.le_refl _) hnow
  by_cases h1 : cnt d.length s = 1
  · -- the packet is whole
    rw [h1] at hσ
    have hlen := hσ.length_eq
    simp at hlen
    have e1 : ix = [] := List.length_eq_zero_iff.1 (by omega)
    have e2 : iy = [] := List.length_eq_zero_iff.1 (by omega)
    subst e1 e2
    have e3 : k = 0 := by have := hσ.subset (show k ∈ [] ++ [k] by simp); simpa using this
    subst e3
    have hds : d.length ≤ s := by
      refine Nat.le_of_not_lt fun h => ?_
      have := cnt_two (n := d.length) (s := s) (by omega) h
      omega
    rw [one_piece W hds]
    have e4 : ma = none := hG.2.1 rfl
    subst e4
    refine ⟨{ T with now := now }, none, ?_, rfl, rfl, ⟨rfl, M.a, M.b, M.ab, M.ba, M.beg⟩, by unfold MST; rw [if_pos rfl]⟩
    rw [if_pos rfl]
    have := whole_put W hl
    rw [pass_none (mem_head hv)] at this
    exact this
  · have h2 : 2 ≤ cnt d.length s := by
      have := cnt_pos (n := d.length) (size := s) (by omega) W.pos
      omega
    obtain ⟨P1, P2, P3⟩ := pcs_perm W hs h8 hp2
    have hS := sum_parts W hs h8 hp2
    rw [List.map_append, List.map_cons, List.map_nil] at P1 P2 P3 hS
    have hf := P1 (pieceF ⟨h, o, d⟩ s k) (by simp)
    obtain ⟨Q1, Q2, Q3⟩ := List.pairwise_append.1 P2
    have ha : ∀ q ∈ ix.map (pieceF ⟨h, o, d⟩ s), apartF q (pieceF ⟨h, o, d⟩ s k) := fun q hq => Q3 q hq _ (by simp)
    have hF : ∀ q ∈ ix.map (pieceF ⟨h, o, d⟩ s), FRG h o d q := fun q hq => P1 q (by simp only [List.mem_append]; exact .inl hq)
    have hlen := split_len h T.gs
    rw [M.a, M.ab, M.b] at hlen
    have hmb : mb.toList.length ≤ 1 := by cases mb <;> simp
    obtain ⟨gs', h3, h4, h5⟩ := put_step hl (mem_head hv) hf (P3 h2 _ (by simp)) M.a (fun e => by subst e; rw [hlim, hlen]; simp; omega)
    have key := stepM_live hG W hF Q1 hf ha
    have hkk : ∀ g, sameK hB g = true → sameK h g = false := fun g hg => by
      cases hh : sameK h g
      · rfl
      · have := hk g hh; rw [this] at hg; cases hg
    -- the other packet's group stays
    have c1 : ∀ gs : List AG, mine hB gs = (oth h gs).filter (sameK hB) := fun gs => by
      unfold mine oth
      rw [List.filter_filter]
      apply List.filter_congr
      intro g hg
      cases hh : sameK h g
      · simp
      · rw [hk g hh]; rfl
    have c2 : mine hB gs' = mine hB T.gs := by rw [c1 gs', h5, ← c1 T.gs]
    have c3 : oth h gs' = mine hB gs' := by rw [h5, M.ab, c2]
    have c4 : oth hB gs' = mine h gs' := by
      unfold oth mine
      apply List.filter_congr
      intro g hg
      cases hh : sameK h g
      · have : g ∈ mine hB gs' := by rw [← c3]; exact List.mem_filter.2 ⟨hg, by rw [hh]; rfl⟩
        have := (List.mem_filter.1 this).2
        rw [this]; rfl
      · rw [hk g hh]; rfl
    have c5 : ∀ g ∈ oth h gs', g.begin_ = now := fun g hg => by
      rw [h5] at hg
      exact M.beg g (List.mem_filter.1 hg).1
    have c6 : ∀ ma' : Option AG, (∀ g, ma' = some g → g.begin_ = now) → mine h gs' = ma'.toList → ∀ g ∈ gs', g.begin_ = now := fun ma' h6 h7 g hg => by
      by_cases hh : sameK h g = true
      · have : g ∈ mine h gs' := List.mem_filter.2 ⟨hg, hh⟩
        rw [h7] at this
        cases ma' with
        | none => cases this
        | some g' => simp at this; subst this; exact h6 g rfl
      · exact c5 g (List.mem_filter.2 ⟨hg, by simpa using hh⟩)
    by_cases hiy : iy = []
    · rw [if_pos (hS.1.2 hiy)] at key
      rw [key] at h3 h4
      refine ⟨{ T with now := now, gs := gs' }, none, by rw [if_pos hiy]; exact h3, rfl, rfl, ⟨rfl, h4, c2.trans M.b, c3, c4, c6 none (fun g e => by cases e) h4⟩, ?_⟩
      unfold MST; rw [if_pos hiy]
    · have := hS.2 hiy
      rw [if_neg (by omega)] at key
      obtain ⟨g', e, e2⟩ := key
      rw [e] at h3 h4
      refine ⟨{ T with now := now, gs := gs' }, some g', by rw [if_neg hiy]; exact h3, rfl, rfl, ⟨rfl, h4, c2.trans M.b, c3, c4, c6 (some g') (fun g e => by cases e; exact e2.1.beg) h4⟩, ?_⟩
      unfold MST; rw [if_neg hiy, List.map_append]
      exact e2
end
end Go.Proofs.Ytljbfnabnkkfeaa
