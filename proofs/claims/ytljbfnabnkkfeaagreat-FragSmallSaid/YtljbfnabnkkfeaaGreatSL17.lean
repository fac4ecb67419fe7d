import Derived.Test.YtljbfnabnkkfeaaGreatSL16
set_option linter.unusedVariables false
set_option linter.unusedSimpArgs false
/- Joined by program: FgQV, Cuts2, FgQD, FgQWd, FgQW, FgQX. -/
namespace Go.Proofs.YtljbfnabnkkfeaaGreat
open Go.RowKit
theorem cell_of_heap {w w' : World} {p : Addr} (h : w'.heap[p.block]?=w.heap[p.block]?) : w'.cell? p=w.cell? p:=by
 unfold World.cell?
 rw [h]
structure EFT (X : Nat->Prop) (A : Option Addr) (l : List EM) : Prop where
 a : l≠[]->∀ p,A=some p->X p.block
 fr : ∀ x ∈ l,x.fs≠[]->∀ p,x.fA=some p->X p.block
 o : ∀ x ∈ l,∀ f ∈ x.fs,0 < f.on->∀ p,f.oA=some p->X p.block
 d : ∀ x ∈ l,∀ f ∈ x.fs,0 < f.dn->∀ p,f.dA=some p->X p.block
theorem EFT.nil (X : Nat->Prop) (A : Option Addr) : EFT X A []:=⟨fun h=>absurd rfl h,fun x h=>(by cases h),fun x h=>(by cases h),fun x h=>(by cases h)⟩
theorem EFT.mono {X Y : Nat->Prop} {A : Option Addr} {l : List EM} (h : EFT X A l) (hx : ∀ g,X g->Y g) : EFT Y A l :=
 ⟨fun hn p hp=>hx _ (h.a hn p hp),fun x hm hn p hp=>hx _ (h.fr x hm hn p hp),fun x hm f hf hn p hp=>hx _ (h.o x hm f hf hn p hp),fun x hm f hf hn p hp=>hx _ (h.d x hm f hf hn p hp)⟩
theorem EFT.sub {X : Nat->Prop} {A B : Option Addr} {l l' : List EM} (h : EFT X A l) (hs : ∀ x ∈ l',x ∈ l) (hB : l'≠[]->∀ p,B=some p->X p.block) : EFT X B l' :=
 ⟨hB,fun x hm=>h.fr x (hs x hm),fun x hm=>h.o x (hs x hm),fun x hm=>h.d x (hs x hm)⟩
def EFE (X : Nat->Prop) (x : EM) : Prop:=EFT X none [x]
theorem EFT.each {X : Nat->Prop} {A : Option Addr} {l : List EM} (h : EFT X A l) {x : EM} (hx : x ∈ l) : EFE X x:=h.sub (fun y hy=>by simp at hy;subst hy;exact hx) (fun _ p hp=>by cases hp)
theorem EFT.of {X : Nat->Prop} {A : Option Addr} {l : List EM} (h : ∀ x ∈ l,EFE X x) (hA : l≠[]->∀ p,A=some p->X p.block) : EFT X A l :=
 ⟨hA,fun x hm=>(h x hm).fr x (by simp),fun x hm=>(h x hm).o x (by simp),fun x hm=>(h x hm).d x (by simp)⟩
section
variable {w w' : World} {X : Nat->Prop} {k : IntKind} {A : Option Addr} {n c : Nat}
theorem lt_of_same {g : Nat} (h : w'.heap[g]?=w.heap[g]?) (hg : g < w.heap.size) : g < w'.heap.size:=by
 rw [Array.getElem?_eq_getElem hg] at h
 exact (Array.getElem?_eq_some_iff.1 h).1
theorem RD.keepX {zs : List Int} (h : RD k w w.heap.size A n zs) (hX : 0 < n->∀ p,A=some p->X p.block) (hk : ∀ g,X g->w'.heap[g]?=w.heap[g]?) : RD k w' w'.heap.size A n zs :=
 ⟨h.1,fun hn=>by
  obtain ⟨b,off,e,hb,hc⟩:=h.2 hn
  have h2:=hk b (hX hn _ e)
  exact ⟨b,off,e,lt_of_same h2 hb,fun i hi=>(cell_of_heap (p:=⟨b,off + i,none⟩) h2).trans (hc i hi)⟩⟩
theorem FROW.keepX {l : List FM} (h : FROW w A n l) (hA : l≠[]->∀ p,A=some p->X p.block) (ho : ∀ f ∈ l,0 < f.on->∀ p,f.oA=some p->X p.block) (hd : ∀ f ∈ l,0 < f.dn->∀ p,f.dA=some p->X p.block) (hk : ∀ g,X g->w'.heap[g]?=w.heap[g]?) : FROW w' A n l where
 len:=h.len
 at_:=fun i x hx=>by
  obtain ⟨g,off,h1,h2,h3⟩:=h.at_ i x hx
  have h4:=hk g (hA (List.ne_nil_of_mem (List.mem_of_getElem? hx)) _ h1)
  exact ⟨g,off,h1,lt_of_same h4 h2,fun j v hv=>(cell_of_heap (p:=⟨g,off + i * 11 + j,none⟩) h4).trans (h3 j v hv)⟩
 ok:=fun x hx=>⟨(h.ok x hx).o.keepX (ho x hx) hk,(h.ok x hx).d.keepX (hd x hx) hk,(h.ok x hx).oc,(h.ok x hx).dc,(h.ok x hx).ok⟩
theorem EMOK.keepX {x : EM} (h : EMOK w x) (hF : EFE X x) (hk : ∀ g,X g->w'.heap[g]?=w.heap[g]?) : EMOK w' x :=
 ⟨h.row.keepX (hF.fr x (by simp)) (hF.o x (by simp)) (hF.d x (by simp)) hk,h.fs,h.fc,h.fn⟩
theorem EROW.keepX {l : List EM} (h : EROW w A n c l) (hF : EFT X A l) (hk : ∀ g,X g->w'.heap[g]?=w.heap[g]?) : EROW w' A n c l where
 len:=h.len
 cap:=h.cap
 at_:=fun i x hx=>by
  obtain ⟨g,off,h1,h2,h3⟩:=h.at_ i x hx
  have h4:=hk g (hF.a (List.ne_nil_of_mem (List.mem_of_getElem? hx)) _ h1)
  exact ⟨g,off,h1,lt_of_same h4 h2,fun j v hv=>(cell_of_heap (p:=⟨g,off + i * 8 + j,none⟩) h4).trans (h3 j v hv)⟩
 ok:=fun x hx=>(h.ok x hx).keepX (hF.each hx) hk
theorem RD.foot {zs : List Int} (h : RD k w w.heap.size A n zs) (hn : 0 < n) : ∀ p,A=some p->p.block < w.heap.size:=fun p hp=>by
 obtain ⟨b,off,e,hb,_⟩:=h.2 hn
 rw [e] at hp;cases hp;exact hb
theorem FROW.foot {l : List FM} (h : FROW w A n l) (hn : l≠[]) : ∀ p,A=some p->p.block < w.heap.size:=fun p hp=>by
 obtain ⟨x,l',rfl⟩:=List.exists_cons_of_ne_nil hn
 obtain ⟨g,off,e,hb,_⟩:=h.at_ 0 x rfl
 rw [e] at hp;cases hp;exact hb
theorem EMOK.foot {x : EM} (h : EMOK w x) : EFE (· < w.heap.size) x:=by
 refine ⟨fun _ p hp=>(by cases hp),fun y hy hn=>?_,fun y hy f hf hn=>?_,fun y hy f hf hn=>?_⟩
 all_goals (simp at hy;subst hy)
 ·exact h.row.foot hn
 ·exact (h.row.ok f hf).o.foot hn
 ·exact (h.row.ok f hf).d.foot hn
theorem EROW.foot {l : List EM} (h : EROW w A n c l) : EFT (· < w.heap.size) A l:=by
 refine EFT.of (fun x hx=>(h.ok x hx).foot) (fun hn p hp=>?_)
 obtain ⟨x,l',rfl⟩:=List.exists_cons_of_ne_nil hn
 obtain ⟨g,off,e,hb,_⟩:=h.at_ 0 x rfl
 rw [e] at hp;cases hp;exact hb
end
def cutM (m : Nat) (A : Option Addr) (c lo : Nat) : Option Addr:=if c=lo then A else A.map (·.add (lo * m))
theorem run_slice_loM {P : Program} (w : World) {t e : TypeId} {i : TypeInfo} {m : Nat} (ht : P.underlying t=some (.slice e)) (hi : P.info? e=some i) (hs : i.size=m) (A : Option Addr) (n c : Nat) (q : Int) (lo : Nat) (hq : q=lo) (h1 : lo<=n) :
 (Instr.slice t (.slice A n c) (some (.int .i64 q)) none none).run P w = .ok (.slice (cutM m A c lo) (n - lo) (c - lo)) w:=by
 subst hq
 have h2 : (0 : Int)<=(lo : Int)∧(lo : Int)<=(n : Int):=by omega
 simp [Instr.slice,run_underlying ht,Instr.sliceBounds,Instr.sliceBound,asIntOf,sizeOf,typeInfo,hi,hs,h1,cutM]
section
variable {w w' : World} {A : Option Addr} {n c : Nat} {l : List EM}
theorem EROW.take (h : EROW w A n c l) {m : Nat} (hm : m<=n) : EROW w A m c (l.take m) where
 len:=by rw [List.length_take,h.len];omega
 cap:=Nat.le_trans hm h.cap
 at_:=fun i x hx=>by
  rw [List.getElem?_take] at hx
  split at hx
  ·exact h.at_ i x hx
  ·cases hx
 ok:=fun x hx=>h.ok x (List.mem_of_mem_take hx)
theorem EROW.drop (h : EROW w A n c l) {lo : Nat} (hlo : lo<=n) : EROW w (cutM 8 A c lo) (n - lo) (c - lo) (l.drop lo) where
 len:=by rw [List.length_drop,h.len]
 cap:=by have:=h.cap;omega
 at_:=fun i x hx=>by
  rw [List.getElem?_drop] at hx
  obtain ⟨g,off,rfl,h2,h3⟩:=h.at_ (lo + i) x hx
  have hlt:=(List.getElem?_eq_some_iff.1 hx).1
  have hl:=h.len
  have hc:=h.cap
  refine ⟨g,off + lo * 8,?_,h2,fun j v hv=>?_⟩
  ·unfold cutM
   rw [if_neg (by omega)]
   show some ((⟨g,off,none⟩ : Addr).add (lo * 8))=_
   rw [Addr.add_mid]
  ·rw [show off + lo * 8 + i * 8 + j=off + (lo + i) * 8 + j by omega]
   exact h3 j v hv
 ok:=fun x hx=>h.ok x (List.mem_of_mem_drop hx)
theorem EFT.take {X : Nat->Prop} (h : EFT X A l) (m : Nat) : EFT X A (l.take m):=h.sub (fun x hx=>List.mem_of_mem_take hx) (fun hn=>h.a (fun e=>hn (by rw [e];simp)))
theorem EFT.drop {X : Nat->Prop} (h : EFT X A l) (c m : Nat) : EFT X (cutM 8 A c m) (l.drop m):=h.sub (fun x hx=>List.mem_of_mem_drop hx) (fun hn p hp=>by
 have hn2 : l≠[]:=fun e=>hn (by rw [e];simp)
 unfold cutM at hp
 split at hp
 ·exact h.a hn2 p hp
 ·cases A with
  | none=>cases hp
  | some q =>
    simp only [Option.map_some,Option.some.injEq] at hp
    subst hp
    have:=h.a hn2 q rfl
    unfold Addr.add
    split <;> exact this)
theorem flat_inv {α : Type} (f : α->List Value) (m : Nat) (hm : 0 < m) (hf : ∀ x,(f x).length=m) (l : List α) (q : Nat) (v : Value) (h : (l.flatMap f)[q]?=some v) : ∃ i x j,l[i]?=some x∧j < m∧q=i * m + j∧(f x)[j]?=some v:=by
 have hl : (l.flatMap f).length=l.length * m:=by
  rw [List.length_flatMap]
  have : l.map (fun x=>(f x).length)=List.replicate l.length m:=by
   rw [List.eq_replicate_iff]
   exact ⟨by rw [List.length_map],fun b hb=>by obtain ⟨x,_,rfl⟩:=List.mem_map.1 hb;exact hf x⟩
  rw [this,List.sum_replicate_nat]
 have hq : q < l.length * m:=by rw [<- hl];exact (List.getElem?_eq_some_iff.1 h).1
 have hi : q / m < l.length:=(Nat.div_lt_iff_lt_mul hm).2 hq
 have hj : q % m < m:=Nat.mod_lt _ hm
 have e : q=q / m * m + q % m:=by rw [Nat.mul_comm];exact (Nat.div_add_mod q m).symm
 refine ⟨q / m,l[q / m],q % m,List.getElem?_eq_getElem hi,hj,e,?_⟩
 have h2:=flat_get f m hf l (q / m) _ (List.getElem?_eq_getElem hi) (q % m) hj
 rw [<- e] at h2
 rw [<- h2];exact h
theorem EROW.news (h : EROW w A n c l) : ∀ j u,(l.flatMap EM.cells)[j]?=some u->∃ ad,A=some ad∧w.cell? (ad.add j)=some u:=fun q u hu=>by
 obtain ⟨i,x,j,h1,h2,rfl,h3⟩:=flat_inv EM.cells 8 (by omega) em_len l q u hu
 obtain ⟨g,off,rfl,_,h4⟩:=h.at_ i x h1
 refine ⟨_,rfl,?_⟩
 rw [Addr.add_mid,<- Nat.add_assoc]
 exact h4 j u h3
theorem FROW.news {l : List FM} (h : FROW w A n l) : ∀ j u,(l.flatMap FM.cells)[j]?=some u->∃ ad,A=some ad∧w.cell? (ad.add j)=some u:=fun q u hu=>by
 obtain ⟨i,x,j,h1,h2,rfl,h3⟩:=flat_inv FM.cells 11 (by omega) fm_len l q u hu
 obtain ⟨g,off,rfl,_,h4⟩:=h.at_ i x h1
 refine ⟨_,rfl,?_⟩
 rw [Addr.add_mid,<- Nat.add_assoc]
 exact h4 j u h3
theorem em_one (x : EM) : ∀ u ∈ x.cells,u.oneCell'=true:=fun u hu=>by
 unfold EM.cells EM.gcells at hu
 simp at hu
 rcases hu with rfl | rfl | rfl | rfl | rfl | rfl | rfl | rfl <;> rfl
theorem fm_one (x : FM) : ∀ u ∈ x.cells,u.oneCell'=true:=fun u hu=>by
 unfold FM.cells at hu
 simp at hu
 rcases hu with rfl | rfl | rfl | rfl | rfl | rfl | rfl | rfl | rfl | rfl | rfl <;> rfl
theorem ems_one (l : List EM) : ∀ u ∈ l.flatMap EM.cells,u.oneCell'=true:=fun u hu=>by
 obtain ⟨x,_,h⟩:=List.mem_flatMap.1 hu
 exact em_one x u h
theorem fms_one (l : List FM) : ∀ u ∈ l.flatMap FM.cells,u.oneCell'=true:=fun u hu=>by
 obtain ⟨x,_,h⟩:=List.mem_flatMap.1 hu
 exact fm_one x u h
theorem flat_len {α : Type} (f : α->List Value) (m : Nat) (hf : ∀ x,(f x).length=m) : ∀ (l : List α),(l.flatMap f).length=l.length * m
 | []=>by simp
 | x::l=>by rw [List.flatMap_cons,List.length_append,flat_len f m hf l,hf,List.length_cons,Nat.succ_mul];omega
end
def objsOf (w : World) (a m : Nat) : List IT:=(List.range m).map fun i=>match w.heap[a + i]? with
 | some o=>.obj (a + i) o
 | none=>.gone
theorem objs_at {w : World} {a m i : Nat} (h : a + m<=w.heap.size) (hi : i < m) : ∃ o,w.heap[a + i]?=some o∧(match w.heap[a + i]? with | some o=>IT.obj (a + i) o | none=>.gone) = .obj (a + i) o:=by
 have : a + i < w.heap.size:=by omega
 exact ⟨w.heap[a + i],Array.getElem?_eq_getElem this,by rw [Array.getElem?_eq_getElem this]⟩
theorem objs_mem {w : World} {a m : Nat} (h : a + m<=w.heap.size) {x : IT} (hx : x ∈ objsOf w a m) : ∃ i o,i < m∧w.heap[a + i]?=some o∧x = .obj (a + i) o:=by
 obtain ⟨i,hi,rfl⟩:=List.mem_map.1 hx
 rw [List.mem_range] at hi
 obtain ⟨o,h1,h2⟩:=objs_at h hi
 exact ⟨i,o,hi,h1,h2⟩
theorem objs_has {w : World} {a m i : Nat} (h : a + m<=w.heap.size) (hi : i < m) : ∃ o,w.heap[a + i]?=some o∧IT.obj (a + i) o ∈ objsOf w a m:=by
 obtain ⟨o,h1,h2⟩:=objs_at h hi
 exact ⟨o,h1,List.mem_map.2 ⟨i,List.mem_range.2 hi,h2⟩⟩
theorem SP.pushAll {w0 w w' : World} {L : List IT} (H : SP w0 w L) (hb : Below w.heap.size w w') : SP w0 w' (objsOf w' w.heap.size (w'.heap.size - w.heap.size)++L):=by
 have hs:=hb.size
 have h0:=H.size
 have hle : w.heap.size + (w'.heap.size - w.heap.size)<=w'.heap.size:=by omega
 have H':=H.next hb
 refine SP.mk' H'.bel (fun x hx=>?_) ?_
 ·rcases List.mem_append.1 hx with hx | hx
  ·obtain ⟨i,o,hi,h1,rfl⟩:=objs_mem hle hx
   exact ⟨by omega,h1⟩
  ·exact H'.mem x hx
 ·refine List.pairwise_append.2 ⟨?_,H'.pw,fun x hx y hy g gx gy=>?_⟩
  ·unfold objsOf
   rw [List.pairwise_map]
   refine List.nodup_range.imp_of_mem ?_
   intro i j hi hj hij g gx gy
   rw [List.mem_range] at hi hj
   obtain ⟨o,h1,h2⟩:=objs_at hle hi
   obtain ⟨o',h3,h4⟩:=objs_at hle hj
   rw [h2] at gx
   rw [h4] at gy
   simp only [IT.at_,Option.some.injEq] at gx gy
   omega
  ·obtain ⟨i,o,hi,h1,rfl⟩:=objs_mem hle hx
   simp only [IT.at_,Option.some.injEq] at gx
   have:=(H.ltm hy gy).2
   omega
theorem TAB.pushAll {w0 w w' : World} {TB : Nat} {a : AT} {R : List IT} (H : TAB w0 w TB a R) (hb : Below w.heap.size w w') : TAB w0 w' TB a (objsOf w' w.heap.size (w'.heap.size - w.heap.size)++R):=by
 obtain ⟨T,h1,h2,h3,h4,h5⟩:=H
 exact ⟨T,h1,h2,h3,h4,SP.swap (h5.pushAll hb)⟩
def KEPT (R : List IT) (g : Nat) : Prop:=∃ o,IT.obj g o ∈ R
theorem kept_same {w0 w w' : World} {R R' : List IT} (H : SP w0 w R) (H' : SP w0 w' R') (hs : ∀ g o,IT.obj g o ∈ R->IT.obj g o ∈ R') {g : Nat} (hg : KEPT R g) : w'.heap[g]?=w.heap[g]?:=by
 obtain ⟨o,h⟩:=hg
 have h1 : w.heap[g]?=some o:=(H.mem _ h).2
 have h2 : w'.heap[g]?=some o:=(H'.mem _ (hs g o h)).2
 rw [h1,h2]
theorem kept_new {w w' : World} {R : List IT} (hs : w.heap.size<=w'.heap.size) {g : Nat} (h : KEPT R g∨w.heap.size<=g∧g < w'.heap.size) : KEPT (objsOf w' w.heap.size (w'.heap.size - w.heap.size)++R) g:=by
 rcases h with ⟨o,h⟩ | ⟨h1,h2⟩
 ·exact ⟨o,List.mem_append_right _ h⟩
 ·obtain ⟨o,_,h3⟩:=objs_has (w:=w') (a:=w.heap.size) (m:=w'.heap.size - w.heap.size) (i:=g - w.heap.size) (by omega) (by omega)
  rw [show w.heap.size + (g - w.heap.size)=g by omega] at h3
  exact ⟨o,List.mem_append_left _ h3⟩
structure ABND (a : AT) : Prop where
 lim : 1<=a.limit∧a.limit<=64
 life : 1<=a.life∧a.life<=16777215
 now : 0<=a.now∧a.now<=1099511627776
 beg : ∀ g ∈ a.gs,0<=g.begin_∧g.begin_<=a.now
theorem TAB.bnd {w0 w : World} {TB : Nat} {a : AT} {R : List IT} (H : TAB w0 w TB a R) : ABND a:=by
 obtain ⟨T,_,rfl,hi,_,_⟩:=H
 refine ⟨hi.lim,hi.life,hi.now,fun g hg=>?_⟩
 obtain ⟨x,hx,rfl⟩:=List.mem_map.1 hg
 rw [absG_begin]
 exact ⟨(hi.ok x hx).beg.1,hi.beg x hx⟩
theorem dropWhile_drop {α : Type} (p : α->Bool) : ∀ l : List α,∃ k,l.dropWhile p=l.drop k
 | []=>⟨0,rfl⟩
 | x::l=>by
   by_cases h : p x=true
   ·rw [List.dropWhile_cons_of_pos h]
    obtain ⟨k,hk⟩:=dropWhile_drop p l
    exact ⟨k + 1,hk⟩
   ·rw [List.dropWhile_cons_of_neg h]
    exact ⟨0,rfl⟩
theorem AINV.pass {a : AT} (I : AINV a) (now : Int) : AINV (passA a now):=by
 constructor
 ·exact I.srt.sublist (List.dropWhile_sublist _)
 ·intro h i j x y hx hy sx sy
  obtain ⟨k,hk⟩:=dropWhile_drop (overG a.life now) a.gs
  have e : (passA a now).gs=a.gs.drop k:=hk
  rw [e,List.getElem?_drop] at hx hy
  have:=I.keys h _ _ x y hx hy sx sy
  omega
theorem ABND.pass {a : AT} (B : ABND a) {now : Int} (h : a.now<=now) (h2 : now<=1099511627776) : ABND (passA a now):=by
 refine ⟨B.lim,B.life,⟨?_,h2⟩,fun g hg=>?_⟩
 ·show 0<=now
  have:=B.now;omega
 ·have:=B.beg g ((List.dropWhile_sublist _).subset hg)
  show _∧_<=now
  omega
theorem RELT.bnd {a : AT} {r : RT} (R : RELT a r) (B : ABND a) : ∀ e ∈ r.es,0<=e.begin_∧e.begin_<=1099511627776:=fun e he=>by
 obtain ⟨k,hk,rfl⟩:=List.mem_iff_getElem.1 he
 have hl:=R.gs.len
 have h1:=R.gs.get (List.getElem?_eq_getElem (show k < a.gs.length by omega)) (List.getElem?_eq_getElem hk)
 have h2:=B.beg _ (List.getElem_mem (show k < a.gs.length by omega))
 have:=B.now
 rw [<- h1.beg];omega
end Go.Proofs.YtljbfnabnkkfeaaGreat
namespace Go.Proofs.YtljbfnabnkkfeaaGreat
open Go.RowKit
def findLoopIn (r : Nat) : Code->Option Code
 | .loop c=>match findLoopIn r c with
   | some o=>some o
   | none=>if (regOps r c).isSome then some (.loop c) else none
 | .seq a b=>match findLoopIn r a with
   | some o=>some o
   | none=>findLoopIn r b
 | .cond _ a b=>match findLoopIn r a with
   | some o=>some o
   | none=>findLoopIn r b
 | .block _ c=>findLoopIn r c
 | .scope c=>findLoopIn r c
 | .rangeFunc _ _ a b=>match findLoopIn r a with
   | some o=>some o
   | none=>findLoopIn r b
 | _=>none
noncomputable def loopIn (f : Func) (r : Nat) : Code:=(f.body.bind (findLoopIn r)).getD .skip
theorem info7E : (Tryz.prog.info? 125).map (fun i=>(i.zero,i.size,i.bytes))=some (some (.agg #[.int .u32 0,.int .u32 0,.int .u8 0,.int .u16 0,.int .i64 0,.int .i64 0,.bool false,.slice none 0 0]),8,64):=by kernel_rfl
theorem info7F : (Tryz.prog.info? 127).map (fun i=>(i.zero,i.size,i.bytes))=some (some (.agg #[.int .u8 0,.int .u16 0,.bool false,.bool false,.int .i64 0,.int .u8 0,.int .u8 0,.int .u32 0,.int .u32 0,.slice none 0 0,.slice none 0 0]),11,80):=by kernel_rfl
theorem sA {α : Type} (l : List α) (i : Nat) (a : α) : l.toArray.setIfInBounds i a=(l.set i a).toArray:=by simp
theorem sB {α : Type} (a b : α) (l : List α) : (a::l).set 0 b=b::l:=rfl
theorem sC {α : Type} (a b : α) (l : List α) (n : Nat) : (a::l).set (n + 1) b=a::l.set n b:=rfl
theorem run_append_nil0 {P : Program} (w : World) (base : Nat) (t ty e : TypeId) (i : TypeInfo) (size : Nat) (ht : P.underlying t=some (.slice e)) (hi : P.info? e=some i)
 (v : Value) (n : Nat) (xs : List Value) (hown : w.ownsRow base e size v n xs) (c : Nat) :
 (Builtin.append_ #[t,t] ty #[v,.slice none 0 c]).run P w = .ok v w:=by
 rcases hown.2 with ⟨rfl,rfl⟩ | ⟨g,cap,cur,rfl,_,_,hnc,_⟩
 ·simp [Builtin.append_,run_underlying ht,sizeOf,typeInfo,hi,Builtin.lenOf,Builtin.firstCells]
 ·simp [Builtin.append_,run_underlying ht,sizeOf,typeInfo,hi,Builtin.lenOf,Builtin.firstCells,hnc,storeCells]
theorem grownBy_refl (w : World) (r : Option Nat) : w.grownBy w r:=⟨rfl,rfl,rfl,Nat.le_refl _,fun _ _ _=>rfl⟩
theorem run_append_rowO {P : Program} (w : World) (t ty : TypeId)
 (base : Nat) (e : TypeId) (i : TypeInfo) (z : Value) (size bytes : Nat) (ht : P.underlying t=some (.slice e)) (hi : P.info? e=some i) (hz : i.zero=some z)
 (hsize : i.size=size) (hby : i.bytes=bytes) (hzs : z.cells.size=size) (hsz : 0 < size)
 (A : Option Addr) (n c : Nat) (xs : List Value) (hown : w.ownsRow base e size (.slice A n c) n xs)
 (A2 : Option Addr) (m c2 : Nat) (news : List Value) (hl : news.length=m * size) (hnews : ∀ j u,news[j]?=some u->∃ ad,A2=some ad∧w.cell? (ad.add j)=some u) (h1 : ∀ u ∈ news,u.oneCell'=true)
 (h63 : n + m<=maxLen) (hbytes : (n + m) * bytes<=140737488355328) (hbase : base<=w.heap.size) :
 ∃ A' c' w',(Builtin.append_ #[t,t] ty #[.slice A n c,.slice A2 m c2]).run P w = .ok (.slice A' (n + m) c') w'∧w'.ownsRow base e size (.slice A' (n + m) c') (n + m) (xs++news)∧w.grownBy w' (A.map (·.block))∧(A'.map (·.block)=A.map (·.block)∨A'.map (·.block)=some w.heap.size):=by
 have blk : ∀ (A : Option Addr) (n c : Nat),Value.ownBlock (.slice A n c)=A.map (·.block):=fun A n c=>by cases A <;> rfl
 cases A2 with
 | none =>
   obtain rfl : news=[]:=by
    cases news with
    | nil=>rfl
    | cons u r=>obtain ⟨ad,h,_⟩:=hnews 0 u rfl;cases h
   obtain rfl : m=0:=by
    rcases Nat.eq_zero_or_pos m with h | h
    ·exact h
    ·have:=Nat.mul_pos h hsz;simp at hl;omega
   have hr:=run_append_nil0 (P:=P) w base t ty e i size ht hi (.slice A n c) n xs hown c2
   refine ⟨A,c,w,hr,?_,grownBy_refl _ _,.inl rfl⟩
   rw [Nat.add_zero,List.append_nil];exact hown
 | some ad =>
   obtain ⟨v',w',hr,h2,h3,h4,h5⟩:=run_append_own_at (P:=P) w base t ty e i z size bytes ht hi hz hsize hby hzs hsz (.slice A n c) n xs hown ad m c2 news hl (fun j u hu=>by obtain ⟨a',h,h'⟩:=hnews j u hu;cases h;exact h') h1 h63 hbytes hbase
   obtain ⟨A',c',rfl⟩ : ∃ A' c',v' = .slice A' (n + m) c':=by
    rcases h2.2 with ⟨rfl,e0⟩ | ⟨g,cap,cur,rfl,_⟩
    ·exact ⟨none,0,by rw [e0]⟩
    ·exact ⟨_,_,rfl⟩
   rw [blk] at h3
   rw [blk,blk] at h5
   exact ⟨A',c',w',hr,h2,h3,h5⟩
theorem step_append_rowO {P : Program} (w : World) {ops : Array Oper} {o : Oper} {a : Act} {K : Act->World->Prop} {Q : Exit->Act->World->Prop} {E : Prop} (hgd : o.guard=none) (s x : Operand) (t : TypeId)
 (ho : o.op = .call { callee:=.builtin .append,args:=#[s,x],argTypes:=#[t,t] })
 (base : Nat) (e : TypeId) (i : TypeInfo) (z : Value) (size bytes : Nat) (ht : P.underlying t=some (.slice e)) (hi : P.info? e=some i) (hz : i.zero=some z)
 (hsize : i.size=size) (hby : i.bytes=bytes) (hzs : z.cells.size=size) (hsz : 0 < size)
 (A : Option Addr) (n c : Nat) (xs : List Value) (hs : a.eval s = .slice A n c) (hown : w.ownsRow base e size (.slice A n c) n xs)
 (A2 : Option Addr) (m c2 : Nat) (news : List Value) (hx : a.eval x = .slice A2 m c2) (hl : news.length=m * size) (hnews : ∀ j u,news[j]?=some u->∃ ad,A2=some ad∧w.cell? (ad.add j)=some u) (h1 : ∀ u ∈ news,u.oneCell'=true)
 (h63 : n + m<=maxLen) (hbytes : (n + m) * bytes<=140737488355328) (hbase : base<=w.heap.size)
 (h : ∀ A' c' w',w'.ownsRow base e size (.slice A' (n + m) c') (n + m) (xs++news)->w.grownBy w' (A.map (·.block))->(A'.map (·.block)=A.map (·.block)∨A'.map (·.block)=some w.heap.size)->K (a.put o.dst (.slice A' (n + m) c')) w') :
 if Region.wanted o (yielded ops a.tmps)=true then Oper.wp P o a w K Q else E:=by
 have hw : Region.wanted o (yielded ops a.tmps)=true:=by simp [Region.wanted,hgd]
 rw [if_pos hw]
 obtain ⟨A',c',w',hr,h2,h3,h5⟩:=run_append_rowO (P:=P) w t o.type base e i z size bytes ht hi hz hsize hby hzs hsz A n c xs hown A2 m c2 news hl hnews h1 h63 hbytes hbase
 unfold Oper.wp execOp
 simp only [ho,resolve,invoke,builtin,Sem.run_bind,Sem.run_pure,Result.andThen_ok,List.map_toArray,List.map_cons,List.map_nil,hs,hx,hr]
 exact h A' c' w' h2 h3 h5
theorem row_news {w : World} {base : Nat} {e : TypeId} {m g n c : Nat} {vs : List Value} (h : w.ownsRow base e m (.slice (some ⟨g,0,none⟩) n c) n vs) : ∀ j u,vs[j]?=some u->∃ ad,(some ⟨g,0,none⟩ : Option Addr)=some ad∧w.cell? (ad.add j)=some u:=by
 intro j u hu
 have hl:=h.1
 have hj:=(List.getElem?_eq_some_iff.1 hu).1
 refine ⟨_,rfl,?_⟩
 rw [Addr.add_mid,Nat.zero_add,World.ownsRow.cellAt h j (by omega)]
 exact hu
attribute [local go_sem ↓] Go.wp_at_zero Go.wp_at_succ
structure r7pP (w0 : World) (SB OB g off n c k m : Nat) (limit life now0 now : Int) (B : Option Addr) (d : Nat) (vs : List Value) (x : EM) (RO : List IT) : Prop where
 hk : k < n
 hm : m<=100000
 ra : ∀ W,Below w0.heap.size w0 W->W.rangeAt g (off + k * 8) [.int .u32 x.e.src,.int .u32 x.e.dst,.int .u8 x.e.proto,.int .u16 x.e.id,.int .i64 x.e.begin_,.int .i64 (x.e.bytes : Int),.bool x.e.dead,.slice x.fA x.fn x.fc]
def r7pS (w0 : World) (SB OB g off n c k m : Nat) (limit life now0 now : Int) (B : Option Addr) (d : Nat) (vs : List Value) (x : EM) (RO : List IT) : World->Prop:=fun W=>W.cell? ⟨SB,3,none⟩=some (.slice (some ⟨g,off,none⟩) n c)∧W.rangeAt g (off + k * 8) [.int .u32 x.e.src,.int .u32 x.e.dst,.int .u8 x.e.proto,.int .u16 x.e.id,.int .i64 x.e.begin_,.int .i64 (x.e.bytes : Int),.bool x.e.dead,.slice x.fA x.fn x.fc]
set_option maxRecDepth 100000 in
def r7pF (w0 : World) (SB OB g off n c k m : Nat) (limit life now0 now : Int) (B : Option Addr) (d : Nat) (vs : List Value) (x : EM) (RO : List IT) (Fr : Value->Value->Value->Value->Value->Value->Value->Value->Value->Value->Act) : Prop:=∃ u : Nat->Value,∀ y32 y33 y34 y35 y36 y37 y38 y39 y40 y41,Fr y32 y33 y34 y35 y36 y37 y38 y39 y40 y41=⟨List.toArray (u 0::u 1::.pointer (some ⟨SB,0,none⟩)::u 3::u 4::.pointer (some ⟨OB,0,none⟩)::.int .i64 (k : Int)::u 7::u 8::u 9::u 10::u 11::u 12::u 13::u 14::u 15::u 16::u 17::u 18::u 19::u 20::u 21::u 22::u 23::u 24::u 25::u 26::u 27::u 28::u 29::u 30::u 31::y32::y33::y34::y35::y36::y37::y38::y39::y40::y41::u 42::[]),[]⟩
def r7pR (w0 : World) (SB OB g off n c k m : Nat) (limit life now0 now : Int) (B : Option Addr) (d : Nat) (vs : List Value) (x : EM) (RO : List IT) (Q : Exit->Act->World->Prop) (Fr : Value->Value->Value->Value->Value->Value->Value->Value->Value->Value->Act) : Prop:=∀ (y32 y33 y34 y35 y36 y37 y38 y39 y40 y41 : Value) (g39 : Nat) (A40 : Option Addr) (c40 : Nat) (w' : World),SP w0 w' ([.blk OB 70 #[.int .i64 limit,.int .i64 life,.int .i64 now,.slice A40 (m + 1) c40],.row 125 8 A40 (m + 1) c40 (vs++[.int .u32 x.e.src,.int .u32 x.e.dst,.int .u8 x.e.proto,.int .u16 x.e.id,.int .i64 x.e.begin_,.int .i64 (x.e.bytes : Int),.bool x.e.dead,.slice x.fA x.fn x.fc]),.blk SB 70 #[.int .i64 limit,.int .i64 life,.int .i64 now0,.slice (some ⟨g,off,none⟩) n c]]++RO)->Q .normal (Fr y32 y33 y34 y35 y36 y37 y38 y39 y40 y41) w'
def r7pH (w0 : World) (SB OB g off n c k m : Nat) (limit life now0 now : Int) (B : Option Addr) (d : Nat) (vs : List Value) (x : EM) (RO : List IT) (Q : Exit->Act->World->Prop) (Fr : Value->Value->Value->Value->Value->Value->Value->Value->Value->Value->Act) : Prop:=Hid (r7pP w0 SB OB g off n c k m limit life now0 now B d vs x RO)∧r7pF w0 SB OB g off n c k m limit life now0 now B d vs x RO Fr∧Hid (r7pR w0 SB OB g off n c k m limit life now0 now B d vs x RO Q Fr)
section
variable {Q : Exit->Act->World->Prop} {y32 y33 y34 y35 y36 y37 y38 y39 y40 y41 : Value} {w0 : World} {SB OB g off n c k m : Nat} {limit life now0 now : Int} {B : Option Addr} {d : Nat} {vs : List Value} {x : EM} {RO : List IT} {Fr : Value->Value->Value->Value->Value->Value->Value->Value->Value->Value->Act}
set_option maxHeartbeats 1000000 in
set_option maxRecDepth 100000 in
theorem r7ps4 (H0 : r7pH w0 SB OB g off n c k m limit life now0 now B d vs x RO Q Fr) (g39 : Nat) (A40 : Option Addr) (c40 : Nat) (w : World) (X : Hid (SP w0 w ([.blk OB 70 #[.int .i64 limit,.int .i64 life,.int .i64 now,.slice A40 (m + 1) c40],.row 125 8 A40 (m + 1) c40 (vs++[.int .u32 x.e.src,.int .u32 x.e.dst,.int .u8 x.e.proto,.int .u16 x.e.id,.int .i64 x.e.begin_,.int .i64 (x.e.bytes : Int),.bool x.e.dead,.slice x.fA x.fn x.fc]),.blk SB 70 #[.int .i64 limit,.int .i64 life,.int .i64 now0,.slice (some ⟨g,off,none⟩) n c]]++RO))) :
 wpAnyH Tryz.prog .any (opsAt Tryz.f53 6) (NoPanic Q) (r7pS w0 SB OB g off n c k m limit life now0 now B d vs x RO) 0 #[true,true,true,true,true,true,true,true,true,true,true] (Fr y32 y33 y34 y35 y36 y37 y38 y39 y40 y41) w:=by
 have H1:=Lib.hid H0
 obtain ⟨HP,⟨u,hF⟩,HQ⟩:=H0
 rw [hF]
 obtain ⟨i0,hi0,hz0,hz1,hz2⟩:=info_parts info7E
 have hk:=HP.out.hk
 have hm:=HP.out.hm
 have t1 : (k : Int) < (n : Int):=by omega
 have t0 : (0 : Int)<=(k : Int):=by omega
 have hHeld : (r7pS w0 SB OB g off n c k m limit life now0 now B d vs x RO) w:=by exact ⟨X.out.cell 2 rfl 3 rfl,HP.out.ra _ X.out.bel⟩
 refine wpAnyH_done (by kernel_rfl) ?_ _
 refine NoPanic.normal ?_
 rw [<- hF]
 exact HQ.out _ _ _ _ _ _ _ _ _ _ g39 A40 c40 _ X.out
set_option maxHeartbeats 1000000 in
set_option maxRecDepth 100000 in
theorem r7ps3 (H0 : r7pH w0 SB OB g off n c k m limit life now0 now B d vs x RO Q Fr) (g39 : Nat) (A40 : Option Addr) (c40 : Nat) (w : World) (X : Hid (SP w0 w ([.blk OB 70 #[.int .i64 limit,.int .i64 life,.int .i64 now,.slice B m d],.row 125 8 A40 (m + 1) c40 (vs++[.int .u32 x.e.src,.int .u32 x.e.dst,.int .u8 x.e.proto,.int .u16 x.e.id,.int .i64 x.e.begin_,.int .i64 (x.e.bytes : Int),.bool x.e.dead,.slice x.fA x.fn x.fc]),.blk SB 70 #[.int .i64 limit,.int .i64 life,.int .i64 now0,.slice (some ⟨g,off,none⟩) n c]]++RO))) :
 wpAnyH Tryz.prog .any (opsAt Tryz.f53 6) (NoPanic Q) (r7pS w0 SB OB g off n c k m limit life now0 now B d vs x RO) 1 #[true,true,true,true,true,true,true,true,true,true,false] (Fr y32 y33 y34 y35 y36 y37 y38 y39 (.slice A40 (m + 1) c40) (.pointer (some ⟨OB,3,none⟩))) w:=by
 have H1:=Lib.hid H0
 obtain ⟨HP,⟨u,hF⟩,HQ⟩:=H0
 rw [hF]
 obtain ⟨i0,hi0,hz0,hz1,hz2⟩:=info_parts info7E
 have hk:=HP.out.hk
 have hm:=HP.out.hm
 have t1 : (k : Int) < (n : Int):=by omega
 have t0 : (0 : Int)<=(k : Int):=by omega
 have hHeld : (r7pS w0 SB OB g off n c k m limit life now0 now B d vs x RO) w:=by exact ⟨X.out.cell 2 rfl 3 rfl,HP.out.ra _ X.out.bel⟩
 refine rdy [10] ?_
 refine cons_lit rfl (fun K hK=>?ss10x11) AllReadyH.nil
 case ss10x11 =>
  have xc:=X.out.cell 0 rfl 3 rfl
  have xf:=X.out.free 0 rfl 3
  go_simp
  clear xc xf
  refine nameW' (fun v hv=>?_)
  have Y:=Lib.hid (show SP w0 v ([.blk OB 70 #[.int .i64 limit,.int .i64 life,.int .i64 now,.slice A40 (m + 1) c40],.row 125 8 A40 (m + 1) c40 (vs++[.int .u32 x.e.src,.int .u32 x.e.dst,.int .u8 x.e.proto,.int .u16 x.e.id,.int .i64 x.e.begin_,.int .i64 (x.e.bytes : Int),.bool x.e.dead,.slice x.fA x.fn x.fc]),.blk SB 70 #[.int .i64 limit,.int .i64 life,.int .i64 now0,.slice (some ⟨g,off,none⟩) n c]]++RO) by rw [hv];exact SP.pickT (A:=[_,_,_]) (B:=[_,_,_]) (C:=RO) (X.out.setB 0 rfl 3 (.slice A40 (m + 1) c40)) [0,1,2] rfl (by decide))
  clear hv
  refine hK.out _ _ (by exact ⟨Y.out.cell 2 rfl 3 rfl,HP.out.ra _ Y.out.bel⟩) (fun hHeld=>?_)
  clear hK K
  try simp only [Act.put,jA,jB,jC]
  rw [<- hF]
  exact r7ps4 H1.out g39 A40 c40 _ Y
set_option maxHeartbeats 1000000 in
set_option maxRecDepth 100000 in
theorem r7ps2 (H0 : r7pH w0 SB OB g off n c k m limit life now0 now B d vs x RO Q Fr) (g39 : Nat) (w : World) (X : Hid (SP w0 w ([.blk OB 70 #[.int .i64 limit,.int .i64 life,.int .i64 now,.slice B m d],.row 125 8 B m d vs,.blk SB 70 #[.int .i64 limit,.int .i64 life,.int .i64 now0,.slice (some ⟨g,off,none⟩) n c],.row 125 8 (some ⟨g39,0,none⟩) 1 1 [.int .u32 x.e.src,.int .u32 x.e.dst,.int .u8 x.e.proto,.int .u16 x.e.id,.int .i64 x.e.begin_,.int .i64 (x.e.bytes : Int),.bool x.e.dead,.slice x.fA x.fn x.fc]]++RO))) :
 wpAnyH Tryz.prog .any (opsAt Tryz.f53 6) (NoPanic Q) (r7pS w0 SB OB g off n c k m limit life now0 now B d vs x RO) 3 #[true,true,true,true,true,true,true,true,false,false,false] (Fr y32 (.slice B m d) y34 y35 y36 y37 y38 (.slice (some ⟨g39,0,none⟩) 1 1) y40 y41) w:=by
 have H1:=Lib.hid H0
 obtain ⟨HP,⟨u,hF⟩,HQ⟩:=H0
 rw [hF]
 obtain ⟨i0,hi0,hz0,hz1,hz2⟩:=info_parts info7E
 have hk:=HP.out.hk
 have hm:=HP.out.hm
 have t1 : (k : Int) < (n : Int):=by omega
 have t0 : (0 : Int)<=(k : Int):=by omega
 have hHeld : (r7pS w0 SB OB g off n c k m limit life now0 now B d vs x RO) w:=by exact ⟨X.out.cell 2 rfl 3 rfl,HP.out.ra _ X.out.bel⟩
 refine rdy [8] ?_
 refine cons_lit rfl (fun K hK=>?ss8x9) AllReadyH.nil
 case ss8x9 =>
  refine step_append_rowO _ (by rfl) _ _ 68 (by rfl) w0.heap.size 125 i0 _ 8 64 Tryz.underlying68 hi0 hz0 hz1 hz2 (by rfl) (by decide) B m d vs (by rfl) (by exact X.out.row 1 rfl) (some ⟨g39,0,none⟩) 1 1 [.int .u32 x.e.src,.int .u32 x.e.dst,.int .u8 x.e.proto,.int .u16 x.e.id,.int .i64 x.e.begin_,.int .i64 (x.e.bytes : Int),.bool x.e.dead,.slice x.fA x.fn x.fc] (by rfl) (by rfl) (row_news (X.out.row 3 rfl)) (em_one x) (by simp only [maxLen];omega) (by omega) X.out.size ?_
  intro A40 c40 v hrow hgrow hat
  have Y:=Lib.hid (show SP w0 v ([.blk OB 70 #[.int .i64 limit,.int .i64 life,.int .i64 now,.slice B m d],.row 125 8 A40 (m + 1) c40 (vs++[.int .u32 x.e.src,.int .u32 x.e.dst,.int .u8 x.e.proto,.int .u16 x.e.id,.int .i64 x.e.begin_,.int .i64 (x.e.bytes : Int),.bool x.e.dead,.slice x.fA x.fn x.fc]),.blk SB 70 #[.int .i64 limit,.int .i64 life,.int .i64 now0,.slice (some ⟨g,off,none⟩) n c]]++RO) from SP.pickT (A:=[_,_,_,_]) (B:=[_,_,_]) (C:=RO) (X.out.appRow 1 rfl hrow hgrow hat) [0,1,2] rfl (by decide))
  clear hrow hgrow hat
  refine hK.out _ _ (by exact ⟨Y.out.cell 2 rfl 3 rfl,HP.out.ra _ Y.out.bel⟩) (fun hHeld=>?_)
  clear hK K
  try simp only [Act.put,jA,jB,jC]
  refine' tk (i:=9) rfl ?U10 ?V10
  case U10=>intro w' hSw;go_simp;try (with_reducible rfl)
  try simp only [Act.put,jA,jB,jC]
  rw [<- hF]
  exact r7ps3 H1.out g39 A40 c40 _ Y
set_option maxHeartbeats 1000000 in
set_option maxRecDepth 100000 in
theorem r7ps1 (H0 : r7pH w0 SB OB g off n c k m limit life now0 now B d vs x RO Q Fr) (w : World) (X : Hid (SP w0 w ([.blk OB 70 #[.int .i64 limit,.int .i64 life,.int .i64 now,.slice B m d],.row 125 8 B m d vs,.blk SB 70 #[.int .i64 limit,.int .i64 life,.int .i64 now0,.slice (some ⟨g,off,none⟩) n c]]++RO))) :
 wpAnyH Tryz.prog .any (opsAt Tryz.f53 6) (NoPanic Q) (r7pS w0 SB OB g off n c k m limit life now0 now B d vs x RO) 4 #[true,true,true,true,true,true,true,false,false,false,false] (Fr y32 (.slice B m d) y34 y35 y36 y37 (.agg (List.toArray [.int .u32 x.e.src,.int .u32 x.e.dst,.int .u8 x.e.proto,.int .u16 x.e.id,.int .i64 x.e.begin_,.int .i64 (x.e.bytes : Int),.bool x.e.dead,.slice x.fA x.fn x.fc])) y39 y40 y41) w:=by
 have H1:=Lib.hid H0
 obtain ⟨HP,⟨u,hF⟩,HQ⟩:=H0
 rw [hF]
 obtain ⟨i0,hi0,hz0,hz1,hz2⟩:=info_parts info7E
 have hk:=HP.out.hk
 have hm:=HP.out.hm
 have t1 : (k : Int) < (n : Int):=by omega
 have t0 : (0 : Int)<=(k : Int):=by omega
 have hHeld : (r7pS w0 SB OB g off n c k m limit life now0 now B d vs x RO) w:=by exact ⟨X.out.cell 2 rfl 3 rfl,HP.out.ra _ X.out.bel⟩
 refine rdy [7] ?_
 refine cons_lit rfl (fun K hK=>?ss7x8) AllReadyH.nil
 case ss7x8 =>
  go_simp
  obtain ⟨g39,hg39⟩ : ∃ g,g=w.heap.size:=⟨_,rfl⟩
  rw [<- hg39]
  refine nameW' (fun v hv=>?_)
  have Y:=Lib.hid (show SP w0 v ([.blk OB 70 #[.int .i64 limit,.int .i64 life,.int .i64 now,.slice B m d],.row 125 8 B m d vs,.blk SB 70 #[.int .i64 limit,.int .i64 life,.int .i64 now0,.slice (some ⟨g,off,none⟩) n c],.row 125 8 (some ⟨g39,0,none⟩) 1 1 [.int .u32 x.e.src,.int .u32 x.e.dst,.int .u8 x.e.proto,.int .u16 x.e.id,.int .i64 x.e.begin_,.int .i64 (x.e.bytes : Int),.bool x.e.dead,.slice x.fA x.fn x.fc]]++RO) by rw [hv];exact SP.pickT (A:=[_,_,_,_]) (B:=[_,_,_,_]) (C:=RO) (SP.rot (X.out.allocRow7 125 8 1 #[.int .u32 x.e.src,.int .u32 x.e.dst,.int .u8 x.e.proto,.int .u16 x.e.id,.int .i64 x.e.begin_,.int .i64 (x.e.bytes : Int),.bool x.e.dead,.slice x.fA x.fn x.fc] (by simp [maxLen]) rfl hg39.symm)) [1,2,3,0] rfl (by decide))
  clear hv hg39
  refine hK.out _ _ (by exact ⟨Y.out.cell 2 rfl 3 rfl,HP.out.ra _ Y.out.bel⟩) (fun hHeld=>?_)
  clear hK K
  try simp only [Act.put,jA,jB,jC]
  rw [<- hF]
  exact r7ps2 H1.out g39 _ Y
set_option maxHeartbeats 1000000 in
set_option maxRecDepth 100000 in
theorem r7ps5 (H0 : r7pH w0 SB OB g off n c k m limit life now0 now B d vs x RO Q Fr) (g39 : Nat) (w : World) (X : Hid (SP w0 w ([.blk OB 70 #[.int .i64 limit,.int .i64 life,.int .i64 now,.slice B m d],.row 125 8 B m d vs,.blk SB 70 #[.int .i64 limit,.int .i64 life,.int .i64 now0,.slice (some ⟨g,off,none⟩) n c],.row 125 8 (some ⟨g39,0,none⟩) 1 1 [.int .u32 x.e.src,.int .u32 x.e.dst,.int .u8 x.e.proto,.int .u16 x.e.id,.int .i64 x.e.begin_,.int .i64 (x.e.bytes : Int),.bool x.e.dead,.slice x.fA x.fn x.fc]]++RO))) :
 wpAnyH Tryz.prog .any (opsAt Tryz.f53 6) (NoPanic Q) (r7pS w0 SB OB g off n c k m limit life now0 now B d vs x RO) 4 #[true,false,true,true,true,true,true,true,false,false,false] (Fr (.pointer (some ⟨OB,3,none⟩)) y33 y34 y35 y36 y37 y38 (.slice (some ⟨g39,0,none⟩) 1 1) y40 y41) w:=by
 have H1:=Lib.hid H0
 obtain ⟨HP,⟨u,hF⟩,HQ⟩:=H0
 rw [hF]
 obtain ⟨i0,hi0,hz0,hz1,hz2⟩:=info_parts info7E
 have hk:=HP.out.hk
 have hm:=HP.out.hm
 have t1 : (k : Int) < (n : Int):=by omega
 have t0 : (0 : Int)<=(k : Int):=by omega
 have hHeld : (r7pS w0 SB OB g off n c k m limit life now0 now B d vs x RO) w:=by exact ⟨X.out.cell 2 rfl 3 rfl,HP.out.ra _ X.out.bel⟩
 refine rdy [1] ?_
 refine cons_lit rfl (fun K hK=>?ss1x12) AllReadyH.nil
 case ss1x12 =>
  have xc:=X.out.cell 0 rfl 3 rfl
  go_simp
  clear xc
  have Y:=X
  refine hK.out _ _ (by exact ⟨Y.out.cell 2 rfl 3 rfl,HP.out.ra _ Y.out.bel⟩) (fun hHeld=>?_)
  clear hK K
  try simp only [Act.put,jA,jB,jC]
  rw [<- hF]
  exact r7ps2 H1.out g39 _ Y
set_option maxHeartbeats 1000000 in
set_option maxRecDepth 100000 in
theorem r7ps0 (H0 : r7pH w0 SB OB g off n c k m limit life now0 now B d vs x RO Q Fr) (w : World) (X : Hid (SP w0 w ([.blk OB 70 #[.int .i64 limit,.int .i64 life,.int .i64 now,.slice B m d],.row 125 8 B m d vs,.blk SB 70 #[.int .i64 limit,.int .i64 life,.int .i64 now0,.slice (some ⟨g,off,none⟩) n c]]++RO))) :
 wpAnyH Tryz.prog .any (opsAt Tryz.f53 6) (NoPanic Q) (r7pS w0 SB OB g off n c k m limit life now0 now B d vs x RO) 11 #[false,false,false,false,false,false,false,false,false,false,false] (Fr y32 y33 y34 y35 y36 y37 y38 y39 y40 y41) w:=by
 have H1:=Lib.hid H0
 obtain ⟨HP,⟨u,hF⟩,HQ⟩:=H0
 rw [hF]
 obtain ⟨i0,hi0,hz0,hz1,hz2⟩:=info_parts info7E
 have hk:=HP.out.hk
 have hm:=HP.out.hm
 have t1 : (k : Int) < (n : Int):=by omega
 have t0 : (0 : Int)<=(k : Int):=by omega
 have hHeld : (r7pS w0 SB OB g off n c k m limit life now0 now B d vs x RO) w:=by exact ⟨X.out.cell 2 rfl 3 rfl,HP.out.ra _ X.out.bel⟩
 refine' tk (i:=0) rfl ?U1 ?V1
 case U1=>intro w' hSw;go_simp;try (with_reducible rfl)
 try simp only [Act.put,jA,jB,jC]
 refine' tk (i:=2) rfl ?U2 ?V2
 case U2=>intro w' hSw;go_simp;try (with_reducible rfl)
 try simp only [Act.put,jA,jB,jC]
 refine' tk (i:=3) rfl ?U3 ?V3
 case U3=>intro w' hSw;unfold r7pS at hSw;(try dsimp only at hSw);go_simp;try (with_reducible rfl)
 try simp only [Act.put,jA,jB,jC]
 refine' tk (i:=4) rfl ?U4 ?V4
 case U4=>intro w' hSw;go_simp;try (with_reducible rfl)
 try simp only [Act.put,jA,jB,jC]
 refine' tk (i:=5) rfl ?U5 ?V5
 case U5=>intro w' hSw;go_simp;try (with_reducible rfl)
 try simp only [Act.put,jA,jB,jC]
 refine' take_lit (i:=6) (v:=.agg (List.toArray [.int .u32 x.e.src,.int .u32 x.e.dst,.int .u8 x.e.proto,.int .u16 x.e.id,.int .i64 x.e.begin_,.int .i64 (x.e.bytes : Int),.bool x.e.dead,.slice x.fA x.fn x.fc])) rfl (by kernel_rfl) (by kernel_rfl) (by kernel_rfl) (fun _ _ _ h=>h) (Or.inl ⟨by rfl,?yy6⟩) (by assumption) ?rr6
 case yy6=>intro w' hSw;exact exec_load_mid 125 _ rfl g (off + k * 8) rfl [.int .u32 x.e.src,.int .u32 x.e.dst,.int .u8 x.e.proto,.int .u16 x.e.id,.int .i64 x.e.begin_,.int .i64 (x.e.bytes : Int),.bool x.e.dead,.slice x.fA x.fn x.fc] _ (hSw.2) Tryz.underlying125 rfl (by kernel_rfl)
 try simp only [Act.put,jA,jB,jC]
 refine rdy [1,7] ?_
 refine cons_lit rfl (fun K hK=>?ss1x7) (cons_lit rfl (fun K hK=>?ss7x7) AllReadyH.nil)
 case ss1x7 =>
  have xc:=X.out.cell 0 rfl 3 rfl
  go_simp
  clear xc
  have Y:=X
  refine hK.out _ _ (by exact ⟨Y.out.cell 2 rfl 3 rfl,HP.out.ra _ Y.out.bel⟩) (fun hHeld=>?_)
  clear hK K
  try simp only [Act.put,jA,jB,jC]
  rw [<- hF]
  exact r7ps1 H1.out  _ Y
 case ss7x7 =>
  go_simp
  obtain ⟨g39,hg39⟩ : ∃ g,g=w.heap.size:=⟨_,rfl⟩
  rw [<- hg39]
  refine nameW' (fun v hv=>?_)
  have Y:=Lib.hid (show SP w0 v ([.blk OB 70 #[.int .i64 limit,.int .i64 life,.int .i64 now,.slice B m d],.row 125 8 B m d vs,.blk SB 70 #[.int .i64 limit,.int .i64 life,.int .i64 now0,.slice (some ⟨g,off,none⟩) n c],.row 125 8 (some ⟨g39,0,none⟩) 1 1 [.int .u32 x.e.src,.int .u32 x.e.dst,.int .u8 x.e.proto,.int .u16 x.e.id,.int .i64 x.e.begin_,.int .i64 (x.e.bytes : Int),.bool x.e.dead,.slice x.fA x.fn x.fc]]++RO) by rw [hv];exact SP.pickT (A:=[_,_,_,_]) (B:=[_,_,_,_]) (C:=RO) (SP.rot (X.out.allocRow7 125 8 1 #[.int .u32 x.e.src,.int .u32 x.e.dst,.int .u8 x.e.proto,.int .u16 x.e.id,.int .i64 x.e.begin_,.int .i64 (x.e.bytes : Int),.bool x.e.dead,.slice x.fA x.fn x.fc] (by simp [maxLen]) rfl hg39.symm)) [1,2,3,0] rfl (by decide))
  clear hv hg39
  refine hK.out _ _ (by exact ⟨Y.out.cell 2 rfl 3 rfl,HP.out.ra _ Y.out.bel⟩) (fun hHeld=>?_)
  clear hK K
  try simp only [Act.put,jA,jB,jC]
  rw [<- hF]
  exact r7ps5 H1.out g39 _ Y
end
set_option maxRecDepth 100000 in
theorem r7p_0 {u0 u1 u3 u4 u7 u8 u9 u10 u11 u12 u13 u14 u15 u16 u17 u18 u19 u20 u21 u22 u23 u24 u25 u26 u27 u28 u29 u30 u31 u32 u33 u34 u35 u36 u37 u38 u39 u40 u41 u42 : Value} {Q : Exit->Act->World->Prop} {w0 : World} {SB OB g off n c k m : Nat} {limit life now0 now : Int} {B : Option Addr} {d : Nat} {vs : List Value} {x : EM} {RO : List IT} (HP : Hid (r7pP w0 SB OB g off n c k m limit life now0 now B d vs x RO)) (HQ : Hid (∀ (y32 y33 y34 y35 y36 y37 y38 y39 y40 y41 : Value) (g39 : Nat) (A40 : Option Addr) (c40 : Nat) (w' : World),SP w0 w' ([.blk OB 70 #[.int .i64 limit,.int .i64 life,.int .i64 now,.slice A40 (m + 1) c40],.row 125 8 A40 (m + 1) c40 (vs++[.int .u32 x.e.src,.int .u32 x.e.dst,.int .u8 x.e.proto,.int .u16 x.e.id,.int .i64 x.e.begin_,.int .i64 (x.e.bytes : Int),.bool x.e.dead,.slice x.fA x.fn x.fc]),.blk SB 70 #[.int .i64 limit,.int .i64 life,.int .i64 now0,.slice (some ⟨g,off,none⟩) n c]]++RO)->Q .normal ⟨List.toArray (u0::u1::.pointer (some ⟨SB,0,none⟩)::u3::u4::.pointer (some ⟨OB,0,none⟩)::.int .i64 (k : Int)::u7::u8::u9::u10::u11::u12::u13::u14::u15::u16::u17::u18::u19::u20::u21::u22::u23::u24::u25::u26::u27::u28::u29::u30::u31::y32::y33::y34::y35::y36::y37::y38::y39::y40::y41::u42::[]),[]⟩ w')) (w : World) (X : Hid (SP w0 w ([.blk OB 70 #[.int .i64 limit,.int .i64 life,.int .i64 now,.slice B m d],.row 125 8 B m d vs,.blk SB 70 #[.int .i64 limit,.int .i64 life,.int .i64 now0,.slice (some ⟨g,off,none⟩) n c]]++RO))) :
 wpAnyH Tryz.prog .any (opsAt Tryz.f53 6) (NoPanic Q) (r7pS w0 SB OB g off n c k m limit life now0 now B d vs x RO) 11 #[false,false,false,false,false,false,false,false,false,false,false] ⟨List.toArray (u0::u1::.pointer (some ⟨SB,0,none⟩)::u3::u4::.pointer (some ⟨OB,0,none⟩)::.int .i64 (k : Int)::u7::u8::u9::u10::u11::u12::u13::u14::u15::u16::u17::u18::u19::u20::u21::u22::u23::u24::u25::u26::u27::u28::u29::u30::u31::u32::u33::u34::u35::u36::u37::u38::u39::u40::u41::u42::[]),[]⟩ w :=
 r7ps0 (Fr:=(fun y32 y33 y34 y35 y36 y37 y38 y39 y40 y41=>⟨List.toArray (u0::u1::.pointer (some ⟨SB,0,none⟩)::u3::u4::.pointer (some ⟨OB,0,none⟩)::.int .i64 (k : Int)::u7::u8::u9::u10::u11::u12::u13::u14::u15::u16::u17::u18::u19::u20::u21::u22::u23::u24::u25::u26::u27::u28::u29::u30::u31::y32::y33::y34::y35::y36::y37::y38::y39::y40::y41::u42::[]),[]⟩)) ⟨HP,⟨fun i=>([u0,u1,undef,u3,u4,undef,undef,u7,u8,u9,u10,u11,u12,u13,u14,u15,u16,u17,u18,u19,u20,u21,u22,u23,u24,u25,u26,u27,u28,u29,u30,u31,u32,u33,u34,u35,u36,u37,u38,u39,u40,u41,u42] : List Value)[i]?.getD undef,fun _ _ _ _ _ _ _ _ _ _=>rfl⟩,Lib.hid HQ.out⟩ w X
end Go.Proofs.YtljbfnabnkkfeaaGreat
namespace Go.Proofs.YtljbfnabnkkfeaaGreat
open Go.RowKit
theorem row_le {w : World} {base : Nat} {e : TypeId} {m n c : Nat} {A : Option Addr} {vs : List Value} (h : w.ownsRow base e m (.slice A n c) n vs) : n<=c:=by
 rcases h.2 with ⟨h1,_⟩ | ⟨g,cap,cur,h1,_,_,h2,_⟩
 ·simp at h1;omega
 ·simp at h1
  obtain ⟨rfl,rfl⟩:=h1
  exact h2
def inR (r : RT) (now : Int) (x : EM) : Bool:=decide (now < x.e.begin_ + r.life)
set_option maxHeartbeats 1000000 in
set_option maxRecDepth 100000 in
theorem r7pass_any (r : RT) (now : Int) (A : Option Addr) (n c : Nat) (l : List EM) (w : World) (h : RTM w r A n c l) (hn : n<=100000) (hl : 1<=r.life∧r.life<=16777215) (hb : ∀ e ∈ r.es,0<=e.begin_∧e.begin_<=1099511627776) :
 Calls Tryz.prog 53 #[r.val A n c,.int .i64 now] w fun e w'=>∃ B m d,e = .returned ((passR r now).val B m d)∧Below w.heap.size w w'∧RTM w' (passR r now) B m d (l.filter (inR r now))∧(∀ p,B=some p->w.heap.size<=p.block):=by
 have H:=Lib.hid h.row
 have HES:=Lib.hid h.es
 have HB:=Lib.hid hb
 obtain ⟨limit,life,now0,es⟩:=r
 dsimp only at hl
 obtain ⟨S,hS⟩ : ∃ b,w.heap.size=b:=⟨_,rfl⟩
 have X0:=Lib.hid ((((SP.start w).alloc' (N:=S) 70 #[.int .i64 limit,.int .i64 life,.int .i64 now0,.slice A n c] hS).alloc' (N:=S + 1) 70 #[.int .i64 0,.int .i64 0,.int .i64 0,.slice none 0 0] (by simp [hS])).alloc' (N:=S + 1 + 1) 70 #[.int .i64 limit,.int .i64 life,.int .i64 now,.slice none 0 0] (by simp [hS]))
 clear h hb
 unfold RT.val
 dsimp only
 go_enter Tryz.func53,Tryz.ntmps53
 go_upto_region 3 with fail
 generalize hw1 : ((w.alloc (.cells #[.int .i64 limit,.int .i64 life,.int .i64 now0,.slice A n c] 70)).alloc (.cells #[.int .i64 0,.int .i64 0,.int .i64 0,.slice none 0 0] 70)).alloc (.cells #[.int .i64 limit,.int .i64 life,.int .i64 now,.slice none 0 0] 70)=w1 at X0 ⊢
 clear hw1
 obtain ⟨RB,hRB⟩ : ∃ b,S + 1=b:=⟨_,rfl⟩
 obtain ⟨OB,hOB⟩ : ∃ b,RB + 1=b:=⟨_,rfl⟩
 rw [hRB,hOB] at X0 ⊢
 clear hRB hOB hS
 obtain ⟨RO,hRO⟩ : ∃ L : List IT,[.blk RB 70 #[.int .i64 0,.int .i64 0,.int .i64 0,.slice none 0 0]]=L:=⟨_,rfl⟩
 have X1:=Lib.hid (show SP w w1 ([.blk OB 70 #[.int .i64 limit,.int .i64 life,.int .i64 now,.slice none 0 0],.row 125 8 none 0 0 (([] : List EM).flatMap EM.cells),.blk S 70 #[.int .i64 limit,.int .i64 life,.int .i64 now0,.slice A n c]]++RO) from by
  rw [<- hRO]
  exact (X0.out.pushRow 125 8).pick [2,3,0,1] (by decide) rfl)
 have HRO:=Lib.hid hRO
 clear X0 hRO
 have hf : ∀ k,((l.take k).filter (inR ⟨limit,life,now0,es⟩ now)).length<=n:=fun k=>by
  have h1:=List.length_filter_le (inR ⟨limit,life,now0,es⟩ now) (l.take k)
  have h2 : (l.take k).length<=l.length:=by rw [List.length_take];omega
  have:=H.out.len;omega
 have HF:=Lib.hid hf
 clear hf
 go_loopw [6] (fun s6 wr=>∃ (k m : Nat) (B : Option Addr) (d : Nat),k<=n∧s6 = .int .i64 (k : Int)∧((l.take k).filter (inR ⟨limit,life,now0,es⟩ now)).length=m∧SP w wr ([.blk OB 70 #[.int .i64 limit,.int .i64 life,.int .i64 now,.slice B m d],.row 125 8 B m d (((l.take k).filter (inR ⟨limit,life,now0,es⟩ now)).flatMap EM.cells),.blk S 70 #[.int .i64 limit,.int .i64 life,.int .i64 now0,.slice A n c]]++RO)) (fun s6 _=>n - (intOf s6).toNat)
 case atStart=>exact ⟨0,0,none,0,Nat.zero_le _,rfl,rfl,X1.out⟩
 case round =>
  obtain ⟨k,m,B,d,hk,rfl,hm,Y0⟩:=hrel
  have Y:=Lib.hid Y0
  have HM:=Lib.hid hm
  clear Y0 X1 hm
  have k3 : wr.cell? ⟨S,3,none⟩=some (.slice A n c):=Y.out.cell 2 rfl 3 rfl
  have k1 : wr.cell? ⟨S,1,none⟩=some (.int .i64 life):=Y.out.cell 2 rfl 1 rfl
  by_cases hlt : k < n
  ·have t1 : (k : Int) < (n : Int):=by omega
   have t0 : (0 : Int)<=(k : Int):=by omega
   obtain ⟨x,hx⟩ : ∃ x,l[k]?=some x:=⟨_,List.getElem?_eq_getElem (by rw [H.out.len];exact hlt)⟩
   have HX:=Lib.hid hx
   obtain ⟨g,off,rfl,hg,hc⟩:=H.out.at_ k x hx
   have RA:=Lib.hid (show ∀ W,Below w.heap.size w W->W.rangeAt g (off + k * 8) [.int .u32 x.e.src,.int .u32 x.e.dst,.int .u8 x.e.proto,.int .u16 x.e.id,.int .i64 x.e.begin_,.int .i64 (x.e.bytes : Int),.bool x.e.dead,.slice x.fA x.fn x.fc] from fun W hb j v hv=>(hb.cell (p:=⟨g,_,none⟩) hg).trans (hc j v hv))
   have x4 : wr.cell? ⟨g,off + k * 8 + 4,none⟩=some (.int .i64 x.e.begin_):=RA.out wr Y.out.bel 4 _ rfl
   have e6 : IntKind.i64.wrap ((k : Int) + 1)=(k : Int) + 1:=IntWalk.i64_in _ (by omega)
   have hbe:=HB.out x.e (by rw [<- HES.out];exact List.mem_map.2 ⟨x,List.mem_of_getElem? hx,rfl⟩)
   have e7 : IntKind.i64.wrap (x.e.begin_ + life)=x.e.begin_ + life:=IntWalk.i64_in _ (by omega)
   clear hc hx hg hbe
   have hm1 : m<=100000:=by have:=HF.out k;rw [HM.out] at this;omega
   have hst : (l.take (k + 1)).filter (inR ⟨limit,life,now0,es⟩ now)=(l.take k).filter (inR ⟨limit,life,now0,es⟩ now)++(if now < x.e.begin_ + life then [x] else []):=by
    rw [List.take_add_one,HX.out,List.filter_append]
    congr 1
    simp only [Option.toList_some,List.filter_cons,List.filter_nil]
    unfold inR
    dsimp only
    by_cases hd : now < x.e.begin_ + life
    ·simp [hd]
    ·simp [hd]
   have HST:=Lib.hid hst
   clear hst
   by_cases hin : now < x.e.begin_ + life
   ·have d1 : decide (now < x.e.begin_ + life)=true:=by simp;exact hin
    go_wp2_with fail
    go_quiet (fail)
    go_upto_region 6 with fail
    have Z:=Lib.hid (Y.out.drewN nq)
    generalize wr.drewN nq=wz at Z ⊢
    clear Y k3 k1 x4
    refine wp_region_noPanic ?_
    refine wp_region_held_drew (S:=r7pS w S OB g off n c k m limit life now0 now B d (((l.take k).filter (inR ⟨limit,life,now0,es⟩ now)).flatMap EM.cells) x RO) (by kernel_rfl) ⟨Z.out.drew.cell 2 rfl 3 rfl,RA.out _ Z.out.drew.bel⟩ (fun hHeld=>?_)
    clear hHeld
    refine r7p_0 (Lib.hid ⟨hlt,hm1,RA.out⟩) (Lib.hid ?_) _ (Lib.hid Z.out.drew)
    intro y32 y33 y34 y35 y36 y37 y38 y39 y40 y41 g39 A40 c40 w2 hX2
    have X2:=Lib.hid hX2
    clear hX2 Z
    go_wp2_with fail
    go_roundw
    case rel =>
     refine ⟨k + 1,m + 1,A40,c40,by omega,by go_num,by rw [HST.out,if_pos hin,List.length_append,HM.out];rfl,?_⟩
     rw [HST.out,if_pos hin,List.flatMap_append]
     exact X2.out
    case measure=>simp [intOf];omega
   ·have d1 : decide (now < x.e.begin_ + life)=false:=by simp;omega
    go_wp2_with fail
    go_quiet (fail)
    go_wp2_with fail
    go_roundw
    case rel =>
     refine ⟨k + 1,m,B,d,by omega,by go_num,by rw [HST.out,if_neg (Int.not_lt.2 hin),List.append_nil,HM.out],?_⟩
     rw [HST.out,if_neg (Int.not_lt.2 hin),List.append_nil]
     exact Y.out.drewN _
    case measure=>simp [intOf];omega
  ·have t1 : ¬ (k : Int) < (n : Int):=by omega
   obtain rfl : k=n:=by omega
   have hs : l.take k=l:=List.take_of_length_le (by have:=H.out.len;omega)
   rw [hs] at Y HM
   have Y2:=Lib.hid (show SP w wr [.blk OB 70 #[.int .i64 limit,.int .i64 life,.int .i64 now,.slice B m d],.row 125 8 B m d ((l.filter (inR ⟨limit,life,now0,es⟩ now)).flatMap EM.cells),.blk S 70 #[.int .i64 limit,.int .i64 life,.int .i64 now0,.slice A k c],.blk RB 70 #[.int .i64 0,.int .i64 0,.int .i64 0,.slice none 0 0]] from by
    have:=Y.out
    rw [<- HRO.out] at this
    exact this)
   clear Y HRO k1
   go_upto_region 7 with fail
   go_wp2_with (first
    | (refine wpList_load_row rfl 70 _ rfl OB rfl 70 #[.int .i64 limit,.int .i64 life,.int .i64 now,.slice B m d] (0,0) _ (Y2.out.blk 0 rfl) Tryz.underlying70 rfl (by kernel_rfl) ?_)
    | (refine wpList_store_row rfl 70 _ _ rfl RB #[.int .i64 limit,.int .i64 life,.int .i64 now,.slice B m d] rfl rfl 70 #[.int .i64 0,.int .i64 0,.int .i64 0,.slice none 0 0] (Y2.out.blk 3 rfl) (by kernel_rfl) rfl (by simp [Value.oneCell']) ?_))
   have Y3:=Lib.hid (Y2.out.setR 3 rfl #[.int .i64 limit,.int .i64 life,.int .i64 now,.slice B m d])
   refine bodyPost_ret (results_cell_row rfl _ _ RB 70 _ (0,0) _ rfl (Y3.out.blk 3 rfl) Tryz.underlying70 rfl (by kernel_rfl)) rfl ?_
   have hrow:=Y3.out.row 1 rfl
   refine ⟨B,m,d,rfl,Y3.out.bel,⟨?_,?_⟩,fun p hp=>?_⟩
   ·refine erow_of_row hrow HM.out (row_le hrow) (fun x hx=>(H.out.ok x (List.mem_filter.1 hx).1).later Y3.out.bel)
   ·unfold passR
    dsimp only
    rw [<- HES.out,List.filter_map]
    rfl
   ·subst hp
    exact (Y3.out.ltm (x:=.row 125 8 (some p) m d _) (List.mem_of_getElem? (i:=1) rfl) rfl).1
theorem results_cell_tmp27 {P : Program} {fn : Func} {p u1 u2 : Tmp} {ty : TypeId} (h : fn.results = #[.cell p ty,.tmp u1,.tmp u2]) (tmps : Array Value) (w : World) (g : Nat) (t : TypeId) (cs : Array Value) (fr : Nat × Nat) (d : TypeDesc)
 (hp : tmps.getD p undef = .pointer (some ⟨g,0,none⟩)) (hg : w.heap[g]?=some (.cells cs t fr))
 (hu : P.underlying ty=some d) (hd : (match d with | .struct _ | .array _ _=>true | _=>false)=true) (hi : (P.info? ty).map (·.size)=some cs.size) :
 (results fn tmps).run P w = .ok (.tuple #[.agg cs,tmps.getD u1 undef,tmps.getD u2 undef]) w:=by
 have hp' : tmps[p]?.getD undef = .pointer (some ⟨g,0,none⟩):=by simpa using hp
 simp [results,h,hp',asAddr,run_loadVar_row w g t ty cs fr d hg hu hd hi]
def OLDNEW (X : Nat->Prop) (w : World) (g : Nat) : Prop:=X g∨w.heap.size<=g
theorem pass_foot {r : RT} {now : Int} {A B : Option Addr} {l : List EM} {w : World} (hB : ∀ p,B=some p->w.heap.size<=p.block) : ∀ X,EFT X A l->EFT (OLDNEW X w) B (l.filter (inR r now)):=fun X h =>
 (h.mono (Y:=OLDNEW X w) (fun g hg=>.inl hg)).sub (fun x hx=>(List.mem_filter.1 hx).1) (fun _ p hp=>.inr (hB p hp))
def TICKD (r : RT) (now : Int) (A : Option Addr) (n : Nat) (l : List EM) (w : World) (e : Ending) (w' : World) : Prop :=
 ∃ B m d l',e = .returned (.tuple #[(tickR r now).1.val B m d,.int .i64 (tickR r now).2])∧Below w.heap.size w w'∧RTM w' (tickR r now).1 B m d l'∧(∀ X,EFT X A l->EFT (OLDNEW X w) B l')∧m<=n∧(∀ x ∈ l',x ∈ l)
theorem filter_len_le {r : RT} {now : Int} {w w' : World} {A B : Option Addr} {n c m d : Nat} {l : List EM} (h : EROW w A n c l) (h' : EROW w' B m d (l.filter (inR r now))) : m<=n:=by
 have h1:=List.length_filter_le (inR r now) l
 have h2:=h.len
 have h3:=h'.len
 omega
set_option maxHeartbeats 1000000 in
set_option maxRecDepth 100000 in
theorem r7tick_any (r : RT) (now : Int) (A : Option Addr) (n c : Nat) (l : List EM) (w : World) (h : RTM w r A n c l) (hn : n<=100000) (hl : 1<=r.life∧r.life<=16777215) (hb : ∀ e ∈ r.es,0<=e.begin_∧e.begin_<=1099511627776) :
 Calls Tryz.prog 26 #[r.val A n c,.int .i64 now] w (TICKD r now A n l w):=by
 have H:=Lib.hid h
 have HP:=Lib.hid (fun (W : World) (hbe : Below w.heap.size w W)=>r7pass_any r now A n c l W ⟨h.row.later hbe,h.es⟩ hn hl hb)
 obtain ⟨S,hS⟩ : ∃ b,w.heap.size=b:=⟨_,rfl⟩
 obtain ⟨nw,hnw⟩ : ∃ b,r.now=b:=⟨_,rfl⟩
 obtain ⟨lm,hlm⟩ : ∃ b,r.limit=b:=⟨_,rfl⟩
 obtain ⟨lf,hlf⟩ : ∃ b,r.life=b:=⟨_,rfl⟩
 have HR:=Lib.hid (show r.val A n c = .agg #[.int .i64 lm,.int .i64 lf,.int .i64 nw,.slice A n c] by unfold RT.val;rw [hlm,hlf,hnw])
 have HNW:=Lib.hid hnw
 have HRP:=Lib.hid (show ∀ B m d,(passR r now).val B m d = .agg #[.int .i64 lm,.int .i64 lf,.int .i64 now,.slice B m d] by intro B m d;unfold RT.val passR;dsimp only;rw [hlm,hlf])
 have X0:=Lib.hid (((SP.start w).alloc' (N:=S) 70 #[.int .i64 lm,.int .i64 lf,.int .i64 nw,.slice A n c] hS).alloc' (N:=S + 1) 70 #[.int .i64 0,.int .i64 0,.int .i64 0,.slice none 0 0] (by simp [hS]))
 rw [HR.out]
 clear h hb hl hlm hlf hnw
 have LATE:=Lib.hid (show ∀ w',(decide (now < nw) || decide (1099511627776 < now))=true->Below w.heap.size w w'->TICKD r now A n l w (.returned (.tuple #[.agg #[.int .i64 lm,.int .i64 lf,.int .i64 nw,.slice A n c],.int .i64 70])) w' by
  intro w' hlt hX
  have ht : tickR r now=(r,70):=by unfold tickR lateR;rw [HNW.out,if_pos hlt]
  unfold TICKD
  rw [ht]
  exact ⟨A,n,c,l,by rw [HR.out],hX,⟨H.out.row.later hX,H.out.es⟩,fun X h=>h.mono (fun g hg=>.inl hg),Nat.le_refl _,fun x hx=>hx⟩)
 go_enter Tryz.func26,Tryz.ntmps26
 go_upto_region 1 with fail
 generalize hw1 : (w.alloc (.cells #[.int .i64 lm,.int .i64 lf,.int .i64 nw,.slice A n c] 70)).alloc (.cells #[.int .i64 0,.int .i64 0,.int .i64 0,.slice none 0 0] 70)=w1 at X0 ⊢
 clear hw1
 obtain ⟨RB,hRB⟩ : ∃ b,S + 1=b:=⟨_,rfl⟩
 rw [hRB] at X0 ⊢
 clear hRB hS
 have X1:=Lib.hid (show SP w w1 [.blk S 70 #[.int .i64 lm,.int .i64 lf,.int .i64 nw,.slice A n c],.blk RB 70 #[.int .i64 0,.int .i64 0,.int .i64 0,.slice none 0 0]] from X0.out)
 clear X0
 have k2 : w1.cell? ⟨S,2,none⟩=some (.int .i64 nw):=X1.out.cell 0 rfl 2 rfl
 obtain ⟨lt,hlt⟩ : ∃ b,(decide (now < nw) || decide (1099511627776 < now))=b:=⟨_,rfl⟩
 have HLT:=Lib.hid hlt
 rw [hlt] at LATE
 clear hlt
 go_cut [13] (fun s13 wx=>s13 = .bool lt∧wx=w1)
 case first =>
  by_cases c1 : now < nw
  ·go_wp2_with fail
   go_meet
   exact ⟨by rw [<- HLT.out];simp [c1],rfl⟩
  ·by_cases c2 : 1099511627776 < now
   ·go_wp2_with fail
    go_meet
    exact ⟨by rw [<- HLT.out];simp [c2],rfl⟩
   ·go_wp2_with fail
    go_meet
    exact ⟨by rw [<- HLT.out];simp;omega,rfl⟩
 case rest =>
 obtain ⟨rfl,hwc⟩:=hcut
 rw [hwc]
 clear hwc wc k2
 cases lt
 case true =>
  go_wp2_with (first
   | (refine wpList_load_row rfl 70 _ rfl S rfl 70 #[.int .i64 lm,.int .i64 lf,.int .i64 nw,.slice A n c] (0,0) _ (X1.out.blk 0 rfl) Tryz.underlying70 rfl (by kernel_rfl) ?_)
   | (refine wpList_store_row rfl 70 _ _ rfl RB #[.int .i64 lm,.int .i64 lf,.int .i64 nw,.slice A n c] rfl rfl 70 #[.int .i64 0,.int .i64 0,.int .i64 0,.slice none 0 0] (X1.out.blk 1 rfl) (by kernel_rfl) rfl (by simp [Value.oneCell']) ?_))
  have X2:=Lib.hid (X1.out.setR 1 rfl #[.int .i64 lm,.int .i64 lf,.int .i64 nw,.slice A n c])
  refine bodyPost_ret (results_cell_tmp1 rfl _ _ RB 70 _ (0,0) _ rfl (X2.out.blk 1 rfl) Tryz.underlying70 rfl (by kernel_rfl)) rfl ?_
  exact LATE.out _ (by first | rfl | trivial) X2.out.bel
 case false =>
 have hP:=HP.out w1 X1.out.bel
 rw [HR.out] at hP
 have HPP:=Lib.hid hP
 clear hP HP
 go_wp2_with (first
  | (refine wpList_load_row rfl 70 _ rfl S rfl 70 #[.int .i64 lm,.int .i64 lf,.int .i64 nw,.slice A n c] (0,0) _ (X1.out.blk 0 rfl) Tryz.underlying70 rfl (by kernel_rfl) ?_))
 refine HPP.out.mono ?_
 rintro e w2 ⟨B,m,d,rfl,hb2,hT,hB⟩
 rw [HRP.out]
 have X2:=Lib.hid (X1.out.next hb2)
 have HT:=Lib.hid (And.intro hT hB)
 clear hb2 hT hB HPP
 go_wp2_with (first
  | (refine wpList_store_row rfl 70 _ _ rfl RB #[.int .i64 lm,.int .i64 lf,.int .i64 now,.slice B m d] rfl rfl 70 #[.int .i64 0,.int .i64 0,.int .i64 0,.slice none 0 0] (X2.out.blk 1 rfl) (by kernel_rfl) rfl (by simp [Value.oneCell']) ?_))
 have X3:=Lib.hid (X2.out.setR 1 rfl #[.int .i64 lm,.int .i64 lf,.int .i64 now,.slice B m d])
 refine bodyPost_ret (results_cell_tmp1 rfl _ _ RB 70 _ (0,0) _ rfl (X3.out.blk 1 rfl) Tryz.underlying70 rfl (by kernel_rfl)) rfl ?_
 have ht : tickR r now=(passR r now,0):=by unfold tickR lateR;rw [HNW.out,HLT.out];rfl
 unfold TICKD
 rw [ht]
 have hX1:=X1.out.size
 have hRB:=X1.out.ltm (x:=.blk RB 70 _) (List.mem_of_getElem? (i:=1) rfl) rfl
 refine ⟨B,m,d,l.filter (inR r now),by rw [HRP.out];rfl,X3.out.bel,⟨?_,HT.out.1.es⟩,pass_foot (fun p hp=>Nat.le_trans hX1 (HT.out.2 p hp)),filter_len_le H.out.row HT.out.1.row,fun x hx=>(List.mem_filter.1 hx).1⟩
 refine HT.out.1.row.keepX (X:=fun g=>g≠RB) ?_ (fun g hg=>setRow_other _ _ _ _ hg)
 refine EFT.of (fun x hx=>((H.out.row.ok x (List.mem_filter.1 hx).1).foot).mono (fun g hg=>by have:=hRB.1;omega)) (fun _ p hp=>?_)
 have:=HT.out.2 p hp
 have:=hRB.2
 omega
end Go.Proofs.YtljbfnabnkkfeaaGreat
