import Derived.Deep.Slices
import Derived.Deep.Strs
import Derived.ChangeSame
import Derived.Laws.StructEq
import Derived.Test.YtljbfnabnkkfeaaGreatSL17
set_option linter.unusedVariables false
set_option linter.unusedSimpArgs false
/- Joined by program: FgQZ, FgZA, FgZB, WRowo, FgTC, FgTD, FgTA. -/
namespace Go.Proofs.YtljbfnabnkkfeaaGreat
open Go.RowKit
theorem obj_holds {base : Nat} {w : World} {x : IT} (h : x.Holds base w) {g : Nat} (hg : x.at_=some g) : ∃ o,w.heap[g]?=some o∧(IT.obj g o).Holds base w:=by
 obtain ⟨h1,h2⟩:=h.lt hg
 exact ⟨w.heap[g],Array.getElem?_eq_getElem h2,h1,Array.getElem?_eq_getElem h2⟩
theorem SP.objOf {w0 w : World} {L : List IT} {x : IT} (H : SP w0 w (x::L)) : ∃ Y : List IT,SP w0 w (Y++L)∧∀ p,x.at_=some p->KEPT Y p:=by
 cases hx : x.at_ with
 | none=>exact ⟨[],H.tail,fun p hp=>by cases hp⟩
 | some g =>
   obtain ⟨o,h1,h2⟩:=obj_holds (H.mem x (by simp)) hx
   refine ⟨[.obj g o],SP.mk' H.bel (fun y hy=>?_) ?_,fun p hp=>?_⟩
   ·rcases List.mem_cons.1 hy with rfl | hy
    ·exact h2
    ·exact H.mem y (List.mem_cons_of_mem _ hy)
   ·have hp:=List.pairwise_cons.1 H.pw
    refine List.pairwise_cons.2 ⟨fun y hy q hq=>?_,hp.2⟩
    exact hp.1 y hy q (by rw [hx];exact hq)
   ·cases hp
    exact ⟨o,by simp⟩
theorem SP.swap2 {w0 w : World} {T A B C : List IT} (H : SP w0 w (T++(A++(B++C)))) : SP w0 w (T++(B++(A++C))) :=
 H.perm (List.Perm.append_left T (by rw [<- List.append_assoc,<- List.append_assoc];exact List.perm_append_comm.append_right C))
theorem KEPT.left {L L' : List IT} {g : Nat} (h : KEPT L g) : KEPT (L++L') g:=by
 obtain ⟨o,h⟩:=h
 exact ⟨o,List.mem_append_left _ h⟩
theorem KEPT.right {L L' : List IT} {g : Nat} (h : KEPT L' g) : KEPT (L++L') g:=by
 obtain ⟨o,h⟩:=h
 exact ⟨o,List.mem_append_right _ h⟩
theorem KEPT.more {L L' : List IT} {g : Nat} (h : KEPT L g) (hs : ∀ x ∈ L,x ∈ L') : KEPT L' g:=by
 obtain ⟨o,h⟩:=h
 exact ⟨o,hs _ h⟩
def FTK (w : World) (RO : List IT) (g : Nat) : Prop:=g < w.heap.size∨KEPT RO g
theorem ftk_same {w w3 W : World} {RO RO' : List IT} (H3 : SP w w3 RO) (H : SP w W RO') (hs : ∀ x ∈ RO,x ∈ RO') : ∀ g,FTK w RO g->W.heap[g]?=w3.heap[g]?:=fun g hg=>by
 rcases hg with hg | hg
 ·rw [H.bel.block g hg,H3.bel.block g hg]
 ·exact kept_same H3 H (fun g o h=>hs _ h) hg
theorem rows_kept {w w3 : World} {RO : List IT} {A : Option Addr} {n c : Nat} {l : List EM} (H3 : SP w w3 RO) (h : EROW w3 A n c l) (hF : EFT (FTK w RO) A l) : ∀ W,SP w W RO->EROW W A n c l:=fun W H =>
 h.keepX hF (ftk_same H3 H (fun x hx=>hx))
theorem frow_kept {w w3 : World} {RO : List IT} {x : EM} (H3 : SP w w3 RO) (h : EMOK w3 x) (hF : EFE (FTK w RO) x) : ∀ W,SP w W RO->EMOK W x:=fun W H =>
 h.keepX hF (ftk_same H3 H (fun x hx=>hx))
theorem FTK.right {w : World} {Y RO : List IT} {g : Nat} (h : FTK w RO g) : FTK w (Y++RO) g:=h.imp id KEPT.right
def EM.new (now : Int) (h : HD) : EM:=⟨newE now h,none,0,0,[]⟩
theorem em_new_ok (w : World) (now : Int) (h : HD) : EMOK w (EM.new now h):=⟨FROW.nil w,rfl,Nat.le_refl _,Nat.zero_le _⟩
theorem em_new_foot (X : Nat->Prop) (now : Int) (h : HD) : EFE X (EM.new now h):=by
 refine ⟨fun _ p hp=>(by cases hp),fun y hy hn=>?_,fun y hy f hf=>?_,fun y hy f hf=>?_⟩
 all_goals (simp at hy;subst hy)
 ·exact absurd rfl hn
 ·cases hf
 ·cases hf
def lastP (h : HD) (es : List RE) (k : Nat) : Int:=(List.range k).foldl (fun (at_ : Int) (i : Nat)=>if (es[i]?.map (sameE h)).getD false then (i : Int) else at_) (-1)
theorem lastP_succ {h : HD} {es : List RE} {k : Nat} {e : RE} (he : es[k]?=some e) : lastP h es (k + 1)=if sameE h e then (k : Int) else lastP h es k:=by
 unfold lastP
 rw [List.range_succ,List.foldl_append]
 simp only [List.foldl_cons,List.foldl_nil,he,Option.map_some,Option.getD_some]
section
variable {a : AT} {now : Int} {zs : List Int}
theorem putA_late (h : lateA a now=true) : putA a now zs=(a,[],70):=by unfold putA;rw [if_pos h]
theorem putA_bad (h : lateA a now=false) (hf : faultR zs≠7) : putA a now zs=(a,[],ipE zs):=by unfold putA;rw [if_neg (by rw [h];simp),if_pos hf]
theorem putA_whole (h : lateA a now=false) (hf : faultR zs=7) (h1 : (hdOf zs).mf=false∧(hdOf zs).off=0) : putA a now zs=(passA a now,zs.take (totalR zs),0):=by
 unfold putA;rw [if_neg (by rw [h];simp),if_neg (by simp [hf]),if_pos h1]
theorem putA_part (h : lateA a now=false) (hf : faultR zs=7) (h1 : ¬ ((hdOf zs).mf=false∧(hdOf zs).off=0)) {gs : List AG} {k : Nat} (ho : ofA (passA a now) (hdOf zs)=(gs,k)) :
 putA a now zs=({ passA a now with gs:=(addA gs k (frOf zs)).1 },(addA gs k (frOf zs)).2.1,(addA gs k (frOf zs)).2.2):=by
 unfold putA;rw [if_neg (by rw [h];simp),if_neg (by simp [hf]),if_neg h1,ho]
end
structure PUTR (a : AT) (now : Int) (zs : List Int) (K : Nat) (A : Option Addr) (n : Nat) (l : List EM) (w : World) (w' : World) (r' : RT) (B : Option Addr) (m d : Nat) (l' : List EM) (W : Option Addr) (wn : Nat) : Prop where
 bel : Below w.heap.size w w'
 rel : RELT (putA a now zs).1 r'
 mem : RTM w' r' B m d l'
 foot : ∀ X,EFT X A l->EFT (OLDNEW X w) B l'
 rd : RD .u8 w' w'.heap.size W wn (putA a now zs).2.1
 wf : 0 < wn->∀ p,W=some p->w.heap.size<=p.block
 hm : m<=n + 1
 fn : ∀ x ∈ l',x.fn<=K + 1
def PUTE (a : AT) (now : Int) (zs : List Int) (K : Nat) (A : Option Addr) (n : Nat) (l : List EM) (w : World) (e : Ending) (w' : World) : Prop :=
 ∃ r' B m d l' W wn wc,e = .returned (.tuple #[r'.val B m d,.slice W wn wc,.int .i64 (putA a now zs).2.2])∧PUTR a now zs K A n l w w' r' B m d l' W wn
structure PASSR (w : World) (r : RT) (now : Int) (K : Nat) (A : Option Addr) (n : Nat) (l : List EM) (RO : List IT) (B : Option Addr) (m d : Nat) (l' : List EM) : Prop where
 er : ∀ W,SP w W RO->EROW W B m d l'
 ftk : EFT (FTK w RO) B l'
 foot : ∀ X,EFT X A l->EFT (OLDNEW X w) B l'
 es : l'.map EM.e=(passR r now).es
 len : l'.length=m
 hm : m<=n
 fn : ∀ x ∈ l',x.fn<=K
structure FOUNDR (w : World) (r : RT) (now : Int) (h : HD) (K : Nat) (A : Option Addr) (n : Nat) (l : List EM) (RO : List IT) (k : Nat) (B : Option Addr) (m d : Nat) (l' : List EM) : Prop where
 er : ∀ W,SP w W RO->EROW W B m d l'
 ftk : EFT (FTK w RO) B l'
 foot : ∀ X,EFT X A l->EFT (OLDNEW X w) B l'
 es : l'.map EM.e=(ofR (passR r now) h).1
 kE : k=(ofR (passR r now) h).2
 hk : k < m
 hm : m<=n + 1
 fn : ∀ x ∈ l',x.fn<=K
section
variable {w : World} {a : AT} {r : RT} {now : Int} {zs : List Int} {K k n m d : Nat} {A B : Option Addr} {l l' : List EM} {RO : List IT}
theorem putr_part (R : RELT a r) (I : AINV a) (hl : lateA a now=false) (hf : faultR zs=7) (h1 : ¬ ((hdOf zs).mf=false∧(hdOf zs).off=0)) (F : FOUNDR w r now (hdOf zs) K A n l RO k B m d l') :
 ∃ gs,RELS gs (l'.map EM.e)∧gs.length=l'.length∧putA a now zs=({ passA a now with gs:=(addA gs k (frOf zs)).1 },(addA gs k (frOf zs)).2.1,(addA gs k (frOf zs)).2.2):=by
 have R1:=relt_pass R I now
 have I1:=I.pass now
 obtain ⟨h2,h3⟩:=relt_of R1 I1 (hdOf zs)
 rw [<- F.es] at h2
 refine ⟨_,h2,by rw [h2.len,List.length_map],putA_part hl hf h1 ?_⟩
 rw [F.kE,<- h3]
theorem putr_rel (R : RELT a r) (I : AINV a) {gs : List AG} {es : List RE} (h : RELS gs es) : RELT { passA a now with gs:=gs } { passR r now with es:=es } :=
 ⟨(relt_pass R I now).limit,(relt_pass R I now).life,(relt_pass R I now).now,h⟩
end
end Go.Proofs.YtljbfnabnkkfeaaGreat
namespace Go.Proofs.YtljbfnabnkkfeaaGreat
open Go.RowKit
theorem SP.objOf3 {w0 w : World} {L : List IT} {a b c : IT} (H : SP w0 w (a::b::c::L)) : ∃ Y : List IT,SP w0 w (Y++L)∧∀ p,(a.at_=some p∨b.at_=some p∨c.at_=some p)->KEPT Y p:=by
 obtain ⟨Y1,h1,k1⟩:=H.objOf
 obtain ⟨Y2,h2,k2⟩:=(SP.frontOf (A:=Y1) (x:=b) (C:=c::L) h1).objOf
 have h2' : SP w0 w ((Y2++Y1)++(c::L)):=by rw [List.append_assoc];exact h2
 obtain ⟨Y3,h3,k3⟩:=(SP.frontOf (A:=Y2++Y1) (x:=c) (C:=L) h2').objOf
 refine ⟨Y3++(Y2++Y1),by rw [List.append_assoc];exact h3,fun p hp=>?_⟩
 have kl : ∀ {A B : List IT} {g},KEPT A g->KEPT (A++B) g:=fun ⟨o,h⟩=>⟨o,List.mem_append_left _ h⟩
 have kr : ∀ {A B : List IT} {g},KEPT B g->KEPT (A++B) g:=fun ⟨o,h⟩=>⟨o,List.mem_append_right _ h⟩
 rcases hp with h | h | h
 ·exact kr (kr (k1 p h))
 ·exact kr (kl (k2 p h))
 ·exact kl (k3 p h)
theorem em_more {w w' : World} {x : EM} {f : FM} {B : Option Addr} {d : Nat} (hx : EMOK w' x) (hf : FMOK w' f) (hr : w'.ownsRow w.heap.size 127 11 (.slice B (x.fn + 1) d) (x.fn + 1) ((x.fs++[f]).flatMap FM.cells)) (hn : x.fn + 1<=100000) :
 EMOK w' ⟨goE x.e f.f,B,x.fn + 1,d,x.fs++[f]⟩:=by
 refine ⟨frow_of_row hr (by rw [List.length_append,hx.row.len];rfl) (fun y hy=>?_),?_,row_le hr,hn⟩
 ·rcases List.mem_append.1 hy with hy | hy
  ·exact hx.row.ok y hy
  ·simp at hy;subst hy;exact hf
 ·show frs (x.fs++[f])=x.e.fs++[f.f]
  rw [<- hx.fs]
  unfold frs
  rw [List.map_append];rfl
theorem em_more_foot {X : Nat->Prop} {x : EM} {f : FM} {B : Option Addr} {d : Nat} (hx : EFE X x) (ho : 0 < f.on->∀ p,f.oA=some p->X p.block) (hd : 0 < f.dn->∀ p,f.dA=some p->X p.block) (hB : ∀ p,B=some p->X p.block) :
 EFE X ⟨goE x.e f.f,B,x.fn + 1,d,x.fs++[f]⟩:=by
 refine ⟨fun _ p hp=>(by cases hp),fun y hy hn=>?_,fun y hy q hq=>?_,fun y hy q hq=>?_⟩
 all_goals (simp at hy;subst hy)
 ·exact hB
 ·rcases List.mem_append.1 hq with hq | hq
  ·exact hx.o x (by simp) q hq
  ·simp at hq;subst hq;exact ho
 ·rcases List.mem_append.1 hq with hq | hq
  ·exact hx.d x (by simp) q hq
  ·simp at hq;subst hq;exact hd
def EM.dead (x : EM) : EM:=⟨deadE x.e,none,0,0,[]⟩
theorem em_dead_ok (w : World) (x : EM) : EMOK w x.dead:=⟨FROW.nil w,rfl,Nat.le_refl _,Nat.zero_le _⟩
theorem em_dead_foot (X : Nat->Prop) (x : EM) : EFE X x.dead:=by
 refine ⟨fun _ p hp=>(by cases hp),fun y hy hn=>?_,fun y hy f hf=>?_,fun y hy f hf=>?_⟩
 all_goals (simp at hy;subst hy)
 ·exact absurd rfl hn
 ·cases hf
 ·cases hf
theorem ems_set {l : List EM} {k : Nat} (hk : k < l.length) (y : EM) : (l.take k++[y]++l.drop (k + 1)).map EM.e=(l.map EM.e).set k y.e:=by
 rw [<- List.map_set,List.set_eq_take_append_cons_drop,if_pos hk,List.append_assoc]
 rfl
theorem ems_erase (l : List EM) (k : Nat) : (l.take k++l.drop (k + 1)).map EM.e=(l.map EM.e).eraseIdx k:=by
 rw [map_erase,List.eraseIdx_eq_take_drop_succ]
theorem set_mem {l : List EM} {k : Nat} {y x : EM} (h : x ∈ l.take k++[y]++l.drop (k + 1)) : x ∈ l∨x=y:=by
 rcases List.mem_append.1 h with h | h
 ·rcases List.mem_append.1 h with h | h
  ·exact .inl (List.mem_of_mem_take h)
  ·simp at h;exact .inr h
 ·exact .inl (List.mem_of_mem_drop h)
theorem erase_mem {l : List EM} {k : Nat} {x : EM} (h : x ∈ l.take k++l.drop (k + 1)) : x ∈ l:=(List.mem_append.1 h).elim List.mem_of_mem_take List.mem_of_mem_drop
def headReg : Code->Option Nat
 | .region id _ _=>some id
 | .seq a _=>headReg a
 | _=>none
def findSuf (r : Nat) : Code->Option Code
 | .seq a b=>if headReg a == some r then some (.seq a b) else match findSuf r a with
   | some o=>some o
   | none=>findSuf r b
 | .cond _ a b=>match findSuf r a with
   | some o=>some o
   | none=>findSuf r b
 | .block _ c=>findSuf r c
 | .loop c=>findSuf r c
 | .scope c=>findSuf r c
 | _=>none
noncomputable def sufAt (f : Func) (r : Nat) : Code:=(f.body.bind (findSuf r)).getD .skip
structure PUT0 (a : AT) (r : RT) (now : Int) (K : Nat) (A : Option Addr) (n : Nat) (l : List EM) (w : World) (bA : Option Addr) (bn bc : Nat) (zs : List Int) (lm lf : Int) : Prop where
 rel : RELT a r
 inv : AINV a
 late : lateA a now=false
 fault : faultR zs=7
 part : ¬ ((hdOf zs).mf=false∧(hdOf zs).off=0)
 bd : BD 255 zs
 rd : ∀ W,Below w.heap.size w W->RD .u8 W W.heap.size bA bn zs
 lim : r.limit=lm
 life : r.life=lf
 hn : n<=K
 hK : K<=90000
 hb : bn<=bc
structure ADDF (w : World) (a : AT) (r : RT) (now : Int) (zs : List Int) (K : Nat) (A : Option Addr) (n : Nat) (l : List EM) (k : Nat) (A3 : Option Addr) (n3 c3 : Nat) (l3 : List EM) (RQ : List IT) (x xm : EM) (gs : List AG) (ag : AG) (lm lf : Int) : Prop where
 rel : RELT a r
 inv : AINV a
 lim : r.limit=lm
 life : r.life=lf
 rels : RELS gs (l3.map EM.e)
 put : putA a now zs=({ passA a now with gs:=(addA gs k (frOf zs)).1 },(addA gs k (frOf zs)).2.1,(addA gs k (frOf zs)).2.2)
 hag : gs[k]?=some ag
 hx : l3[k]?=some x
 dead : x.e.dead=false
 xe : xm.e=goE x.e (frOf zs)
 xfs : frs xm.fs=x.e.fs++[frOf zs]
 xfn : xm.fn<=K + 1
 er : ∀ W,SP w W RQ->EROW W A3 n3 c3 l3
 em : ∀ W,SP w W RQ->EMOK W xm
 foot : ∀ X,EFT X A l->EFT (OLDNEW X w) A3 l3
 ef : ∀ X,EFT X A l->EFE (OLDNEW X w) xm
 hk : k < n3
 hm : n3<=n + 1
 len : l3.length=n3
 cap : n3<=c3
 fn3 : ∀ x ∈ l3,x.fn<=K
 ok : FOK (frOf zs)
 part : PARTF (frOf zs)
 hn : n<=K
 hK : K<=90000
section
variable {w : World} {a : AT} {r : RT} {now : Int} {zs : List Int} {K : Nat} {A : Option Addr} {n : Nat} {l : List EM} {k : Nat} {A3 : Option Addr} {n3 c3 : Nat} {l3 : List EM} {RQ : List IT} {x xm : EM} {gs : List AG} {ag : AG} {lm lf : Int}
theorem ADDF.he (H : ADDF w a r now zs K A n l k A3 n3 c3 l3 RQ x xm gs ag lm lf) : (l3.map EM.e)[k]?=some x.e:=by rw [List.getElem?_map,H.hx];rfl
theorem ADDF.one (H : ADDF w a r now zs K A n l k A3 n3 c3 l3 RQ x xm gs ag lm lf) : REL ag x.e:=H.rels.get H.hag H.he
theorem ADDF.oks (H : ADDF w a r now zs K A n l k A3 n3 c3 l3 RQ x xm gs ag lm lf) : ∀ f ∈ x.e.fs++[frOf zs],FOK f:=fun f hf=>by
 rcases List.mem_append.1 hf with hf | hf
 ·exact H.one.ok f hf
 ·simp at hf;subst hf;exact H.ok
theorem ADDF.parts (H : ADDF w a r now zs K A n l k A3 n3 c3 l3 RQ x xm gs ag lm lf) : ∀ f ∈ x.e.fs++[frOf zs],PARTF f:=fun f hf=>by
 rcases List.mem_append.1 hf with hf | hf
 ·exact H.one.part f hf
 ·simp at hf;subst hf;exact H.part
theorem ADDF.val (H : ADDF w a r now zs K A n l k A3 n3 c3 l3 RQ x xm gs ag lm lf) (es : List RE) (B : Option Addr) (m d : Nat) : ({ passR r now with es:=es } : RT).val B m d = .agg #[.int .i64 lm,.int .i64 lf,.int .i64 now,.slice B m d]:=by
 unfold RT.val passR;dsimp only;rw [H.lim,H.life]
theorem ADDF.frow (H : ADDF w a r now zs K A n l k A3 n3 c3 l3 RQ x xm gs ag lm lf) (W : World) (h : SP w W RQ) : FROW W xm.fA xm.fn xm.fs:=(H.em W h).row
theorem ADDF.ended (H : ADDF w a r now zs K A n l k A3 n3 c3 l3 RQ x xm gs ag lm lf) {w' : World} {L : List EM} {B : Option Addr} {m d : Nat} {W : Option Addr} {wn : Nat} {gs' : List AG} {out : List Int} {er : Int}
 (hb : Below w.heap.size w w') (ha : addA gs k (frOf zs)=(gs',out,er)) (hr : RELS gs' (L.map EM.e)) (hrow : w'.ownsRow w.heap.size 125 8 (.slice B m d) m (L.flatMap EM.cells)) (hl : L.length=m) (hm : m<=n + 1) (hok : ∀ y ∈ L,EMOK w' y)
 (hmem : ∀ y ∈ L,y ∈ l3∨y=xm∨y=x.dead) (hB : ∀ p,B=some p->w.heap.size<=p.block) (hrd : RD .u8 w' w'.heap.size W wn out) (hwf : 0 < wn->∀ p,W=some p->w.heap.size<=p.block) :
 PUTR a now zs K A n l w w' { passR r now with es:=L.map EM.e } B m d L W wn where
 bel:=hb
 rel:=by
  rw [H.put,ha]
  exact putr_rel H.rel H.inv hr
 mem:=⟨erow_of_row hrow hl (row_le hrow) hok,rfl⟩
 foot:=fun X hX=>EFT.of (fun y hy=>by
  rcases hmem y hy with h | rfl | rfl
  ·exact (H.foot X hX).each h
  ·exact H.ef X hX
  ·exact em_dead_foot _ _) (fun _ p hp=>.inr (hB p hp))
 rd:=by rw [H.put,ha];exact hrd
 wf:=hwf
 hm:=hm
 fn:=fun y hy=>by
  rcases hmem y hy with h | rfl | rfl
  ·have:=H.fn3 y h;omega
  ·exact H.xfn
  ·exact Nat.zero_le _
end
end Go.Proofs.YtljbfnabnkkfeaaGreat
namespace Go.Proofs.YtljbfnabnkkfeaaGreat
open Go.RowKit Go.ChangeShapes Go.WideShapes
structure OP where
 put : Bool
 now : Int
 A : Option Addr
 n : Nat
 c : Nat
 zs : List Int
 deriving Inhabited
def OP.cells (x : OP) : List Value:=[.bool x.put,.int .i64 x.now,.slice x.A x.n x.c]
structure OPOK (w : World) (x : OP) : Prop where
 rd : RD .u8 w w.heap.size x.A x.n x.zs
 bd : BD 255 x.zs
 le : x.n<=x.c
 now : -9223372036854775808<=x.now∧x.now<=9223372036854775807
theorem OPOK.later {w w' : World} {x : OP} (h : OPOK w x) (hb : Below w.heap.size w w') : OPOK w' x:=⟨h.rd.later hb,h.bd,h.le,h.now⟩
structure OPS (w : World) (A : Option Addr) (n : Nat) (l : List OP) : Prop where
 len : l.length=n
 at_ : ∀ i x,l[i]?=some x->∃ g off,A=some ⟨g,off,none⟩∧g < w.heap.size∧∀ j v,x.cells[j]?=some v->w.cell? ⟨g,off + i * 3 + j,none⟩=some v
 ok : ∀ x ∈ l,OPOK w x
theorem OPS.later {w w' : World} {A : Option Addr} {n : Nat} {l : List OP} (h : OPS w A n l) (hb : Below w.heap.size w w') : OPS w' A n l :=
 ⟨h.len,fun i x hx=>by obtain ⟨g,off,h1,h2,h3⟩:=h.at_ i x hx;exact ⟨g,off,h1,Nat.lt_of_lt_of_le h2 hb.size,fun j v hv=>(hb.cell (p:=⟨g,_,none⟩) h2).trans (h3 j v hv)⟩,fun x hx=>(h.ok x hx).later hb⟩
open Go.RowKit
theorem splice_len2 (zs : List Int) (p : Nat × List Int) : (splice zs p).length=zs.length:=by
 unfold splice
 simp only [List.length_append,List.length_take,List.length_drop]
 omega
theorem asmP_len (n : Nat) (ps : List (Nat × List Int)) : (asmP n ps).length=n:=by
 have go : ∀ (ps : List (Nat × List Int)) (zs : List Int),(ps.foldl splice zs).length=zs.length:=by
  intro ps
  induction ps with
  | nil=>intro zs;rfl
  | cons p ps ih=>intro zs;rw [List.foldl_cons,ih,splice_len2]
 unfold asmP
 rw [go,List.length_replicate]
theorem addA_len (gs : List AG) (k : Nat) (f : FR) : (addA gs k f).2.1.length<=65535:=by
 unfold addA
 split
 ·exact Nat.zero_le _
 ·split
  ·exact Nat.zero_le _
  ·split
   ·exact Nat.zero_le _
   ·rename_i g' hg
    split
    ·rename_i hd
     have ho : okG g'=true:=by
      unfold addG at hg
      split at hg
      ·cases hg
      ·split at hg
       ·rename_i h;simp at hg;subst hg;exact h
       ·cases hg
     unfold okG at ho
     rw [hd] at ho
     have hr : Rightly g'.h.off g'.h.mf g'.o.length g'.total:=rightB_iff.1 (by simpa using ho)
     have h1:=hr.2.2.2.2.2.1
     have h2:=hr.2.2.2.2.2.2.1
     dsimp only
     rw [pkt_len,asmP_len]
     omega
    ·exact Nat.zero_le _
theorem putA_len (a : AT) (now : Int) (zs : List Int) (hz : zs.length<=65535) : (putA a now zs).2.1.length<=65535:=by
 unfold putA
 split
 ·exact Nat.zero_le _
 ·split
  ·exact Nat.zero_le _
  ·split
   ·dsimp only;rw [List.length_take];omega
   ·exact addA_len _ _ _
def rcells (r : RT) (A : Option Addr) (n c : Nat) : Array Value:=#[.int .i64 r.limit,.int .i64 r.life,.int .i64 r.now,.slice A n c]
theorem val_rcells (r : RT) (A : Option Addr) (n c : Nat) : r.val A n c = .agg (rcells r A n c):=rfl
theorem rcells_one (r : RT) (A : Option Addr) (n c : Nat) : (rcells r A n c).all (·.oneCell')=true:=by unfold rcells;simp [Value.oneCell']
structure REFS (w : World) (RO : List IT) (a : AT) (r : RT) (A : Option Addr) (m d : Nat) (l : List EM) (K : Nat) : Prop where
 rel : RELT a r
 mem : RTM w r A m d l
 ft : EFT (KEPT RO) A l
 hm : m<=K
 fn : ∀ x ∈ l,x.fn<=K
section
variable {w0 w w' : World} {RO RO' : List IT} {a : AT} {r : RT} {A : Option Addr} {m d : Nat} {l : List EM} {K K' : Nat} {TB : Nat} {R R' : List IT}
theorem REFS.keep (h : REFS w RO a r A m d l K) (H : SP w0 w RO) (H' : SP w0 w' RO') (hs : ∀ x ∈ RO,x ∈ RO') (hK : K<=K') : REFS w' RO' a r A m d l K' where
 rel:=h.rel
 mem:=⟨h.mem.row.keepX h.ft (fun g hg=>kept_same H H' (fun g o ho=>hs _ ho) hg),h.mem.es⟩
 ft:=h.ft.mono (fun g hg=>hg.more hs)
 hm:=Nat.le_trans h.hm hK
 fn:=fun x hx=>Nat.le_trans (h.fn x hx) hK
theorem EFT.and {X Y Z : Nat->Prop} (h1 : EFT X A l) (h2 : EFT Y A l) (h : ∀ g,X g->Y g->Z g) : EFT Z A l :=
 ⟨fun hn p hp=>h _ (h1.a hn p hp) (h2.a hn p hp),fun x hx hn p hp=>h _ (h1.fr x hx hn p hp) (h2.fr x hx hn p hp),fun x hx f hf hn p hp=>h _ (h1.o x hx f hf hn p hp) (h2.o x hx f hf hn p hp),fun x hx f hf hn p hp=>h _ (h1.d x hx f hf hn p hp) (h2.d x hx f hf hn p hp)⟩
theorem objs_kept {g : Nat} (hs : w.heap.size<=w'.heap.size) (h1 : w.heap.size<=g) (h2 : g < w'.heap.size) : KEPT (objsOf w' w.heap.size (w'.heap.size - w.heap.size)++RO) g:=kept_new hs (.inr ⟨h1,h2⟩)
theorem refs_foot (hs : w.heap.size<=w'.heap.size) (hr : EROW w' A m d l) (hf : EFT (OLDNEW (KEPT RO) w) A l) : EFT (KEPT (objsOf w' w.heap.size (w'.heap.size - w.heap.size)++RO)) A l :=
 hf.and hr.foot (fun g h1 h2=>by
  rcases h1 with h1 | h1
  ·exact KEPT.right h1
  ·exact objs_kept hs h1 h2)
theorem TAB.liftF (H : TAB w0 w TB a R) (hs : ∀ C,SP w0 w (R++C)->SP w0 w' (R'++C)) : TAB w0 w' TB a R':=by
 obtain ⟨T,h1,h2,h3,h4,h⟩:=H
 exact ⟨T,h1,h2,h3,h4,SP.comm (hs T.its (SP.comm h))⟩
theorem TAB.swapF {O P C : List IT} (H : TAB w0 w TB a (O++(P++C))) : TAB w0 w TB a (P++(O++C)):=H.perm (by rw [<- List.append_assoc,<- List.append_assoc];exact List.perm_append_comm.append_right C)
def TABO (TB : Nat) (a : AT) (C : List IT) : Prop:=∃ T : TM,T.TB=TB∧absT T=a∧TINV T∧DEADS T.gs∧T.its=C
theorem TAB.opened (H : TAB w0 w TB a R) : ∃ C,TABO TB a C∧SP w0 w (R++C):=by
 obtain ⟨T,h1,h2,h3,h4,h⟩:=H
 exact ⟨T.its,⟨T,h1,h2,h3,h4,rfl⟩,SP.comm h⟩
theorem TABO.shut {C : List IT} (h : TABO TB a C) (H : SP w0 w (R++C)) : TAB w0 w TB a R:=by
 obtain ⟨T,h1,h2,h3,h4,rfl⟩:=h
 exact ⟨T,h1,h2,h3,h4,SP.comm H⟩
end
structure TST (w0 w : World) (TB MB : Nat) (E : List IT) (kA : Option Addr) (k kc : Nat) (gA : Option Addr) (gc : Nat) (i : Nat) (a : AT) (r : RT) (A : Option Addr) (m d : Nat) (l : List EM) (G1 G2 : List (SD × List Int)) (RO : List IT) : Prop where
 tab : TAB w0 w TB a ((E++([.blk MB 70 (rcells r A m d),.row 22 1 kA k kc (G1.map gV),.row 22 1 gA k gc (G2.map gV)]++(G1.map gIT++G2.map gIT)))++RO)
 refs : REFS w RO a r A m d l i
 k1 : G1.length=k
 k2 : G2.length=k
 same : G1.map (·.2)=G2.map (·.2)
 len : ∀ g ∈ G1,g.2.length<=100000
 hk : k<=i
def TSTE (w0 w : World) (TB MB : Nat) (E : List IT) (kA : Option Addr) (k kc : Nat) (gA : Option Addr) (gc : Nat) (i : Nat) : Prop:=∃ a r A m d l G1 G2 RO,TST w0 w TB MB E kA k kc gA gc i a r A m d l G1 G2 RO
end Go.Proofs.YtljbfnabnkkfeaaGreat
namespace Go.Proofs.YtljbfnabnkkfeaaGreat
open Go.RowKit
set_option maxHeartbeats 4000000 in
set_option maxRecDepth 100000 in
theorem tells_tick {u0 u1 u2 u3 u4 u5 u6 u7 u8 u10 u12 u15 u17 u18 u19 u20 u21 u22 u23 u24 u25 u26 u27 u28 u29 u30 u31 u32 u33 u34 u35 u36 u37 u38 u39 u40 u41 u42 u43 u44 u45 u46 u47 u48 u49 u50 u51 u52 u53 u54 u55 u56 u57 u58 u59 u60 u61 u62 u63 u64 u65 u66 u67 u68 u69 u70 u71 u73 u74 u75 u76 u77 u78 u79 u80 u81 u82 u83 u84 u85 u86 u87 u88 u89 u90 u91 u92 u93 u94 u95 u96 u97 u98 u99 u100 u101 u102 u103 u104 u105 u106 u107 u108 u109 u110 u111 u112 u113 u114 u115 u116 u117 u118 u119 u120 u121 u122 u123 u124 u125 u126 u127 u128 u129 u130 u131 u132 u133 u134 u135 u136 u137 u138 u139 u140 u141 u142 u143 u144 u145 u146 u147 u148 u149 u150 u151 u152 u153 u154 u155 u156 u157 u158 u159 u160 u161 u162 u163 u164 u165 u166 u167 u168 u169 u170 u171 u172 u173 u174 u175 u176 u177 u178 u179 u180 u181 u182 u183 u184 u185 u186 u187 u188 u189 u190 u191 u192 u193 u194 u195 : Value} {Q : Exit->Act->World->Prop} (w : World) (TB MB XB : Nat) (x : OP) (HX : Hid (∀ W,Below w.heap.size w W->OPOK W x)) (kA : Option Addr) (k kc : Nat) (gA : Option Addr) (gc i : Nat) (hi : i<=40) (hx4 : x.n<=400) (w1 : World) (HT : Hid (TSTE w w1 TB MB [.blk XB 36 #[.bool x.put,.int .i64 x.now,.slice x.A x.n x.c]] kA k kc gA gc i))
 (HQ : Hid (∀ (y17 y18 y73 y74 y75 y76 y77 y78 y79 y80 y81 y82 y83 y84 y85 y86 : Value) (kA' : Option Addr) (k' kc' : Nat) (gA' : Option Addr) (gc' : Nat) (w' : World),TSTE w w' TB MB [.blk XB 36 #[.bool x.put,.int .i64 x.now,.slice x.A x.n x.c]] kA' k' kc' gA' gc' (i + 1)->Q .normal ⟨List.toArray (u0::u1::u2::u3::u4::u5::u6::u7::u8::.pointer (some ⟨TB,0,none⟩)::u10::.pointer (some ⟨MB,0,none⟩)::u12::.slice kA' k' kc'::.slice gA' k' gc'::u15::.pointer (some ⟨XB,0,none⟩)::y17::y18::u19::u20::u21::u22::u23::u24::u25::u26::u27::u28::u29::u30::u31::u32::u33::u34::u35::u36::u37::u38::u39::u40::u41::u42::u43::u44::u45::u46::u47::u48::u49::u50::u51::u52::u53::u54::u55::u56::u57::u58::u59::u60::u61::u62::u63::u64::u65::u66::u67::u68::u69::u70::u71::.bool true::y73::y74::y75::y76::y77::y78::y79::y80::y81::y82::y83::y84::y85::y86::u87::u88::u89::u90::u91::u92::u93::u94::u95::u96::u97::u98::u99::u100::u101::u102::u103::u104::u105::u106::u107::u108::u109::u110::u111::u112::u113::u114::u115::u116::u117::u118::u119::u120::u121::u122::u123::u124::u125::u126::u127::u128::u129::u130::u131::u132::u133::u134::u135::u136::u137::u138::u139::u140::u141::u142::u143::u144::u145::u146::u147::u148::u149::u150::u151::u152::u153::u154::u155::u156::u157::u158::u159::u160::u161::u162::u163::u164::u165::u166::u167::u168::u169::u170::u171::u172::u173::u174::u175::u176::u177::u178::u179::u180::u181::u182::u183::u184::u185::u186::u187::u188::u189::u190::u191::u192::u193::u194::u195::[]),[]⟩ w')) :
 Code.wp Tryz.prog (condAt Tryz.f8 72) Q ⟨List.toArray (u0::u1::u2::u3::u4::u5::u6::u7::u8::.pointer (some ⟨TB,0,none⟩)::u10::.pointer (some ⟨MB,0,none⟩)::u12::.slice kA k kc::.slice gA k gc::u15::.pointer (some ⟨XB,0,none⟩)::u17::u18::u19::u20::u21::u22::u23::u24::u25::u26::u27::u28::u29::u30::u31::u32::u33::u34::u35::u36::u37::u38::u39::u40::u41::u42::u43::u44::u45::u46::u47::u48::u49::u50::u51::u52::u53::u54::u55::u56::u57::u58::u59::u60::u61::u62::u63::u64::u65::u66::u67::u68::u69::u70::u71::.bool true::u73::u74::u75::u76::u77::u78::u79::u80::u81::u82::u83::u84::u85::u86::u87::u88::u89::u90::u91::u92::u93::u94::u95::u96::u97::u98::u99::u100::u101::u102::u103::u104::u105::u106::u107::u108::u109::u110::u111::u112::u113::u114::u115::u116::u117::u118::u119::u120::u121::u122::u123::u124::u125::u126::u127::u128::u129::u130::u131::u132::u133::u134::u135::u136::u137::u138::u139::u140::u141::u142::u143::u144::u145::u146::u147::u148::u149::u150::u151::u152::u153::u154::u155::u156::u157::u158::u159::u160::u161::u162::u163::u164::u165::u166::u167::u168::u169::u170::u171::u172::u173::u174::u175::u176::u177::u178::u179::u180::u181::u182::u183::u184::u185::u186::u187::u188::u189::u190::u191::u192::u193::u194::u195::[]),[]⟩ w1:=by
 conv=>arg 2;whnf
 obtain ⟨a,r,A,m,d,l,G1,G2,RO,hT⟩:=HT.out
 have HS:=Lib.hid hT
 have hbnd:=hT.tab.bnd
 have hinv:=hT.tab.inv
 have hm:=hT.refs.hm
 have hlife : 1<=r.life∧r.life<=16777215:=by rw [<- hT.refs.rel.life];exact hbnd.life
 have hbeg:=hT.refs.rel.bnd hbnd
 have HI:=Lib.hid (And.intro hinv hbnd)
 have HTK:=Lib.hid (r7tick_any r x.now A m d l w1 hT.refs.mem (by omega) hlife hbeg)
 rw [val_rcells] at HTK
 have X:=Lib.hid (show SP w w1 (([.blk XB 36 #[.bool x.put,.int .i64 x.now,.slice x.A x.n x.c]]++([.blk MB 70 (rcells r A m d),.row 22 1 kA k kc (G1.map gV),.row 22 1 gA k gc (G2.map gV)]++(G1.map gIT++G2.map gIT)))++RO) from hT.tab.right)
 clear hT hbnd hinv hlife hbeg HT
 have x1 : w1.cell? ⟨XB,1,none⟩=some (.int .i64 x.now):=X.out.cell 0 rfl 1 rfl
 go_wp2_with (refine wpList_load_row rfl 70 _ rfl MB rfl 70 (rcells r A m d) (0,0) _ (X.out.blk 1 rfl) Tryz.underlying70 rfl (by kernel_rfl) ?_)
 refine HTK.out.mono ?_
 rintro e w2 ⟨B,m',d',l',rfl,hb,hM,hF,hm',hsub⟩
 rw [val_rcells]
 obtain ⟨r',hr'⟩ : ∃ v,(tickR r x.now).1=v:=⟨_,rfl⟩
 obtain ⟨OB,hOB⟩ : ∃ v,objsOf w2 w1.heap.size (w2.heap.size - w1.heap.size)=v:=⟨_,rfl⟩
 have hP:=HS.out.tab.pushAll hb
 have hft:=refs_foot hb.size hM.row (hF _ HS.out.refs.ft)
 rw [hOB] at hP hft
 rw [hr'] at hM ⊢
 have H3:=Lib.hid (show TAB w w2 TB a (([.blk XB 36 #[.bool x.put,.int .i64 x.now,.slice x.A x.n x.c]]++([.blk MB 70 (rcells r A m d),.row 22 1 kA k kc (G1.map gV),.row 22 1 gA k gc (G2.map gV)]++(G1.map gIT++G2.map gIT)))++(OB++RO)) from TAB.swapF (O:=OB) (P:=[.blk XB 36 #[.bool x.put,.int .i64 x.now,.slice x.A x.n x.c]]++([.blk MB 70 (rcells r A m d),.row 22 1 kA k kc (G1.map gV),.row 22 1 gA k gc (G2.map gV)]++(G1.map gIT++G2.map gIT))) (C:=RO) hP)
 have HM:=Lib.hid (show REFS w2 (OB++RO) (tickA a x.now).1 r' B m' d' l' (i + 1) from ⟨by rw [<- hr'];exact (relt_tick HS.out.refs.rel HI.out.1 x.now).2,hM,hft,by omega,fun y hy=>by have:=HS.out.refs.fn y (hsub y hy);omega⟩)
 have he:=(relt_tick HS.out.refs.rel HI.out.1 x.now).1
 rw [he]
 clear hb hM hF hm' hsub hP hft he hOB X x1 HTK
 go_upto_region 22 with (refine wpList_store_row rfl 70 _ _ rfl MB (rcells r' B m' d') rfl rfl 70 (rcells r A m d) (H3.out.right.blk 1 rfl) (by kernel_rfl) rfl (rcells_one _ _ _ _) ?_)
 try simp only [Act.put]
 have H4:=Lib.hid (show TAB w (w2.setRow MB (rcells r' B m' d')) TB a (([.blk XB 36 #[.bool x.put,.int .i64 x.now,.slice x.A x.n x.c]]++([.blk MB 70 (rcells r' B m' d'),.row 22 1 kA k kc (G1.map gV),.row 22 1 gA k gc (G2.map gV)]++(G1.map gIT++G2.map gIT)))++(OB++RO)) from H3.out.liftF (fun C h=>h.setR 1 rfl (rcells r' B m' d')))
 have HM4:=Lib.hid (HM.out.keep (show SP w w2 (OB++RO) from H3.out.right.right) (show SP w (w2.setRow MB (rcells r' B m' d')) (OB++RO) from H4.out.right.right) (fun y hy=>hy) (Nat.le_refl _))
 generalize w2.setRow MB (rcells r' B m' d')=w3 at H4 HM4 ⊢
 clear H3 HM
 have x1 : w3.cell? ⟨XB,1,none⟩=some (.int .i64 x.now):=H4.out.right.cell 0 rfl 1 rfl
 go_wp2_with fail
 refine (ttick H4.out x.now).mono ?_
 rintro e w4 ⟨rfl,H5⟩
 obtain ⟨er,her⟩ : ∃ v,(tickA a x.now).2=v:=⟨_,rfl⟩
 rw [her]
 have ne : ((er : Int) != er)=false:=by simp
 have HM5:=Lib.hid (HM4.out.keep (show SP w w3 (OB++RO) from H4.out.right.right) (show SP w w4 (OB++RO) from H5.right.right) (fun y hy=>hy) (Nat.le_refl _))
 have H6:=Lib.hid H5
 clear H5 H4 HM4 x1 her
 go_wp2_with fail
 exact HQ.out _ _ _ _ _ _ _ _ _ _ _ _ _ _ _ _ kA k kc gA gc w4 ⟨_,r',B,m',d',l',G1,G2,OB++RO,H6.out,HM5.out,HS.out.k1,HS.out.k2,HS.out.same,HS.out.len,by have:=HS.out.hk;omega⟩
set_option maxHeartbeats 1000000 in
set_option maxRecDepth 100000 in
theorem copybytes_any (A : Option Addr) (n c : Nat) (zs : List Int) (w : World) (rd : RD .u8 w w.heap.size A n zs) (hn : n<=140737488351232) :
 Calls Tryz.prog 29 #[.slice A n c] w fun e w'=>∃ B d,e = .returned (.slice B n d)∧OWN .u8 5 w' w.heap.size B n d zs∧Below w.heap.size w w':=by
 obtain ⟨i0,hi,hz0,hz1,hz2⟩:=info_parts infoU8
 have RDD:=Lib.hid rd
 have X0:=Lib.hid (show SP w w [.own .u8 5 none 0 0 []] from (SP.start w).pushOwn (Below.refl _ _) OWN.nil)
 clear rd
 go_enter Tryz.func29,Tryz.ntmps29
 go_wp2_with (refine wpList_append_rd _ rfl _ _ _ rfl .u8 w.heap.size 5 i0 1 Tryz.underlying22 hi hz0 hz1 hz2 none 0 0 [] rfl (X0.out.own 0 rfl) _ A n c zs rfl RDD.out (by simp only [maxLen];omega) (by omega) X0.out.size ?_;intro A7 c7 w7 happ;have hX : SP w w7 [.own .u8 5 A7 (0 + n) c7 ([]++zs)]:=X0.out.app 0 rfl happ;clear happ;rw [Nat.zero_add,List.nil_append] at hX;rw [Nat.zero_add];have X1:=Lib.hid hX;clear hX)
 go_ret
 exact ⟨A7,c7,rfl,X1.out.own 0 rfl,X1.out.bel⟩
def GROW (w : World) (A : Option Addr) (l : List EM) : Prop:=∀ i x,l[i]?=some x->∃ g off,A=some ⟨g,off,none⟩∧∀ j v,x.gcells[j]?=some v->w.cell? ⟨g,off + i * 7 + j,none⟩=some v
theorem GROW.drewN {w : World} {A : Option Addr} {l : List EM} (h : GROW w A l) (m : Nat) : GROW (w.drewN m) A l:=h
theorem gc_len (x : EM) : x.gcells.length=7:=rfl
theorem grow_of {w : World} {base n c : Nat} {B : Option Addr} {e : TypeId} {l : List EM} (h : w.ownsRow base e 7 (.slice B n c) n (l.flatMap EM.gcells)) (hl : l.length=n) : GROW w B l:=fun i x hx=>by
 have hi : i < n:=by rw [<- hl];exact (List.getElem?_eq_some_iff.1 hx).1
 obtain ⟨g,rfl,hg⟩:=row_head h (by omega)
 refine ⟨g,0,rfl,fun j v hv=>?_⟩
 have hj : j < 7:=(List.getElem?_eq_some_iff.1 hv).1
 rw [Nat.zero_add,hg (i * 7 + j) (by omega),flat_get EM.gcells 7 gc_len l i x hx j hj]
 exact hv
set_option maxHeartbeats 1000000 in
set_option maxRecDepth 100000 in
theorem groups7_yes (A1 A2 : Option Addr) (n c1 c2 : Nat) (l : List EM) (w : World) (h1 : GROW w A1 l) (h2 : GROW w A2 l) (hl : l.length=n) (hn : n<=100000) :
 Calls Tryz.prog 30 #[.slice A1 n c1,.slice A2 n c2] w fun e w'=>e = .returned (.bool true)∧∃ m,w'=w.drewN m:=by
 have H1:=Lib.hid h1
 have H2:=Lib.hid h2
 have HL:=Lib.hid hl
 have ht : ((n : Int) != (n : Int))=false:=by simp
 clear h1 h2 hl
 go_enter Tryz.func30,Tryz.ntmps30
 go_wp2
 go_loopw [5,13] (fun _ s13 wr=>∃ k : Nat,k<=n∧s13 = .int .i64 k∧∃ m,wr=w.drewN m) (fun _ s13 _=>n - (intOf s13).toNat)
 case atStart=>exact ⟨0,Nat.zero_le _,rfl,0,rfl⟩
 case round =>
  obtain ⟨k,hk,rfl,m,rfl⟩:=hrel
  by_cases hlt : k < n
  ·have t1 : (k : Int) < (n : Int):=by omega
   have t0 : (0 : Int)<=(k : Int):=by omega
   obtain ⟨x,hx⟩ : ∃ x,l[k]?=some x:=⟨_,List.getElem?_eq_getElem (by rw [HL.out];exact hlt)⟩
   obtain ⟨g1,o1,rfl,hc1⟩:=H1.out k x hx
   obtain ⟨g2,o2,rfl,hc2⟩:=H2.out k x hx
   have R1:=Lib.hid (show (w.drewN m).rangeAt g1 (o1 + k * 7) [.int .u32 x.e.src,.int .u32 x.e.dst,.int .u8 x.e.proto,.int .u16 x.e.id,.int .i64 x.e.begin_,.int .i64 (x.e.bytes : Int),.bool x.e.dead] from fun j v hv=>hc1 j v hv)
   have R2:=Lib.hid (show (w.drewN m).rangeAt g2 (o2 + k * 7) [.int .u32 x.e.src,.int .u32 x.e.dst,.int .u8 x.e.proto,.int .u16 x.e.id,.int .i64 x.e.begin_,.int .i64 (x.e.bytes : Int),.bool x.e.dead] from fun j v hv=>hc2 j v hv)
   have e6 : IntKind.i64.wrap ((k : Int) + 1)=(k : Int) + 1:=IntWalk.i64_in _ (by omega)
   clear hc1 hc2 hx
   go_upto_region 6 with fail
   refine wp_region_noPanic ?_
   refine wp_region_held_drew (S:=(fun W=>W.rangeAt g1 (o1 + k * 7) [.int .u32 x.e.src,.int .u32 x.e.dst,.int .u8 x.e.proto,.int .u16 x.e.id,.int .i64 x.e.begin_,.int .i64 (x.e.bytes : Int),.bool x.e.dead]∧W.rangeAt g2 (o2 + k * 7) [.int .u32 x.e.src,.int .u32 x.e.dst,.int .u8 x.e.proto,.int .u16 x.e.id,.int .i64 x.e.begin_,.int .i64 (x.e.bytes : Int),.bool x.e.dead])) (by kernel_rfl) ⟨R1.out,R2.out⟩ (fun hHeld=>?_)
   refine' tk (i:=0) rfl ?U1 ?V1
   case U1=>intro w' hSw;(try dsimp only at hSw);go_simp;try (with_reducible rfl)
   try simp only [Act.put,jA,jB,jC]
   refine' tk (i:=1) rfl ?U2 ?V2
   case U2=>intro w' hSw;(try dsimp only at hSw);go_simp;try (with_reducible rfl)
   try simp only [Act.put,jA,jB,jC]
   refine' tk (i:=2) rfl ?U3 ?V3
   case U3=>intro w' hSw;(try dsimp only at hSw);go_simp;try (with_reducible rfl)
   try simp only [Act.put,jA,jB,jC]
   refine' take_lit (i:=3) (v:=.agg (List.toArray [.int .u32 x.e.src,.int .u32 x.e.dst,.int .u8 x.e.proto,.int .u16 x.e.id,.int .i64 x.e.begin_,.int .i64 (x.e.bytes : Int),.bool x.e.dead])) rfl (by kernel_rfl) (by kernel_rfl) (by kernel_rfl) (fun _ _ _ h=>h) (Or.inl ⟨by rfl,?yy4⟩) (by assumption) ?rr4
   case yy4=>intro w' hSw;exact exec_load_mid 94 _ rfl g1 (o1 + k * 7) rfl [.int .u32 x.e.src,.int .u32 x.e.dst,.int .u8 x.e.proto,.int .u16 x.e.id,.int .i64 x.e.begin_,.int .i64 (x.e.bytes : Int),.bool x.e.dead] _ (hSw.1) Tryz.underlying94 rfl (by kernel_rfl)
   try simp only [Act.put,jA,jB,jC]
   refine' tk (i:=4) rfl ?U5 ?V5
   case U5=>intro w' hSw;(try dsimp only at hSw);go_simp;try (with_reducible rfl)
   try simp only [Act.put,jA,jB,jC]
   refine' tk (i:=5) rfl ?U6 ?V6
   case U6=>intro w' hSw;(try dsimp only at hSw);go_simp;try (with_reducible rfl)
   try simp only [Act.put,jA,jB,jC]
   refine' tk (i:=6) rfl ?U7 ?V7
   case U7=>intro w' hSw;(try dsimp only at hSw);go_simp;try (with_reducible rfl)
   try simp only [Act.put,jA,jB,jC]
   refine' take_lit (i:=7) (v:=.agg (List.toArray [.int .u32 x.e.src,.int .u32 x.e.dst,.int .u8 x.e.proto,.int .u16 x.e.id,.int .i64 x.e.begin_,.int .i64 (x.e.bytes : Int),.bool x.e.dead])) rfl (by kernel_rfl) (by kernel_rfl) (by kernel_rfl) (fun _ _ _ h=>h) (Or.inl ⟨by rfl,?yy8⟩) (by assumption) ?rr8
   case yy8=>intro w' hSw;exact exec_load_mid 122 _ rfl g2 (o2 + k * 7) rfl [.int .u32 x.e.src,.int .u32 x.e.dst,.int .u8 x.e.proto,.int .u16 x.e.id,.int .i64 x.e.begin_,.int .i64 (x.e.bytes : Int),.bool x.e.dead] _ (hSw.2) Tryz.underlying122 rfl (by kernel_rfl)
   try simp only [Act.put,jA,jB,jC]
   refine' take_lit (i:=8) (v:=.bool false) rfl (by kernel_rfl) (by kernel_rfl) (by kernel_rfl) (fun _ _ _ h=>h) (Or.inl ⟨by rfl,?yy9⟩) (by assumption) ?rr9
   case yy9=>intro w' hSw;(try dsimp only at hSw);go_simp
   try simp only [Act.put,jA,jB,jC]
   refine wpAnyH_done (by kernel_rfl) ?_ _
   refine NoPanic.normal ?_
   go_wp2_with fail
   go_roundw
   case rel=>exact ⟨k + 1,by omega,by go_num,_,rfl⟩
   case measure=>simp [intOf];omega
  ·have t1 : ¬ (k : Int) < (n : Int):=by omega
   go_wp2
   go_ret
   exact ⟨rfl,_,rfl⟩
end Go.Proofs.YtljbfnabnkkfeaaGreat
