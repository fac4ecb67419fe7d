import Derived.Test.YtljbfnabnkkfeaaGreatSL10
set_option linter.unusedVariables false
set_option linter.unusedSimpArgs false
/- Joined by program: FgU, FgPut. -/
namespace Go.Proofs.YtljbfnabnkkfeaaGreat
open Go.RowKit
def absG (g : GM) : AG:=if g.q.dead then deadG g.a else g.a
def absT (T : TM) : AT:=⟨T.limit,T.life,T.now,T.gs.map absG⟩
def DEADS (gs : List GM) : Prop:=∀ g ∈ gs,g.q.dead=true->g.ps=[]
theorem absG_live {g : GM} (h : g.q.dead=false) : absG g=g.a:=by unfold absG;rw [h];rfl
theorem absG_dead {g : GM} (h : g.q.dead=true) : absG g=deadG g.a:=by unfold absG;rw [h];rfl
theorem absG_begin (g : GM) : (absG g).begin_=g.q.begin_:=by unfold absG;split <;> rfl
theorem absG_isdead (g : GM) : (absG g).dead=g.q.dead:=by
 unfold absG;split
 ·rename_i h;rw [h];rfl
 ·rfl
theorem absG_ids (g : GM) : (absG g).src=g.q.src∧(absG g).dst=g.q.dst∧(absG g).proto=g.q.proto∧(absG g).id=g.q.id:=by unfold absG;split <;> exact ⟨rfl,rfl,rfl,rfl⟩
theorem GV_abs {g : GM} (h : g.q.dead=true->g.ps=[]) : GV (absG g)=GV g.a:=by
 by_cases hd : g.q.dead=true
 ·rw [absG_dead hd]
  have e1 : g.a.ps=[]:=by unfold GM.a;rw [h hd];rfl
  have e2 : g.a.dead=true:=hd
  unfold GV
  rw [e1,e2]
  rfl
 ·rw [absG_live (by simpa using hd)]
theorem GVS_abs : ∀ gs : List GM,DEADS gs->GVS (gs.map absG)=GVS (gs.map GM.a)
 | [],_=>rfl
 | g::gs,h=>by
   have:=GVS_abs gs (fun x hx=>h x (by simp [hx]))
   unfold GVS at this ⊢
   rw [List.map_cons,List.map_cons,List.flatMap_cons,List.flatMap_cons,this,GV_abs (h g (by simp))]
theorem pass_abs {T T' : TM} {now : Int} (h1 : T'.limit=T.limit) (h2 : T'.life=T.life) (h3 : T'.now=now) (h4 : T'.gs=T.gs.dropWhile (overM T.life now)) : absT T'=passA (absT T) now:=by
 unfold absT passA
 simp only
 rw [h1,h2,h3,h4]
 congr 1
 induction T.gs with
 | nil=>rfl
 | cons g gs ih =>
   rw [List.map_cons,List.dropWhile_cons,List.dropWhile_cons]
   have e : overG T.life now (absG g)=overM T.life now g:=by unfold overG overM;rw [absG_begin]
   rw [e]
   split
   ·exact ih
   ·rw [List.map_cons]
theorem DEADS.sub {gs gs' : List GM} (h : DEADS gs) (hs : gs'.Sublist gs) : DEADS gs':=fun g hg=>h g (hs.subset hg)
theorem key_same (h : HD) (g : GM) : sameK h (absG g)=true ↔ g.key=hkey h:=by
 obtain ⟨e1,e2,e3,e4⟩:=absG_ids g
 unfold sameK
 rw [e1,e2,e3,e4]
 unfold GM.key hkey idV
 simp [Value.agg.injEq]
structure FOUND (w0 : World) (T : TM) (h : HD) (R : List IT) (e : Ending) (w' : World) (T2 : TM) (k : Nat) (g : GM) : Prop where
 tb : T2.TB=T.TB
 lim : T2.limit=T.limit
 life : T2.life=T.life
 now : T2.now=T.now
 at_ : T2.gs[k]?=some g
 of_ : ofA (absT T) h=(T2.gs.map absG,k)
 inv : TINV T2
 dead : DEADS T2.gs
 e : e = .returned (pv g.N)
 sp : SP w0 w' (T2.its++R)
theorem of_yes {T : TM} {h : HD} {k : Nat} {g : GM} (hi : TINV T) (hk : T.gs[k]?=some g) (hg : g.key=hkey h) : ofA (absT T) h=(T.gs.map absG,k):=by
 have hf : (T.gs.map absG).findIdx? (sameK h)=some k:=by
  rw [List.findIdx?_eq_some_iff_getElem]
  obtain ⟨hl,rfl⟩:=List.getElem?_eq_some_iff.1 hk
  refine ⟨by simpa using hl,by rw [List.getElem_map];exact (key_same h _).2 hg,fun j hj=>?_⟩
  rw [List.getElem_map]
  intro hs
  have h1:=(key_same h _).1 hs
  have:=List.pairwise_iff_getElem.1 hi.keys j k (by omega) hl hj
  exact this (h1.trans hg.symm)
 unfold ofA
 show (match (T.gs.map absG).findIdx? (sameK h) with | some k=>_ | none=>_)=_
 rw [hf]
 rfl
theorem of_no {T : TM} {h : HD} (hno : ∀ g ∈ T.gs,g.key≠hkey h) (N : Nat) (oA : Option Addr) (oc : Nat) : ofA (absT T) h=((addT (evictT T) N h oA oc).gs.map absG,(evictT T).gs.length):=by
 have hf : (T.gs.map absG).findIdx? (sameK h)=none:=by
  rw [List.findIdx?_eq_none_iff]
  intro x hx
  obtain ⟨g,hg,rfl⟩:=List.mem_map.1 hx
  have:=hno g hg
  cases hs : sameK h (absG g)
  ·rfl
  ·exact absurd ((key_same h g).1 hs) this
 have e1 : (if (((T.gs.map absG).length : Nat) : Int)=T.limit then (T.gs.map absG).tail else T.gs.map absG)=(evictT T).gs.map absG:=by
  rw [evict_gs,List.length_map]
  split
  ·exact List.map_tail.symm
  ·rfl
 unfold ofA
 show (match (T.gs.map absG).findIdx? (sameK h) with | some k=>((absT T).gs,k) | none=>((if (((T.gs.map absG).length : Nat) : Int)=T.limit then (T.gs.map absG).tail else T.gs.map absG)++[newG T.now h],(if (((T.gs.map absG).length : Nat) : Int)=T.limit then (T.gs.map absG).tail else T.gs.map absG).length))=_
 rw [hf]
 simp only
 rw [e1]
 show _=(((evictT T).gs++[newM N (evictT T).now h]).map absG,_)
 rw [List.map_append,List.length_map,(evict_now T).1]
 rfl
theorem of_found {w0 w' : World} {T : TM} {h : HD} {R : List IT} {e : Ending} (H : OFD w0 T h R e w') (hi : TINV T) (hd : DEADS T.gs) (hw : h.WF) : ∃ T2 k g,FOUND w0 T h R e w' T2 k g:=by
 rcases H with ⟨k,g,h1,h2,h3,h4⟩ | ⟨hno,N,oA,oc,h3,h4⟩
 ·exact ⟨T,k,g,rfl,rfl,rfl,rfl,h1,of_yes hi h1 h2,hi,hd,h3,h4⟩
 ·obtain ⟨hi1,hi2⟩:=evict_inv hi
  obtain ⟨e1,e2,e3,e4,e5,e6⟩:=evict_now T
  have hg : (addT (evictT T) N h oA oc).gs[(evictT T).gs.length]?=some (newM N (evictT T).now h):=by
   show ((evictT T).gs++[newM N (evictT T).now h])[(evictT T).gs.length]?=_
   simp
  refine ⟨addT (evictT T) N h oA oc,(evictT T).gs.length,newM N (evictT T).now h,e2,e4,e5,e1,hg,of_no hno N oA oc,?_,?_,h3,h4⟩
  ·exact addT_inv hi1 hi2 hw (fun g hg=>hno g ((evict_sub T).subset hg)) N oA oc
  ·intro g hg
   rcases List.mem_append.1 hg with hg | hg
   ·exact hd g ((evict_sub T).subset hg)
   ·simp at hg;subst hg;exact fun _=>rfl
def TM.put (T : TM) (k : Nat) (g : GM) : TM:={ T with gs:=T.gs.set k g }
def GM.like (g g' : GM) : Prop:=g'.N=g.N∧g'.q.src=g.q.src∧g'.q.dst=g.q.dst∧g'.q.proto=g.q.proto∧g'.q.id=g.q.id∧g'.q.begin_=g.q.begin_
theorem GM.like.key {g g' : GM} (h : g.like g') : g'.key=g.key:=by obtain ⟨h1,h2,h3,h4,h5,h6⟩:=h;unfold GM.key;rw [h2,h3,h4,h5]
theorem GM.like.trans {a b c : GM} (h : a.like b) (h' : b.like c) : a.like c:=by
 obtain ⟨h1,h2,h3,h4,h5,h6⟩:=h
 obtain ⟨g1,g2,g3,g4,g5,g6⟩:=h'
 exact ⟨g1.trans h1,g2.trans h2,g3.trans h3,g4.trans h4,g5.trans h5,g6.trans h6⟩
theorem map_set_same {α β : Type} (f : α->β) : ∀ (l : List α) (k : Nat) (x y : α),l[k]?=some x->f y=f x->(l.set k y).map f=l.map f
 | [],k,x,y,h,e=>by simp at h
 | a::l,0,x,y,h,e=>by simp at h;subst h;simp [e]
 | a::l,k + 1,x,y,h,e=>by
   have:=map_set_same f l k x y (by simpa using h) e
   simp [this]
section
variable {T : TM} {k : Nat} {g g' : GM} {w0 w : World} {R : List IT}
theorem TM.put_at (hg : T.gs[k]?=some g) (g' : GM) : (T.put k g').gs[k]?=some g':=by
 show (T.gs.set k g')[k]?=_
 rw [List.getElem?_set_self (List.getElem?_eq_some_iff.1 hg).1]
theorem TM.put_same (hg : T.gs[k]?=some g) : T.put k g=T:=by
 unfold TM.put
 have : T.gs.set k g=T.gs:=by
  obtain ⟨hl,rfl⟩:=List.getElem?_eq_some_iff.1 hg
  exact List.set_getElem_self hl
 rw [this]
theorem TM.put_hd (hg : T.gs[k]?=some g) (hl : g.like g') : (T.put k g').hd=T.hd:=by
 unfold TM.hd TM.put TM.cells pvs
 simp only
 rw [map_set_same (fun g : GM=>g.N) T.gs k g g' hg hl.1]
theorem TM.put_its (hg : T.gs[k]?=some g) (hl : g.like g') (R : List IT) : ((T.put k g').its++R).Perm (g'.its++(T.hd++(gits (T.gs.eraseIdx k)++R))):=by
 have h1:=gits_split (T.put k g').gs k g' (TM.put_at hg g')
 have h2 : (T.put k g').gs.eraseIdx k=T.gs.eraseIdx k:=List.eraseIdx_set_eq
 rw [h2] at h1
 unfold TM.its
 rw [TM.put_hd hg hl,List.append_assoc]
 refine ((h1.append_right R).append_left _).trans ?_
 rw [List.append_assoc,<- List.append_assoc,<- List.append_assoc g'.its]
 exact List.perm_append_comm.append_right _
theorem TM.at_its (hg : T.gs[k]?=some g) (R : List IT) : (T.its++R).Perm (g.its++(T.hd++(gits (T.gs.eraseIdx k)++R))):=by
 have:=TM.put_its (g':=g) hg ⟨rfl,rfl,rfl,rfl,rfl,rfl⟩ R
 rwa [TM.put_same hg] at this
theorem TINV.put (h : TINV T) (hg : T.gs[k]?=some g) (hl : g.like g') (ho : GOK g'.a) : TINV (T.put k g'):=by
 have hlt:=(List.getElem?_eq_some_iff.1 hg).1
 have hmem : ∀ x ∈ T.gs.set k g',x=g'∨x ∈ T.gs:=fun x hx=>(List.mem_or_eq_of_mem_set hx).symm
 refine ⟨?_,?_,h.lim,h.life,h.now,?_,?_,?_,?_⟩
 ·refine Eq.trans h.ent ?_
  refine (map_set_same (fun g : GM=>(g.key,pv g.N)) T.gs k g g' hg ?_).symm
  show (g'.key,pv g'.N)=(g.key,pv g.N)
  rw [hl.key,hl.1]
 ·have h1:=h.keys
  have e : (T.gs.set k g').map GM.key=T.gs.map GM.key:=map_set_same GM.key T.gs k g g' hg hl.key
  have h2 : (T.gs.map GM.key).Pairwise (fun a b=>a≠b):=List.pairwise_map.2 h1
  rw [<- e] at h2
  exact List.pairwise_map.1 h2
 ·show (((T.gs.set k g').length : Nat) : Int)<=T.limit
  rw [List.length_set];exact h.len
 ·intro x hx
  rcases hmem x hx with rfl | hx
  ·exact ho
  ·exact h.ok x hx
 ·have e : (T.gs.set k g').map (fun g : GM=>g.q.begin_)=T.gs.map (fun g : GM=>g.q.begin_):=map_set_same _ T.gs k g g' hg hl.2.2.2.2.2
  have h2 : (T.gs.map (fun g : GM=>g.q.begin_)).Pairwise (fun a b=>a<=b):=List.pairwise_map.2 h.srt
  rw [<- e] at h2
  exact List.pairwise_map.1 h2
 ·intro x hx
  rcases hmem x hx with rfl | hx
  ·rw [hl.2.2.2.2.2];exact h.beg g (List.mem_of_getElem? hg)
  ·exact h.beg x hx
theorem DEADS.put (h : DEADS T.gs) (hd : g'.q.dead=true->g'.ps=[]) : DEADS (T.put k g').gs:=fun x hx=>by
 rcases List.mem_or_eq_of_mem_set hx with hx | rfl
 ·exact h x hx
 ·exact hd
end
theorem addG_some {g g' : AG} {f : FR} (h : addG g f=some g') : diesG g f=false∧g'=putG g f∧okG g'=true:=by
 unfold addG at h
 split at h
 ·cases h
 ·rename_i h1
  split at h
  ·rename_i h2
   simp at h
   subst h
   exact ⟨by simpa using h1,rfl,h2⟩
  ·cases h
theorem added_like {g g' : GM} {f : FR} {b : Bool} (hk : GOK g.a) (hf : FOK f) (h : ADDED g.a f b g'.a) (hN : g'.N=g.N) : g.like g'∧g'.q.dead=g.q.dead∧GOK g'.a:=by
 rcases h with ⟨h,_⟩ | ⟨_,_,h1,h2,h3,h4,h5,h6,h7⟩
 ·obtain ⟨h1,h2,h3⟩:=addG_some h
  refine ⟨⟨hN,?_,?_,?_,?_,?_⟩,?_,by rw [h2];exact putG_ok hk hf h1⟩
  ·have h5 : g'.a.src=(putG g.a f).src:=congrArg AG.src h2;exact h5
  ·have h5 : g'.a.dst=(putG g.a f).dst:=congrArg AG.dst h2;exact h5
  ·have h5 : g'.a.proto=(putG g.a f).proto:=congrArg AG.proto h2;exact h5
  ·have h5 : g'.a.id=(putG g.a f).id:=congrArg AG.id h2;exact h5
  ·have h5 : g'.a.begin_=(putG g.a f).begin_:=congrArg AG.begin_ h2;exact h5
  ·have h5 : g'.a.dead=(putG g.a f).dead:=congrArg AG.dead h2;exact h5
 ·exact ⟨⟨hN,h1,h2,h3,h4,h5⟩,h6,h7⟩
theorem TM.add_its {T : TM} {k : Nat} {g : GM} (hg : T.gs[k]?=some g) (o : IT) (X : List IT) : (T.its++(o::X)).Perm (g.its++(o::(T.hd++(gits (T.gs.eraseIdx k)++X)))):=by
 refine (TM.at_its hg _).trans (List.Perm.append_left _ ?_)
 rw [<- List.append_assoc,<- List.append_assoc]
 exact List.perm_middle
def GM.kill (g : GM) : GM:={ g with q:={ g.q with dead:=true },pA:=none,pn:=0,pc:=0,ps:=[] }
theorem kill_like (g : GM) : g.like g.kill:=⟨rfl,rfl,rfl,rfl,rfl,rfl⟩
theorem kill_abs {g g' : GM} (h : g.like g') : absG g'.kill=deadG g.a:=by
 obtain ⟨_,h2,h3,h4,h5,h6⟩:=h
 rw [absG_dead rfl]
 unfold deadG GM.kill GM.a
 simp only
 rw [h2,h3,h4,h5,h6]
theorem kill_ok {g : GM} (h : GOK g.a) : GOK g.kill.a:=⟨h.src,h.dst,h.proto,h.id,h.beg,h.tot,h.hd,h.op,GOKP.nil,fun _ p hp=>by cases hp⟩
theorem kill_sp {w0 w : World} {g : GM} {R : List IT} (H : SP w0 w (g.its++R)) : SP w0 ((w.setCell ⟨g.N,6,none⟩ (.bool true)).setCell ⟨g.N,17,none⟩ (.slice none 0 0)) (g.kill.its++R):=by
 have h1:=(H.setB 0 rfl 6 (.bool true)).setB 0 rfl 17 (.slice none 0 0)
 have h2:=(h1.pushRow 92 2).rot
 have h3 : SP w0 ((w.setCell ⟨g.N,6,none⟩ (.bool true)).setCell ⟨g.N,17,none⟩ (.slice none 0 0)) (.row 92 2 none 0 0 []::.blk g.N 88 g.kill.cells::.own .u8 5 g.oA g.on g.oc g.q.o::R) :=
  h2.sub (List.Sublist.cons_cons _ (List.Sublist.cons_cons _ (List.Sublist.cons _ (List.Sublist.cons_cons _ (List.sublist_append_right _ _)))))
 exact h3.perm (List.Perm.swap _ _ _)
theorem splice_len {zs : List Int} {p : Nat × List Int} (h : pe p<=zs.length) : (splice zs p).length=zs.length:=by
 unfold splice pe at *;simp;omega
theorem asm_len : ∀ (ps : List (Nat × List Int)) (zs : List Int),(∀ p ∈ ps,pe p<=zs.length)->(ps.foldl splice zs).length=zs.length
 | [],zs,_=>rfl
 | p::ps,zs,h=>by
   rw [List.foldl_cons]
   have h1:=splice_len (h p (by simp))
   rw [asm_len ps _ (fun q hq=>by rw [h1];exact h q (by simp [hq])),h1]
def asmK (N : Nat) (ps : List PM) (j : Nat) : List Int:=((ps.take j).map PM.a).foldl splice (List.replicate N 0)
theorem asmK_zero (N : Nat) (ps : List PM) : asmK N ps 0=List.replicate N 0:=by simp [asmK]
theorem asmK_len {N : Nat} {ps : List PM} (h : ∀ p ∈ ps,pe p.a<=N) (j : Nat) : (asmK N ps j).length=N:=by
 unfold asmK
 rw [asm_len _ _ (fun q hq=>?_),List.length_replicate]
 obtain ⟨p,hp,rfl⟩:=List.mem_map.1 hq
 rw [List.length_replicate]
 exact h p (List.mem_of_mem_take hp)
theorem asmK_next {N : Nat} {ps : List PM} {j : Nat} {q : PM} (h : ps[j]?=some q) (hN : ∀ p ∈ ps,pe p.a<=N) : asmK N ps (j + 1)=(asmK N ps j).take q.b++(q.d++(asmK N ps j).drop (q.b + q.d.length)):=by
 have hl:=asmK_len hN j
 have hq:=hN q (List.mem_of_getElem? h)
 unfold pe PM.a at hq
 simp only at hq
 have e : asmK N ps (j + 1)=splice (asmK N ps j) q.a:=by
  unfold asmK
  rw [List.take_add_one,h,List.map_append,List.foldl_append]
  rfl
 rw [e]
 show (asmK N ps j).take q.b++(q.d.take ((asmK N ps j).length - q.b)++(asmK N ps j).drop (q.b + q.d.length))=_
 rw [List.take_of_length_le (l:=q.d) (by rw [hl];omega)]
theorem asmK_all (N : Nat) (ps : List PM) : asmK N ps ps.length=asmP N (ps.map PM.a):=by unfold asmK asmP;rw [List.take_length]
theorem map_erase {α β : Type} (f : α->β) : ∀ (l : List α) (k : Nat),(l.map f).eraseIdx k=(l.eraseIdx k).map f
 | [],_=>rfl
 | a::l,0=>rfl
 | a::l,k + 1=>by simp [map_erase f l k]
section
variable {T2 : TM} {k : Nat} {g : GM} {f : FR}
theorem addA_dead (hg : T2.gs[k]?=some g) (hd : g.q.dead=true) : addA (T2.gs.map absG) k f=((absT T2).gs,[],71):=by
 unfold addA
 rw [List.getElem?_map,hg]
 simp only [Option.map_some]
 rw [absG_isdead,hd]
 rfl
theorem addA_none (hg : T2.gs[k]?=some g) (hd : g.q.dead=false) (ha : addG g.a f=none) {g' : GM} (h' : absG g'=deadG g.a) : addA (T2.gs.map absG) k f=((absT (T2.put k g')).gs,[],71):=by
 unfold addA
 rw [List.getElem?_map,hg]
 simp only [Option.map_some]
 rw [absG_isdead,hd,absG_live hd,ha]
 show ((T2.gs.map absG).set k (deadG g.a),_,_)=((T2.gs.set k g').map absG,_,_)
 rw [List.map_set,h']
theorem addA_more (hg : T2.gs[k]?=some g) (hd : g.q.dead=false) {g' : GM} (hd' : g'.q.dead=false) (ha : addG g.a f=some g'.a) (hn : doneG g'.a=false) : addA (T2.gs.map absG) k f=((absT (T2.put k g')).gs,[],0):=by
 unfold addA
 rw [List.getElem?_map,hg]
 simp only [Option.map_some]
 rw [absG_isdead,hd,absG_live hd,ha]
 simp only [hn]
 show ((T2.gs.map absG).set k g'.a,_,_)=((T2.gs.set k g').map absG,_,_)
 rw [List.map_set,absG_live hd']
theorem addA_done (hg : T2.gs[k]?=some g) (hd : g.q.dead=false) {g' : AG} (ha : addG g.a f=some g') (hn : doneG g'=true) : addA (T2.gs.map absG) k f=((absT (T2.cut k)).gs,pktB g'.h g'.o (asmP g'.total.toNat g'.ps),0):=by
 unfold addA
 rw [List.getElem?_map,hg]
 simp only [Option.map_some]
 rw [absG_isdead,hd,absG_live hd,ha]
 simp only [hn]
 show ((T2.gs.map absG).eraseIdx k,_,_)=((T2.gs.eraseIdx k).map absG,_,_)
 rw [map_erase]
end
theorem right7 {zs : List Int} (h : faultR zs=7) : 20<=zs.length∧20<=sizeR zs∧sizeR zs<=totalR zs∧totalR zs<=zs.length∧Rightly (hdOf zs).off (hdOf zs).mf (sizeR zs - 20) ((totalR zs : Int) - sizeR zs)∧wordAt zs 6 < 32768∧sumOf (zs.take (sizeR zs))=65535∧byteAt zs 0 / 16=4:=by
 unfold faultR at h
 split at h;· omega
 rename_i h0
 split at h;· omega
 rename_i h1
 split at h;· omega
 rename_i h2
 split at h;· omega
 rename_i h3
 split at h;· omega
 rename_i h4
 split at h;· omega
 rename_i h5
 split at h;· omega
 rename_i h6
 have h7:=rightB_iff.1 (by simpa using h6)
 exact ⟨by omega,by omega,by omega,by omega,h7,by omega,by omega,by omega⟩
theorem optsOf_len {zs : List Int} (h : faultR zs=7) : (optsOf zs).length=sizeR zs - 20:=by
 obtain ⟨h1,h2,h3,h4,_⟩:=right7 h
 unfold optsOf
 rw [List.length_take,List.length_drop];omega
theorem frOf_len {zs : List Int} (h : faultR zs=7) : (frOf zs).d.length=totalR zs - sizeR zs:=by
 obtain ⟨h1,h2,h3,h4,_⟩:=right7 h
 unfold frOf
 simp only
 rw [List.length_take,List.length_drop];omega
theorem frOf_ok {zs : List Int} (h : faultR zs=7) (hz : BD 255 zs) : FOK (frOf zs):=by
 obtain ⟨h1,h2,h3,h4,hr,_⟩:=right7 h
 have hl:=frOf_len h
 have ho:=optsOf_len h
 have hwf:=hdOf_wf hz
 obtain ⟨r1,r2,r3,r4,r5,r6,r7,r8,r9⟩:=hr
 refine ⟨hwf,⟨r2,r1,r3⟩,⟨(hz.drop 20).take _,by show (optsOf zs).length<=40;omega⟩,(hz.drop _).take _,?_,fun hm=>?_⟩
 ·unfold FR.e FR.b
  rw [hl]
  show (hdOf zs).off.toNat + _<=65515
  omega
 ·have:=r9 hm
  rw [hl]
  omega
end Go.Proofs.YtljbfnabnkkfeaaGreat
namespace Go.Proofs.YtljbfnabnkkfeaaGreat
open Go.RowKit
theorem step_copy_exc {P : Program} {k : IntKind} {e : TypeId} {w : World} {base n c g lo : Nat} {zs ys : List Int} {ops : Array Oper} {o : Oper} {a : Act} {K : Act->World->Prop} {Q : Exit->Act->World->Prop} {E : Prop} (hgd : o.guard=none) (d s : Operand) (dT sT : TypeId)
 (ho : o.op = .call { callee:=.builtin .copy,args:=#[d,s],argTypes:=#[dT,sT] }) (hu : P.underlying dT=some (.slice e)) (hsz : (P.info? e).map (·.size)=some 1)
 (own : OWN k e w base (some ⟨g,0,none⟩) n c zs) (hlo : lo<=n) {D C : Nat} (hd : a.eval d = .slice (cutA (some ⟨g,0,none⟩) c lo) D C) (hD : D=n - lo)
 {A2 : Option Addr} {m c2 B : Nat} (hs : a.eval s = .slice A2 m c2) (hr : RD k w B A2 m ys) (hm : m<=n - lo) (hm0 : 0 < m)
 (h : ∀ w',OWN k e w' base (some ⟨g,0,none⟩) n c (spliceZ zs lo ys)->Below g w w'->(∀ b,b≠g->w'.heap[b]?=w.heap[b]?)->K (a.put o.dst (goInt m)) w') :
 if Region.wanted o (yielded ops a.tmps)=true then Oper.wp P o a w K Q else E:=by
 subst hD
 obtain ⟨cur,h1,h2,h3,h4,h5,h6⟩:=own.block
 have hyl:=hr.1
 have hcl : (ys.map (Value.int k)).length=m:=by simpa using hyl
 have hw : Region.wanted o (yielded ops a.tmps)=true:=by simp [Region.wanted,hgd]
 rw [if_pos hw]
 obtain ⟨b,off,rfl,hb,hc⟩:=hr.2 hm0
 have hca : cutA (some ⟨g,0,none⟩) c lo=some ⟨g,lo,none⟩:=by
  unfold cutA
  rw [if_neg (by omega)]
  simp [Addr.add]
  exact fun h=>h.symm
 rw [hca] at hd
 have hrun:=run_copy_row (P:=P) w dT sT o.type e g lo (n - lo) C ⟨b,off,none⟩ m c2 cur e (ys.map (Value.int k)) hu hsz h1 (by rw [hcl];exact (Nat.min_eq_left hm).symm) (fun j v hv=>by
  have hj : j < m:=by have:=(List.getElem?_eq_some_iff.1 hv).1;omega
  have hadd : (⟨b,off,none⟩ : Addr).add j=⟨b,off + j,none⟩:=by unfold Addr.add;split <;> simp_all
  rw [hadd,hc j hj,<- hv]
  simp [hyl,hj]) (by rw [hcl];omega) (ints_oneCell k ys)
 unfold Oper.wp
 simp [execOp,ho,resolve,invoke,builtin,hd,hs,hrun,Result.andThen,hyl]
 refine h _ (own.spliced h1 (by omega) ?_) (below_setRow (Below.refl _ _) (Nat.le_refl _) _) (fun x hx=>setRow_other w g x _ hx)
 have h8:=setRow_heap w g cur (Go.splice cur.toList lo (ys.map (Value.int k))).toArray e (0,0) h1
 simpa [Go.splice,hyl] using h8
def PUTD (w0 : World) (T : TM) (now : Int) (zs : List Int) (R : List IT) (e : Ending) (w' : World) : Prop :=
 ∃ A n c T',e = .returned (.tuple #[.slice A n c,.int .i64 (putA (absT T) now zs).2.2])∧T'.TB=T.TB∧absT T'=(putA (absT T) now zs).1∧TINV T'∧DEADS T'.gs∧SP w0 w' (.own .u8 5 A n c (putA (absT T) now zs).2.1::(T'.its++R))
section
variable {w0 w : World} {T : TM} {now : Int} {zs : List Int} {R : List IT}
theorem putd_same (er : Int) (h : putA (absT T) now zs=(absT T,[],er)) (hi : TINV T) (hd : DEADS T.gs) (H : SP w0 w (T.its++R)) : PUTD w0 T now zs R (.returned (.tuple #[.slice none 0 0,.int .i64 er])) w :=
 ⟨none,0,0,T,by rw [h],rfl,by rw [h],hi,hd,by rw [h];exact (H.pushOwn (Below.refl _ _) (OWN.nil (k:=.u8) (e:=5))).rot⟩
theorem put_late (h : (decide (now < T.now) || decide (1099511627776 < now))=true) : putA (absT T) now zs=(absT T,[],70):=by
 unfold putA lateA
 have : (decide (now < (absT T).now) || decide (1099511627776 < now))=true:=h
 rw [if_pos this]
theorem put_bad (h : (decide (now < T.now) || decide (1099511627776 < now))=false) (hf : faultR zs≠7) : putA (absT T) now zs=(absT T,[],ipE zs):=by
 unfold putA lateA
 have : (decide (now < (absT T).now) || decide (1099511627776 < now))=false:=h
 rw [if_neg (by rw [this];simp),if_pos hf]
theorem put_whole (h : (decide (now < T.now) || decide (1099511627776 < now))=false) (hf : faultR zs=7) (h1 : (hdOf zs).mf=false∧(hdOf zs).off=0) : putA (absT T) now zs=(passA (absT T) now,zs.take (totalR zs),0):=by
 unfold putA lateA
 have : (decide (now < (absT T).now) || decide (1099511627776 < now))=false:=h
 rw [if_neg (by rw [this];simp),if_neg (by simp [hf]),if_pos h1]
theorem put_frag (h : (decide (now < T.now) || decide (1099511627776 < now))=false) (hf : faultR zs=7) (h1 : ¬ ((hdOf zs).mf=false∧(hdOf zs).off=0)) (gs : List AG) (k : Nat) (ho : ofA (passA (absT T) now) (hdOf zs)=(gs,k)) :
 putA (absT T) now zs=({ passA (absT T) now with gs:=(addA gs k (frOf zs)).1 },(addA gs k (frOf zs)).2.1,(addA gs k (frOf zs)).2.2):=by
 unfold putA lateA
 have : (decide (now < (absT T).now) || decide (1099511627776 < now))=false:=h
 rw [if_neg (by rw [this];simp),if_neg (by simp [hf]),if_neg h1,ho]
theorem put_eq {T1 T2 : TM} {k : Nat} {g : GM} {w7 : World} {R' : List IT} {e : Ending} (h : (decide (now < T.now) || decide (1099511627776 < now))=false) (hf : faultR zs=7) (h1 : ¬ ((hdOf zs).mf=false∧(hdOf zs).off=0)) (hp : absT T1=passA (absT T) now) (F : FOUND w0 T1 (hdOf zs) R' e w7 T2 k g) :
 putA (absT T) now zs=({ absT T2 with gs:=(addA (T2.gs.map absG) k (frOf zs)).1 },(addA (T2.gs.map absG) k (frOf zs)).2.1,(addA (T2.gs.map absG) k (frOf zs)).2.2):=by
 rw [put_frag h hf h1 (T2.gs.map absG) k (by rw [<- hp];exact F.of_),<- hp]
 unfold absT
 simp only
 rw [F.lim,F.life,F.now]
theorem putd_new {T1 T2 T3 : TM} {k : Nat} {g : GM} {w7 : World} {R' : List IT} {e : Ending} (h : (decide (now < T.now) || decide (1099511627776 < now))=false) (hf : faultR zs=7) (h1 : ¬ ((hdOf zs).mf=false∧(hdOf zs).off=0)) (hp : absT T1=passA (absT T) now) (F : FOUND w0 T1 (hdOf zs) R' e w7 T2 k g)
 (htb : T1.TB=T.TB) (er : Int) (out : List Int) (ha : addA (T2.gs.map absG) k (frOf zs)=((absT T3).gs,out,er)) (e1 : T3.TB=T2.TB) (e2 : T3.limit=T2.limit) (e3 : T3.life=T2.life) (e4 : T3.now=T2.now) (hi : TINV T3) (hd : DEADS T3.gs)
 (A : Option Addr) (n c : Nat) (H : SP w0 w (.own .u8 5 A n c out::(T3.its++R))) : PUTD w0 T now zs R (.returned (.tuple #[.slice A n c,.int .i64 er])) w:=by
 have hq:=put_eq h hf h1 hp F
 rw [ha] at hq
 refine ⟨A,n,c,T3,by rw [hq],by rw [e1,F.tb,htb],?_,hi,hd,by rw [hq];exact H⟩
 rw [hq]
 unfold absT
 simp only
 rw [e2,e3,e4]
theorem putd_nil {T1 T2 T3 : TM} {k : Nat} {g : GM} {w7 : World} {R' : List IT} {e : Ending} (h : (decide (now < T.now) || decide (1099511627776 < now))=false) (hf : faultR zs=7) (h1 : ¬ ((hdOf zs).mf=false∧(hdOf zs).off=0)) (hp : absT T1=passA (absT T) now) (F : FOUND w0 T1 (hdOf zs) R' e w7 T2 k g)
 (htb : T1.TB=T.TB) (er : Int) (ha : addA (T2.gs.map absG) k (frOf zs)=((absT T3).gs,[],er)) (e1 : T3.TB=T2.TB) (e2 : T3.limit=T2.limit) (e3 : T3.life=T2.life) (e4 : T3.now=T2.now) (hi : TINV T3) (hd : DEADS T3.gs)
 (H : SP w0 w (T3.its++R)) : PUTD w0 T now zs R (.returned (.tuple #[.slice none 0 0,.int .i64 er])) w :=
 putd_new h hf h1 hp F htb er [] ha e1 e2 e3 e4 hi hd none 0 0 (H.pushOwn (Below.refl _ _) (OWN.nil (k:=.u8) (e:=5))).rot
end
set_option maxHeartbeats 1000000 in
set_option maxRecDepth 100000 in
theorem fput_any {w0 w : World} {R : List IT} (T : TM) (A : Option Addr) (n c : Nat) (zs : List Int) (now : Int) (H0 : SP w0 w (T.its++R)) (hi : TINV T) (hd : DEADS T.gs) (rd : ∀ W,SP w0 W R->RD .u8 W W.heap.size A n zs) (hz : BD 255 zs) (hnc : n<=c) (hn : n<=140737488351232) :
 Calls Tryz.prog 9 #[.pointer (some ⟨T.TB,0,none⟩),.int .i64 now,.slice A n c] w (PUTD w0 T now zs R):=by
 have HN:=Lib.hid (none_no T.TB T.limit w (its_cell H0 0 _ rfl) hi.lim.1)
 have HL:=Lib.hid (late_any T.TB T.now now w (its_cell H0 2 _ rfl))
 have RDD:=Lib.hid rd
 have HR:=Lib.hid (read_any A n c zs w (rd w H0.right) hz hnc hn)
 have X0:=Lib.hid H0
 have HI:=Lib.hid hi
 have HDE:=Lib.hid hd
 have HZ:=Lib.hid hz
 have HZL:=Lib.hid (rd w H0.right).len
 obtain ⟨lt,hlt⟩ : ∃ b,(decide (now < T.now) || decide (1099511627776 < now))=b:=⟨_,rfl⟩
 have HLT:=Lib.hid hlt
 rw [hlt] at HL
 obtain ⟨TB,hTB⟩ : ∃ b,T.TB=b:=⟨_,rfl⟩
 have HTB:=Lib.hid hTB
 rw [hTB] at HN HL ⊢
 clear H0 hi hd hz hlt rd hTB
 go_enter Tryz.func9,Tryz.ntmps9
 go_wp2_with fail
 refine HN.out.mono ?_
 rintro e w1 ⟨rfl,hw⟩
 obtain rfl:=hw
 go_wp2_with fail
 refine HL.out.mono ?_
 rintro e w1 ⟨rfl,hw⟩
 obtain rfl:=hw
 cases lt
 case true =>
  go_wp2_with fail
  go_ret2
  exact putd_same 70 (put_late HLT.out) HI.out HDE.out X0.out
 case false =>
 go_wp2_with fail
 refine HR.out.mono ?_
 rintro e w2 ⟨oA,on,oc,rfl,ho,hb⟩
 have X1:=Lib.hid (X0.out.pushOwn hb ho)
 clear ho hb HN HL HR X0
 obtain ⟨H,hH⟩ : ∃ H,hdR zs=H:=⟨_,rfl⟩
 have HH:=Lib.hid hH
 rw [hH]
 clear hH
 unfold HD.val HD.cells
 obtain ⟨HB,hHB⟩ : ∃ b,b=w2.heap.size:=⟨_,rfl⟩
 have X2:=Lib.hid (X1.out.alloc' 34 #[.int .u8 H.tos,.int .u16 H.id,.bool H.df,.bool H.mf,.int .i64 H.off,.int .u8 H.ttl,.int .u8 H.proto,.int .u32 H.src,.int .u32 H.dst,.slice oA on oc] hHB.symm)
 clear X1
 go_upto_region 6 with fail
 rw [<- hHB]
 generalize w2.alloc (.cells #[.int .u8 H.tos,.int .u16 H.id,.bool H.df,.bool H.mf,.int .i64 H.off,.int .u8 H.ttl,.int .u8 H.proto,.int .u32 H.src,.int .u32 H.dst,.slice oA on oc] 34)=w3 at X2 ⊢
 clear hHB
 by_cases hf : faultR zs=7
 case neg =>
  have HF:=Lib.hid hf
  have hE : ipE zs=50 + faultR zs:=by unfold ipE;rw [if_neg hf]
  have hle:=faultR_le zs
  have b0 : ((ipE zs) == 0)=false:=by rw [hE];simp;omega
  clear hf hE hle
  go_wp2_with fail
  go_ret2
  exact putd_same (ipE zs) (put_bad HLT.out HF.out) HI.out HDE.out X2.out.left.left
 case pos =>
 have hE : ipE zs=0:=by unfold ipE;rw [if_pos hf]
 have hO : optsR zs=optsOf zs:=by unfold optsR;rw [if_pos hf]
 have hF : fromR zs=sizeR zs:=by unfold fromR;rw [if_pos hf]
 have hT : toR zs=totalR zs:=by unfold toR;rw [if_pos hf]
 have hH : H=hdOf zs:=by rw [<- HH.out];unfold hdR;rw [if_pos hf]
 have HHE:=Lib.hid hH
 rw [hO] at X2
 rw [hE,hF,hT]
 obtain ⟨r1,r2,r3,r4,hr,_⟩:=right7 hf
 have hzl:=HZL.out
 have hoff:=(frOf_ok hf HZ.out).off
 replace hoff : 0<=(hdOf zs).off∧(hdOf zs).off % 8=0∧(hdOf zs).off<=65528:=hoff
 rw [<- hH] at hoff
 obtain ⟨fr,hfr⟩ : ∃ m,sizeR zs=m:=⟨_,rfl⟩
 obtain ⟨tt,htt⟩ : ∃ m,totalR zs=m:=⟨_,rfl⟩
 rw [hfr] at r2 r3 ⊢
 rw [htt] at r3 r4 ⊢
 have HFT:=Lib.hid (And.intro hfr htt)
 have HF:=Lib.hid hf
 have hb:=HLT.out
 simp only [Bool.or_eq_false_iff,decide_eq_false_iff_not] at hb
 have h1 : T.now<=now:=by omega
 have h2 : now<=1099511627776:=by omega
 have X3:=Lib.hid (show SP w0 w3 (T.its++(.own .u8 5 oA on oc (optsOf zs)::.blk HB 34 #[.int .u8 H.tos,.int .u16 H.id,.bool H.df,.bool H.mf,.int .i64 H.off,.int .u8 H.ttl,.int .u8 H.proto,.int .u32 H.src,.int .u32 H.dst,.slice oA on oc]::R)) from SP.swap (A:=[_,_]) (B:=T.its) (C:=R) (SP.rot (L:=_::(T.its++R)) X2.out.rot))
 have HPA:=Lib.hid (pass_any X3.out HI.out now h1 h2)
 rw [HTB.out] at HPA
 rw [hzl] at r1 r4
 clear hE hO hF hT hH hfr htt hf hb X2 hr hzl HH
 go_wp2_with fail
 refine HPA.out.mono ?_
 rintro e w4 ⟨rfl,T1,e1,e2,e3,e4,e5,hi1,hS⟩
 have X4:=Lib.hid hS
 have HI1:=Lib.hid hi1
 have HT1:=Lib.hid (And.intro (pass_abs e2 e3 e4 e5) (And.intro (e1.trans HTB.out) (e4.trans rfl)))
 have HD1:=Lib.hid (HDE.out.sub (by rw [e5];exact (List.dropWhile_sublist _) : T1.gs.Sublist T.gs))
 clear e1 e2 e3 e4 e5 hi1 hS HPA X3 HDE HI h1 h2
 have x3 : w4.cell? ⟨HB,3,none⟩=some (.bool H.mf):=X4.out.right.cell 1 rfl 3 rfl
 have x4 : w4.cell? ⟨HB,4,none⟩=some (.int .i64 H.off):=X4.out.right.cell 1 rfl 4 rfl
 obtain ⟨mf,hmf⟩ : ∃ b,H.mf=b:=⟨_,rfl⟩
 obtain ⟨of,hof⟩ : ∃ b,H.off=b:=⟨_,rfl⟩
 rw [hmf] at x3
 rw [hof] at x4 hoff
 have HMO:=Lib.hid (And.intro hmf hof)
 clear hmf hof
 obtain ⟨wh,hwh⟩ : ∃ b,(!mf && (of == 0))=b:=⟨_,rfl⟩
 have HWH:=Lib.hid hwh
 obtain ⟨w5,rfl⟩ : ∃ w5 : World,w5=w4:=⟨_,rfl⟩
 go_upto_region 9 with fail
 go_cut [41] (fun s41 wx=>s41 = .bool wh∧wx=w5)
 case first =>
  cases mf
  ·by_cases h0 : of=0
   ·subst h0
    go_wp2_with fail
    go_meet
    exact ⟨by rw [<- HWH.out];rfl,rfl⟩
   ·have b0 : (of == 0)=false:=by simpa using h0
    go_wp2_with fail
    go_meet
    exact ⟨by rw [<- HWH.out];first | rfl | (rw [b0];rfl),rfl⟩
  ·go_wp2_with fail
   go_meet
   exact ⟨by rw [<- HWH.out];rfl,rfl⟩
 case rest =>
 obtain ⟨rfl,hw5⟩:=hcut
 obtain ⟨w6,rfl⟩ : ∃ w6 : World,w6=wc:=⟨_,rfl⟩
 rw [<- hw5] at X4
 clear hw5 x3 x4 hwh
 cases wh
 case true =>
  have hc:=clone_any A tt c (zs.take tt) w6 ((RDD.out _ X4.out.right.tail.tail).take r4) (by omega)
  have HC:=Lib.hid hc
  clear hc
  go_wp2_with fail
  refine HC.out.mono ?_
  rintro e w7 ⟨A7,n7,c7,rfl,ho,hb⟩
  have X5:=Lib.hid (X4.out.pushOwn hb ho)
  clear ho hb
  go_wp2_with fail
  go_ret2
  have h0:=HWH.out
  simp only [Bool.and_eq_true,Bool.not_eq_true',beq_iff_eq] at h0
  have hp:=put_whole (T:=T) HLT.out HF.out (by rw [<- HHE.out,HMO.out.1,HMO.out.2];exact h0)
  rw [HFT.out.2] at hp
  refine ⟨A7,n7,c7,T1,by rw [hp];rfl,by rw [HT1.out.2.1,HTB.out],by rw [hp];exact HT1.out.1,HI1.out,HD1.out,?_⟩
  rw [hp]
  exact SP.sub (SP.rot (L:=_++_) X5.out) (((List.Sublist.cons _ (List.sublist_cons_self _ _)).append_left _).cons_cons _)
 case false =>
 have hwf : H.WF:=by rw [HHE.out];exact hdOf_wf HZ.out
 have hnw : ¬ ((hdOf zs).mf=false∧(hdOf zs).off=0):=by
  have h0:=HWH.out
  rw [<- HHE.out,HMO.out.1,HMO.out.2]
  intro h1
  rw [h1.1,h1.2] at h0
  simp at h0
 have HNW:=Lib.hid hnw
 have HK:=Lib.hid (X4.out.right.blk 1 rfl)
 have HOF:=Lib.hid (fof_any T1 H oA on oc X4.out HI1.out hwf)
 rw [HT1.out.2.1] at HOF
 unfold HD.val HD.cells at HOF
 clear hnw hwf
 go_wp2_with (refine wpList_load_row rfl 34 _ rfl HB rfl 34 #[.int .u8 H.tos,.int .u16 H.id,.bool H.df,.bool H.mf,.int .i64 H.off,.int .u8 H.ttl,.int .u8 H.proto,.int .u32 H.src,.int .u32 H.dst,.slice oA on oc] (0,0) _ HK.out Tryz.underlying34 rfl (by kernel_rfl) ?_)
 refine HOF.out.mono ?_
 intro e w7 hF
 obtain ⟨T2,k,g,F⟩:=of_found hF HI1.out HD1.out (by rw [HHE.out];exact hdOf_wf HZ.out)
 have hFe:=F.e
 subst hFe
 have FF:=Lib.hid F
 have X5:=Lib.hid (show SP w0 w7 (T2.its++(.own .u8 5 oA on oc (optsOf zs)::.blk HB 34 #[.int .u8 H.tos,.int .u16 H.id,.bool H.df,.bool H.mf,.int .i64 H.off,.int .u8 H.ttl,.int .u8 H.proto,.int .u32 H.src,.int .u32 H.dst,.slice oA on oc]::R)) from F.sp)
 clear F HOF HK X4 hF
 unfold pv
 obtain ⟨GN,hGN⟩ : ∃ b,g.N=b:=⟨_,rfl⟩
 rw [hGN]
 have HGN:=Lib.hid hGN
 clear hGN
 obtain ⟨dd,hdd⟩ : ∃ b,g.q.dead=b:=⟨_,rfl⟩
 have HDD:=Lib.hid hdd
 clear hdd
 have KS:=Lib.hid (fun W' (hs : SP w0 W' (T2.its++(.own .u8 5 oA on oc (optsOf zs)::.blk HB 34 #[.int .u8 H.tos,.int .u16 H.id,.bool H.df,.bool H.mf,.int .i64 H.off,.int .u8 H.ttl,.int .u8 H.proto,.int .u32 H.src,.int .u32 H.dst,.slice oA on oc]::R)))=>(show W'.cell? ⟨GN,6,none⟩=some (.bool dd)∧BLOCK W' HB 34 #[.int .u8 H.tos,.int .u16 H.id,.bool H.df,.bool H.mf,.int .i64 H.off,.int .u8 H.ttl,.int .u8 H.proto,.int .u32 H.src,.int .u32 H.dst,.slice oA on oc] from ⟨by rw [<- HGN.out,<- HDD.out];exact (its_g hs (List.mem_of_getElem? FF.out.at_)).cell 6,hs.right.blk 1 rfl⟩))
 go_upto_region 12 with fail
 cases dd
 case true =>
  have ZD:=Lib.hid X5.out.drew
  refine wp_region_noPanic ?_
  refine wp_region_held_drew (S:=fun W'=>W'.cell? ⟨GN,6,none⟩=some (.bool true)∧BLOCK W' HB 34 #[.int .u8 H.tos,.int .u16 H.id,.bool H.df,.bool H.mf,.int .i64 H.off,.int .u8 H.ttl,.int .u8 H.proto,.int .u32 H.src,.int .u32 H.dst,.slice oA on oc]) (by kernel_rfl) (by exact KS.out _ ZD.out) (fun hHeld=>?_)
  generalize w7.drew=v1 at ZD hHeld ⊢
  refine' tk (i:=0) rfl ?U1 ?V1
  case U1=>intro w' hSw;obtain ⟨hs1,hs2⟩:=hSw;go_simp;try (with_reducible rfl)
  try simp only [Act.put,jA,jB,jC]
  refine' tk (i:=1) rfl ?U2 ?V2
  case U2=>intro w' hSw;obtain ⟨hs1,hs2⟩:=hSw;go_simp;try (with_reducible rfl)
  try simp only [Act.put,jA,jB,jC]
  refine' tk (i:=2) rfl ?U3 ?V3
  case U3=>intro w' hSw;obtain ⟨hs1,hs2⟩:=hSw;go_simp;try (with_reducible rfl)
  try simp only [Act.put,jA,jB,jC]
  refine' tk (i:=3) rfl ?U4 ?V4
  case U4=>intro w' hSw;obtain ⟨hs1,hs2⟩:=hSw;go_simp;try (with_reducible rfl)
  try simp only [Act.put,jA,jB,jC]
  refine' tk (i:=4) rfl ?U5 ?V5
  case U5=>intro w' hSw;obtain ⟨hs1,hs2⟩:=hSw;go_simp;try (with_reducible rfl)
  try simp only [Act.put,jA,jB,jC]
  refine' tk (i:=5) rfl ?U6 ?V6
  case U6=>intro w' hSw;obtain ⟨hs1,hs2⟩:=hSw;go_simp;try (with_reducible rfl)
  try simp only [Act.put,jA,jB,jC]
  refine take_lit (i:=6) (v:=undef) rfl (by kernel_rfl) (by kernel_rfl) (by kernel_rfl) (fun _ _ _ h=>h) (Or.inr ⟨by rfl,rfl⟩) (by assumption) ?_
  try simp only [Act.put,jA,jB,jC]
  refine take_lit (i:=7) (v:=undef) rfl (by kernel_rfl) (by kernel_rfl) (by kernel_rfl) (fun _ _ _ h=>h) (Or.inr ⟨by rfl,rfl⟩) (by assumption) ?_
  try simp only [Act.put,jA,jB,jC]
  refine take_lit (i:=8) (v:=undef) rfl (by kernel_rfl) (by kernel_rfl) (by kernel_rfl) (fun _ _ _ h=>h) (Or.inr ⟨by rfl,rfl⟩) (by assumption) ?_
  try simp only [Act.put,jA,jB,jC]
  refine take_lit (i:=9) (v:=undef) rfl (by kernel_rfl) (by kernel_rfl) (by kernel_rfl) (fun _ _ _ h=>h) (Or.inr ⟨by rfl,rfl⟩) (by assumption) ?_
  try simp only [Act.put,jA,jB,jC]
  refine take_lit (i:=10) (v:=undef) rfl (by kernel_rfl) (by kernel_rfl) (by kernel_rfl) (fun _ _ _ h=>h) (Or.inr ⟨by rfl,rfl⟩) (by assumption) ?_
  try simp only [Act.put,jA,jB,jC]
  refine take_lit (i:=11) (v:=undef) rfl (by kernel_rfl) (by kernel_rfl) (by kernel_rfl) (fun _ _ _ h=>h) (Or.inr ⟨by rfl,rfl⟩) (by assumption) ?_
  try simp only [Act.put,jA,jB,jC]
  refine take_lit (i:=12) (v:=undef) rfl (by kernel_rfl) (by kernel_rfl) (by kernel_rfl) (fun _ _ _ h=>h) (Or.inr ⟨by rfl,rfl⟩) (by assumption) ?_
  try simp only [Act.put,jA,jB,jC]
  refine take_lit (i:=13) (v:=undef) rfl (by kernel_rfl) (by kernel_rfl) (by kernel_rfl) (fun _ _ _ h=>h) (Or.inr ⟨by rfl,rfl⟩) (by assumption) ?_
  try simp only [Act.put,jA,jB,jC]
  refine' tk (i:=14) rfl ?U7 ?V7
  case U7=>intro w' hSw;obtain ⟨hs1,hs2⟩:=hSw;go_simp;try (with_reducible rfl)
  try simp only [Act.put,jA,jB,jC]
  refine wpAnyH_done (by kernel_rfl) ?_ _
  refine NoPanic.normal ?_
  have X6:=Lib.hid ZD.out
  have y6 : v1.cell? ⟨GN,6,none⟩=some (.bool true):=(KS.out _ ZD.out).1
  go_wp2_with fail
  go_ret2
  have F':=FF.out
  rw [HHE.out] at F'
  exact putd_nil HLT.out HF.out HNW.out HT1.out.1 F' (by rw [HT1.out.2.1,HTB.out]) 71 (addA_dead F'.at_ HDD.out) rfl rfl rfl rfl F'.inv F'.dead (X6.out.sub ((List.Sublist.cons _ (List.sublist_cons_self _ _)).append_left _))
 case false =>
 obtain ⟨SA,hSA⟩ : ∃ SA,(if c=fr then A else Option.map (fun x=>x.add fr) A)=SA:=⟨_,rfl⟩
 have HSA:=Lib.hid (show cutA A c fr=SA from hSA)
 have HADD:=Lib.hid (fun W' (hs : SP w0 W' (T2.its++(.own .u8 5 oA on oc (optsOf zs)::.blk HB 34 #[.int .u8 H.tos,.int .u16 H.id,.bool H.df,.bool H.mf,.int .i64 H.off,.int .u8 H.ttl,.int .u8 H.proto,.int .u32 H.src,.int .u32 H.dst,.slice oA on oc]::R)))=>(show Calls Tryz.prog 38 #[.pointer (some ⟨GN,0,none⟩),.agg #[.int .u8 H.tos,.int .u16 H.id,.bool H.df,.bool H.mf,.int .i64 H.off,.int .u8 H.ttl,.int .u8 H.proto,.int .u32 H.src,.int .u32 H.dst,.slice oA on oc],.slice SA (tt - fr) (c - fr)] W' (ADDR w0 GN g.a (frOf zs) (T2.hd++(gits (T2.gs.eraseIdx k)++(.blk HB 34 #[.int .u8 H.tos,.int .u16 H.id,.bool H.df,.bool H.mf,.int .i64 H.off,.int .u8 H.ttl,.int .u8 H.proto,.int .u32 H.src,.int .u32 H.dst,.slice oA on oc]::R)))) by
  have h1:=add_any g (frOf zs) oA on oc (cutA A c fr) (tt - fr) (c - fr) (hs.perm (TM.add_its FF.out.at_ _ _)) (FF.out.inv.ok g (List.mem_of_getElem? FF.out.at_)) (frOf_ok HF.out HZ.out) (fun W hS=>by
   have:=(RDD.out W hS.right.right.tail).mid (lo:=fr) (hi:=tt) r3 r4 hnc
   unfold frOf
   rw [HFT.out.1,HFT.out.2]
   exact this)
  rw [HGN.out] at h1
  have e1 : (frOf zs).h=H:=HHE.out.symm
  rw [e1,HSA.out] at h1
  exact h1))
 have q1 : tt<=c:=by omega
 go_cut [63] (fun s63 wx=>∃ (b : Bool) (g' : GM),s63 = .bool (!b)∧g'.N=g.N∧ADDED g.a (frOf zs) b g'.a∧SP w0 wx (g'.its++(T2.hd++(gits (T2.gs.eraseIdx k)++(.blk HB 34 #[.int .u8 H.tos,.int .u16 H.id,.bool H.df,.bool H.mf,.int .i64 H.off,.int .u8 H.ttl,.int .u8 H.proto,.int .u32 H.src,.int .u32 H.dst,.slice oA on oc]::R)))))
 case first =>
  have ZD:=Lib.hid X5.out.drew
  refine wp_region_noPanic ?_
  refine wp_region_held_drew (S:=fun W'=>W'.cell? ⟨GN,6,none⟩=some (.bool false)∧BLOCK W' HB 34 #[.int .u8 H.tos,.int .u16 H.id,.bool H.df,.bool H.mf,.int .i64 H.off,.int .u8 H.ttl,.int .u8 H.proto,.int .u32 H.src,.int .u32 H.dst,.slice oA on oc]) (by kernel_rfl) (by exact KS.out _ ZD.out) (fun hHeld=>?_)
  generalize w7.drew=v1 at ZD hHeld ⊢
  refine' tk (i:=0) rfl ?U8 ?V8
  case U8=>intro w' hSw;obtain ⟨hs1,hs2⟩:=hSw;go_simp;try (with_reducible rfl)
  try simp only [Act.put,jA,jB,jC]
  refine' tk (i:=1) rfl ?U9 ?V9
  case U9=>intro w' hSw;obtain ⟨hs1,hs2⟩:=hSw;go_simp;try (with_reducible rfl)
  try simp only [Act.put,jA,jB,jC]
  refine' tk (i:=2) rfl ?U10 ?V10
  case U10=>intro w' hSw;obtain ⟨hs1,hs2⟩:=hSw;go_simp;try (with_reducible rfl)
  try simp only [Act.put,jA,jB,jC]
  refine' tk (i:=3) rfl ?U11 ?V11
  case U11=>intro w' hSw;obtain ⟨hs1,hs2⟩:=hSw;go_simp;try (with_reducible rfl)
  try simp only [Act.put,jA,jB,jC]
  refine' tk (i:=4) rfl ?U12 ?V12
  case U12=>intro w' hSw;obtain ⟨hs1,hs2⟩:=hSw;go_simp;try (with_reducible rfl)
  try simp only [Act.put,jA,jB,jC]
  refine' tk (i:=5) rfl ?U13 ?V13
  case U13=>intro w' hSw;obtain ⟨hs1,hs2⟩:=hSw;go_simp;try (with_reducible rfl)
  try simp only [Act.put,jA,jB,jC]
  refine' tk (i:=6) rfl ?U14 ?V14
  case U14=>intro w' hSw;obtain ⟨hs1,hs2⟩:=hSw;go_simp;try (with_reducible rfl)
  try simp only [Act.put,jA,jB,jC]
  refine' take_lit (i:=7) (v:=.agg (#[.int .u8 H.tos,.int .u16 H.id,.bool H.df,.bool H.mf,.int .i64 H.off,.int .u8 H.ttl,.int .u8 H.proto,.int .u32 H.src,.int .u32 H.dst,.slice oA on oc])) rfl (by kernel_rfl) (by kernel_rfl) (by kernel_rfl) (fun _ _ _ h=>h) (Or.inl ⟨by rfl,?yy15⟩) (by assumption) ?rr15
  case yy15=>intro w' hSw;exact exec_load_row 34 _ rfl HB rfl 34 (#[.int .u8 H.tos,.int .u16 H.id,.bool H.df,.bool H.mf,.int .i64 H.off,.int .u8 H.ttl,.int .u8 H.proto,.int .u32 H.src,.int .u32 H.dst,.slice oA on oc]) (0,0) _ (hSw.2) Tryz.underlying34 rfl (by kernel_rfl)
  try simp only [Act.put,jA,jB,jC]
  refine' tk (i:=8) rfl ?U16 ?V16
  case U16=>intro w' hSw;obtain ⟨hs1,hs2⟩:=hSw;go_simp;try (with_reducible rfl)
  try simp only [Act.put,jA,jB,jC]
  refine' tk (i:=9) rfl ?U17 ?V17
  case U17=>intro w' hSw;obtain ⟨hs1,hs2⟩:=hSw;go_simp;try (with_reducible rfl)
  try simp only [Act.put,jA,jB,jC]
  refine' tk (i:=10) rfl ?U18 ?V18
  case U18=>intro w' hSw;obtain ⟨hs1,hs2⟩:=hSw;go_simp;try (with_reducible rfl)
  try simp only [Act.put,jA,jB,jC]
  refine' tk (i:=11) rfl ?U19 ?V19
  case U19=>intro w' hSw;obtain ⟨hs1,hs2⟩:=hSw;go_simp;try (with_reducible rfl)
  try simp only [Act.put,jA,jB,jC]
  refine rdy [12] ?_
  refine cons_lit rfl (fun K hK=>?ss12x20) AllReadyH.nil
  case ss12x20 =>
   go_simp
   refine (HADD.out v1 ZD.out).mono ?_
   rintro e v2 ⟨b,g',rfl,hN,hA,hS⟩
   have KS2:=Lib.hid (show v2.cell? ⟨GN,6,none⟩=some (.bool false)∧BLOCK v2 HB 34 #[.int .u8 H.tos,.int .u16 H.id,.bool H.df,.bool H.mf,.int .i64 H.off,.int .u8 H.ttl,.int .u8 H.proto,.int .u32 H.src,.int .u32 H.dst,.slice oA on oc] from ⟨by
    have h1 : v2.cell? ⟨g'.N,6,none⟩=some (.bool g'.q.dead):=(hS.blk 0 rfl).cell 6
    rw [hN] at h1
    have h2:=(added_like (FF.out.inv.ok g (List.mem_of_getElem? FF.out.at_)) (frOf_ok HF.out HZ.out) hA (hN.trans HGN.out.symm)).2.1
    rw [HDD.out] at h2
    rw [h1,h2],hS.right.right.right.blk 0 rfl⟩)
   have Y1:=Lib.hid (And.intro (hN.trans HGN.out.symm) (And.intro hA hS))
   clear hN hA hS ZD
   try simp only [Oper.upon_returned]
   refine hK.out _ _ (by exact KS2.out) (fun hHeld=>?_)
   clear hK K
   try simp only [Act.put,jA,jB,jC]
   refine' tk (i:=13) rfl ?U21 ?V21
   case U21=>intro w' hSw;obtain ⟨hs1,hs2⟩:=hSw;go_simp;try (with_reducible rfl)
   try simp only [Act.put,jA,jB,jC]
   refine' tk (i:=14) rfl ?U22 ?V22
   case U22=>intro w' hSw;obtain ⟨hs1,hs2⟩:=hSw;go_simp;try (with_reducible rfl)
   try simp only [Act.put,jA,jB,jC]
   refine wpAnyH_done (by kernel_rfl) ?_ _
   refine NoPanic.normal ?_
   go_wp2_with fail
   go_meet
   exact ⟨b,g',rfl,Y1.out.1,Y1.out.2.1,Y1.out.2.2⟩
 case rest =>
 obtain ⟨b,g',rfl,hN,hA,hS⟩:=hcut
 obtain ⟨w8,rfl⟩ : ∃ w8 : World,w8=wc:=⟨_,rfl⟩
 obtain ⟨hlk,hdd',hok'⟩:=added_like (FF.out.inv.ok g (List.mem_of_getElem? FF.out.at_)) (frOf_ok HF.out HZ.out) hA hN
 rw [HDD.out] at hdd'
 have HAD:=Lib.hid hA
 have HLK:=Lib.hid hlk
 have HGD:=Lib.hid hdd'
 have HOK:=Lib.hid hok'
 have X6:=Lib.hid hS
 have hGN : g'.N=GN:=hN.trans HGN.out
 have y6 : w8.cell? ⟨GN,6,none⟩=some (.bool false):=by rw [<- hGN,<- hdd'];exact (hS.blk 0 rfl).cell 6
 have y17 : w8.cell? ⟨GN,17,none⟩=some (.slice g'.pA g'.pn g'.pc):=by rw [<- hGN];exact (hS.blk 0 rfl).cell 17
 have z6 : w8.frozen? ⟨GN,6,none⟩=false:=by rw [<- hGN];exact hS.free 0 rfl 6
 have z17 : w8.frozen? ⟨GN,17,none⟩=false:=by rw [<- hGN];exact hS.free 0 rfl 17
 have HG':=Lib.hid hGN
 clear hA hlk hdd' hok' hS hN X5 KS HADD hGN
 cases b
 case false =>
  have X7:=Lib.hid (kill_sp X6.out)
  rw [HG'.out] at X7
  have HNO : addG g.a (frOf zs)=none:=by
   rcases HAD.out with ⟨_,h⟩ | ⟨h,_⟩
   ·cases h
   ·exact h
  have HNN:=Lib.hid HNO
  clear HNO X6 HAD
  go_upto_region 14 with fail
  generalize (w8.setCell ⟨GN,6,none⟩ (.bool true)).setCell ⟨GN,17,none⟩ (.slice none 0 0)=w9 at X7 ⊢
  clear y6 y17 z6 z17
  have y6 : w9.cell? ⟨GN,6,none⟩=some (.bool true):=by rw [<- HG'.out];exact (X7.out.blk 0 rfl).cell 6
  go_wp2_with fail
  go_ret2
  have F':=FF.out
  rw [HHE.out] at F'
  have hlk2:=HLK.out.trans (kill_like g')
  refine putd_nil HLT.out HF.out HNW.out HT1.out.1 F' (by rw [HT1.out.2.1,HTB.out]) 71 (addA_none F'.at_ HDD.out HNN.out (g':=g'.kill) (kill_abs HLK.out)) rfl rfl rfl rfl (F'.inv.put F'.at_ hlk2 (kill_ok HOK.out)) (F'.dead.put (fun _=>rfl)) ?_
  exact (X7.out.perm (TM.put_its F'.at_ hlk2 _).symm).sub ((List.sublist_cons_self _ _).append_left _)
 case true =>
 have HSO : addG g.a (frOf zs)=some g'.a:=by
  rcases HAD.out with ⟨h,_⟩ | ⟨_,h,_⟩
  ·exact h
  ·cases h
 have HSS:=Lib.hid HSO
 have HCM:=Lib.hid (complete_any X6.out HOK.out)
 rw [HG'.out] at HCM
 obtain ⟨dn,hdn⟩ : ∃ b,doneG g'.a=b:=⟨_,rfl⟩
 have HDN:=Lib.hid hdn
 rw [hdn] at HCM
 clear HSO HAD y17 z6 z17 hdn
 go_wp2_with fail
 refine HCM.out.mono ?_
 rintro e w9 ⟨rfl,hS⟩
 have X7:=Lib.hid hS
 clear hS y6 HCM X6
 cases dn
 case false =>
  go_wp2_with fail
  go_ret2
  have F':=FF.out
  rw [HHE.out] at F'
  refine putd_nil HLT.out HF.out HNW.out HT1.out.1 F' (by rw [HT1.out.2.1,HTB.out]) 0 (addA_more F'.at_ HDD.out HGD.out HSS.out HDN.out) rfl rfl rfl rfl (F'.inv.put F'.at_ HLK.out HOK.out) (F'.dead.put (fun h=>by rw [HGD.out] at h;cases h)) ?_
  exact (X7.out.perm (TM.put_its F'.at_ HLK.out _).symm).sub ((List.sublist_cons_self _ _).append_left _)
 case true =>
 have hlk:=HLK.out
 have hat:=FF.out.at_
 have X8:=Lib.hid (X7.out.perm (TM.put_its hat hlk _).symm)
 have hTB : (T2.put k g').TB=TB:=by show T2.TB=TB;rw [FF.out.tb,HT1.out.2.1]
 have ecut : (T2.put k g').cut k=T2.cut k:=by
  unfold TM.cut TM.put
  simp only
  rw [List.eraseIdx_set_eq]
 have HFG:=Lib.hid (show Calls Tryz.prog 40 #[.pointer (some ⟨TB,0,none⟩),.pointer (some ⟨GN,0,none⟩)] w9 (fun e w'=>e = .returned (.tuple #[])∧SP w0 w' ((T2.cut k).its++(g'.its++(.blk HB 34 #[.int .u8 H.tos,.int .u16 H.id,.bool H.df,.bool H.mf,.int .i64 H.off,.int .u8 H.ttl,.int .u8 H.proto,.int .u32 H.src,.int .u32 H.dst,.slice oA on oc]::R)))) by
  rw [<- hTB,<- ecut,<- HG'.out]
  exact forget_any (T2.put k g') k g' X8.out (FF.out.inv.put hat hlk HOK.out) (TM.put_at hat g'))
 clear X7 hlk hat hTB ecut
 go_wp2_with fail
 refine HFG.out.mono ?_
 rintro e w10 ⟨rfl,hS⟩
 have X9:=Lib.hid hS
 clear hS HFG X8
 have hdn:=HDN.out
 unfold doneG at hdn
 simp only [Bool.and_eq_true,decide_eq_true_eq] at hdn
 have htot:=HOK.out.tot
 replace htot : -1<=g'.q.total∧g'.q.total<=65515:=htot
 replace hdn : 0<=g'.q.total∧(bytesP g'.a.ps : Int)=g'.q.total:=hdn
 obtain ⟨N,hN⟩ : ∃ N : Nat,g'.q.total=(N : Int):=⟨g'.q.total.toNat,by omega⟩
 rw [hN] at htot hdn
 have hN65 : N<=65515:=by omega
 have HNT:=Lib.hid hN
 have HBY:=Lib.hid hdn.2
 have hp:=parts_of_row (X9.out.right.row 1 rfl)
 have hpl:=hp.1
 have hpn : g'.pn<=100000:=(gm_facts X9.out.right HOK.out).pn
 have x5 : w10.cell? ⟨GN,5,none⟩=some (.int .i64 (N : Int)):=by rw [<- HG'.out,<- hN];exact X9.out.right.cell 0 rfl 5 rfl
 have x17 : w10.cell? ⟨GN,17,none⟩=some (.slice g'.pA g'.pn g'.pc):=by rw [<- HG'.out];exact X9.out.right.cell 0 rfl 17 rfl
 have HP:=Lib.hid hp
 obtain ⟨i0,hi0,hz0,hz1,hz2⟩:=info_parts infoU8
 have hsz1 : (Tryz.prog.info? 5).map (·.size)=some 1:=by rw [hi0];simp [hz1]
 obtain ⟨w11,hrun,own7,hb7,hs7⟩:=run_make_cap (P:=Tryz.prog) (k:=.u8) w10 22 i0 Tryz.underlying22 hi0 hz0 hz1 (by omega) (N : Int) (N : Int) N N rfl rfl (Nat.le_refl _) (by omega)
 obtain ⟨DB,hDB⟩ : ∃ b,w10.heap.size=b:=⟨_,rfl⟩
 have HDB:=Lib.hid hDB
 rw [hDB] at hrun
 clear hdn hN hp hDB
 go_upto_region 20 with fail
 clear hrun x5
 have X10:=Lib.hid (X9.out.next hb7)
 obtain ⟨pA,hpA⟩ : ∃ a,g'.pA=a:=⟨_,rfl⟩
 obtain ⟨pn,hpn'⟩ : ∃ a,g'.pn=a:=⟨_,rfl⟩
 obtain ⟨pc,hpc⟩ : ∃ a,g'.pc=a:=⟨_,rfl⟩
 rw [hpA,hpn',hpc] at x17
 rw [hpA,hpn'] at HP
 rw [hpn'] at hpn hpl
 have y17 : w11.cell? ⟨GN,17,none⟩=some (.slice pA pn pc):=by
  rw [<- hpA,<- hpn',<- hpc,<- HG'.out];exact X10.out.right.cell 0 rfl 17 rfl
 have HOLD:=Lib.hid (show Below DB w10 w11∧OWN .u8 5 w11 DB (some ⟨DB,0,none⟩) N N (asmK N g'.ps 0) by rw [asmK_zero,<- HDB.out];exact ⟨hb7,own7⟩)
 have hin : ∀ p ∈ g'.ps,pe p.a<=N:=fun p hm=>by
  have:=HOK.out.in_ (by show (0 : Int)<=g'.q.total;rw [HNT.out];omega) p.a (List.mem_map_of_mem hm)
  replace this : (pe p.a : Int)<=g'.q.total:=this
  rw [HNT.out] at this;omega
 have HIN:=Lib.hid hin
 have HPL:=Lib.hid hpl
 clear hpA hpn' hpc x17 own7 hb7 hs7 hin X10
 go_upto_region 21 with fail
 go_loopw [90] (fun s90 wr=>∃ j : Nat,j<=pn∧s90 = .int .i64 (j : Int)∧Below DB w10 wr∧OWN .u8 5 wr DB (some ⟨DB,0,none⟩) N N (asmK N g'.ps j)) (fun s90 _=>pn - (intOf s90).toNat)
 case atStart=>exact ⟨0,by omega,rfl,HOLD.out.1,HOLD.out.2⟩
 case round =>
  obtain ⟨j,hj,rfl,hbw,how⟩:=hrel
  have HB2:=Lib.hid (And.intro hbw how)
  clear hbw how HOLD y17
  have hdb : DB<=wr.heap.size:=by have:=HB2.out.1.size;rw [HDB.out] at this;exact this
  by_cases hlt : j < pn
  ·have t1 : (j : Int) < (pn : Int):=by omega
   have t0 : (0 : Int)<=(j : Int):=by omega
   obtain ⟨q,hq⟩ : ∃ q,g'.ps[j]?.getD PM0=q:=⟨_,rfl⟩
   have hqg : g'.ps[j]?=some q:=by rw [<- hq,List.getElem?_eq_getElem (by omega)];rfl
   have hqm : q ∈ g'.ps:=List.mem_of_getElem? hqg
   obtain ⟨gp,off,rfl,hgp,hcells⟩:=(HP.out.below (by rw [HDB.out];exact HB2.out.1)).2 (by omega)
   obtain ⟨x1,x2⟩:=hcells j hlt
   rw [hq] at x1 x2
   have hqN:=HIN.out q hqm
   replace hqN : q.b + q.d.length<=N:=hqN
   have hqd : q.d.length=q.n:=gm_len X9.out.right q hqm
   have hq0 : 0 < q.d.length:=HOK.out.ps.ne q.a (List.mem_map_of_mem hqm)
   have HRD:=Lib.hid (show RD .u8 w10 w10.heap.size q.A q.n q.d from (show OWN .u8 5 w10 w0.heap.size q.A q.n q.c q.d from X9.out.mem q.it (by unfold GM.its;simp only [List.mem_append,List.mem_cons,List.mem_map];exact .inr (.inl (.inr (.inr (.inr ⟨q,hqm,rfl⟩)))))).rd)
   have HQ:=Lib.hid (And.intro hqg hqd)
   obtain ⟨qb,hqb⟩ : ∃ a,q.b=a:=⟨_,rfl⟩
   obtain ⟨qA,hqA⟩ : ∃ a,q.A=a:=⟨_,rfl⟩
   obtain ⟨qn,hqn⟩ : ∃ a,q.n=a:=⟨_,rfl⟩
   obtain ⟨qc,hqc⟩ : ∃ a,q.c=a:=⟨_,rfl⟩
   have HQB:=Lib.hid hqb
   rw [hqb,] at x1 hqN
   rw [hqA,hqn,hqc] at x2
   rw [hqn] at hqd
   rw [hqA,hqn] at HRD
   rw [hqd] at hqN hq0
   clear hcells hq hqg hqb hqA hqn hqc
   obtain ⟨QB,hQB⟩ : ∃ b,b=wr.heap.size:=⟨_,rfl⟩
   have hblk:=BLOCK.new' wr 92 #[.int .i64 (qb : Int),.slice qA qn qc] hQB.symm
   have hbl2 : Below DB w10 (wr.alloc (.cells #[.int .i64 (qb : Int),.slice qA qn qc] 92)):=HB2.out.1.alloc hdb _
   have hqd2 : QB≠DB:=by
    have:=(HB2.out.2.form (by omega))
    obtain ⟨g9,h9,h10,_⟩:=this
    simp at h9
    omega
   have HQD:=Lib.hid hqd2
   have how2 : OWN .u8 5 (wr.alloc (.cells #[.int .i64 (qb : Int),.slice qA qn qc] 92)) DB (some ⟨DB,0,none⟩) N N (asmK N g'.ps j):=HB2.out.2.alloc _
   have HB3:=Lib.hid (And.intro hbl2 how2)
   have HBLK:=Lib.hid hblk
   clear hbl2 how2 hblk HB2 hqd2
   go_upto_region 23 with fail
   rw [<- hQB]
   generalize wr.alloc (.cells #[.int .i64 (qb : Int),.slice qA qn qc] 92)=v0 at HB3 HBLK ⊢
   clear x1 x2 hQB
   have qlt : qb < N:=by omega
   have qle : qn<=N - qb:=by omega
   have q2 : qb<=N:=by omega
   have qi : (qb : Int) < (N : Int):=by omega
   obtain ⟨QA,hQA⟩ : ∃ QA,(if N=qb then some ⟨DB,0,none⟩ else some (⟨DB,qb,none⟩ : Addr))=QA:=⟨_,rfl⟩
   have HQA:=Lib.hid (show QA=cutA (some ⟨DB,0,none⟩) N qb by rw [<- hQA];unfold cutA;split <;> first | rfl | simp [Addr.add])
   refine wp_region_noPanic ?_
   refine wp_region_held_drew (S:=fun W'=>W'.cell? ⟨QB,0,none⟩=some (.int .i64 (qb : Int))∧W'.cell? ⟨QB,1,none⟩=some (.slice qA qn qc)) (by kernel_rfl) (by exact ⟨HBLK.out.cell 0,HBLK.out.cell 1⟩) (fun hHeld=>?_)
   have HB4:=Lib.hid (show Below DB w10 v0.drew∧OWN .u8 5 v0.drew DB (some ⟨DB,0,none⟩) N N (asmK N g'.ps j) from ⟨HB3.out.1.drew,HB3.out.2.drew⟩)
   generalize v0.drew=v1 at HB4 hHeld ⊢
   refine' tk (i:=0) rfl ?U23 ?V23
   case U23=>intro w' hSw;obtain ⟨hs1,hs2⟩:=hSw;go_simp;try (with_reducible rfl)
   try simp only [Act.put,jA,jB,jC]
   refine' tk (i:=1) rfl ?U24 ?V24
   case U24=>intro w' hSw;obtain ⟨hs1,hs2⟩:=hSw;go_simp;try (with_reducible rfl)
   try simp only [Act.put,jA,jB,jC]
   refine' tk (i:=2) rfl ?U25 ?V25
   case U25=>intro w' hSw;obtain ⟨hs1,hs2⟩:=hSw;go_simp;try (with_reducible rfl)
   try simp only [Act.put,jA,jB,jC]
   refine' tk (i:=3) rfl ?U26 ?V26
   case U26=>intro w' hSw;obtain ⟨hs1,hs2⟩:=hSw;go_simp;try (with_reducible rfl)
   try simp only [Act.put,jA,jB,jC]
   refine' tk (i:=4) rfl ?U27 ?V27
   case U27=>intro w' hSw;obtain ⟨hs1,hs2⟩:=hSw;go_simp;try (with_reducible rfl)
   try simp only [Act.put,jA,jB,jC]
   refine' tk (i:=5) rfl ?U28 ?V28
   case U28=>intro w' hSw;obtain ⟨hs1,hs2⟩:=hSw;go_simp;try (with_reducible rfl)
   try simp only [Act.put,jA,jB,jC]
   refine rdy [6] ?_
   refine cons_lit rfl (fun K hK=>?ss6x29) AllReadyH.nil
   case ss6x29 =>
    refine step_copy_exc (by rfl) _ _ 22 22 (by rfl) Tryz.underlying22 hsz1 HB4.out.2 (lo:=qb) (by omega) (by rw [<- HQA.out];rfl) (by rfl) (by rfl) ((HRD.out.below (by rw [HDB.out];exact HB4.out.1)).more (Nat.le_refl _)) (show qn<=N - qb by omega) (show 0 < qn by omega) ?_
    intro v2 own8 hb8 hx8
    have HB5:=Lib.hid (And.intro (HB4.out.1.trans (hb8.mono (Nat.le_refl _))) own8)
    have KS2:=Lib.hid (show v2.cell? ⟨QB,0,none⟩=some (.int .i64 (qb : Int))∧v2.cell? ⟨QB,1,none⟩=some (.slice qA qn qc) from ⟨(World.cell?_of_block (hx8 QB HQD.out)).trans hHeld.1,(World.cell?_of_block (hx8 QB HQD.out)).trans hHeld.2⟩)
    clear own8 hb8 hx8
    refine hK.out _ _ (by exact KS2.out) (fun hHeld=>?_)
    clear hK K
    try simp only [Act.put,jA,jB,jC]
    refine wpAnyH_done (by kernel_rfl) ?_ _
    refine NoPanic.normal ?_
    have e6 : IntKind.i64.wrap ((j : Int) + 1)=(j : Int) + 1:=IntWalk.i64_in _ (by omega)
    go_wp2_with fail
    go_roundw
    case rel =>
     refine ⟨j + 1,by omega,by go_num,HB5.out.1,?_⟩
     rw [asmK_next HQ.out.1 HIN.out,HQB.out]
     exact HB5.out.2
    case measure=>simp [intOf];omega
  ·have t1 : ¬ (j : Int) < (pn : Int):=by omega
   obtain rfl : j=pn:=by omega
   have X11:=Lib.hid (X9.out.next (by rw [HDB.out];exact HB2.out.1))
   have HM:=Lib.hid ((X11.out.right.blk 0 rfl).range 7 10)
   rw [HG'.out] at HM
   have HBK:=Lib.hid (X11.out.right.blk 0 rfl)
   have how:=HB2.out.2
   rw [<- HPL.out,asmK_all] at how
   have HW:=Lib.hid (write_any g'.q.h g'.oA g'.on g'.oc g'.q.o (some ⟨DB,0,none⟩) N N (asmP N g'.a.ps) wr HOK.out.hd (X11.out.right.rd 2 rfl) HOK.out.op.1 how.rd (by have h1:=HOK.out.op.2;have h2:=(X11.out.right.own 2 rfl).len;show g'.on<=_;rw [<- h2];show g'.q.o.length<=_;have h3 : g'.q.o.length<=40:=h1;omega) (by omega))
   unfold HD.val HD.cells at HW
   have HRI:=Lib.hid (show Rightly g'.q.h.off g'.q.h.mf g'.on N by
    have h1:=(addG_some HSS.out).2.2
    unfold okG at h1
    rw [HDN.out] at h1
    have h2a : rightB g'.a.h.off g'.a.h.mf g'.a.o.length g'.a.total=true:=by simpa using h1
    have h2 : rightB g'.q.h.off g'.q.h.mf g'.q.o.length g'.q.total=true:=h2a
    rw [HNT.out,(X11.out.right.own 2 rfl).len] at h2
    exact rightB_iff.1 h2)
   have HLO:=Lib.hid (X11.out.right.own 2 rfl).len
   have HLD:=Lib.hid (show (asmP N g'.a.ps).length=N from how.len)
   clear how
   go_upto_region 25 with fail
   go_wp2_with (refine wpList_load_mid rfl 34 _ rfl GN 7 rfl (g'.q.h.cells (.slice g'.oA g'.on g'.oc)).toList _ HM.out Tryz.underlying34 rfl (by kernel_rfl) ?_)
   refine HW.out.mono ?_
   rintro e w12 ⟨A6,n6,c6,rfl,ho,hb⟩
   have eE : wrE g'.q.h g'.on N=0:=by unfold wrE;rw [if_pos HRI.out]
   have eB : wrB g'.q.h g'.q.o (asmP N g'.a.ps)=pktB g'.q.h g'.q.o (asmP N g'.a.ps):=by unfold wrB;rw [HLO.out,HLD.out,if_pos HRI.out]
   rw [eE]
   rw [eB] at ho
   have X12:=Lib.hid (X11.out.pushOwn hb ho)
   clear ho hb eE eB
   go_wp2_with fail
   go_ret2
   have F':=FF.out
   rw [HHE.out] at F'
   have hak:=addA_done F'.at_ HDD.out HSS.out HDN.out
   have e1 : g'.a.total.toNat=N:=by show g'.q.total.toNat=N;rw [HNT.out];rfl
   rw [e1] at hak
   refine putd_new HLT.out HF.out HNW.out HT1.out.1 F' (by rw [HT1.out.2.1,HTB.out]) 0 _ hak rfl rfl rfl rfl (F'.inv.cut (List.getElem?_eq_some_iff.1 F'.at_).1) (F'.dead.sub (List.eraseIdx_sublist _ _)) A6 n6 c6 ?_
   have Y:=(SP.rot (L:=_++_) X12.out).sub (List.Sublist.cons_cons _ (List.Sublist.append_left ((List.sublist_cons_self _ _).trans (List.sublist_append_right _ _)) _))
   exact Y
end Go.Proofs.YtljbfnabnkkfeaaGreat
