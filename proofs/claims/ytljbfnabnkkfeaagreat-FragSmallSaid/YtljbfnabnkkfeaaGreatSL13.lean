import Derived.Test.YtljbfnabnkkfeaaGreatSL12
set_option linter.unusedVariables false
set_option linter.unusedSimpArgs false
/- Joined by program: FgQ, FgQT, FgW, FgQU, FgQM. -/
namespace Go.Proofs.YtljbfnabnkkfeaaGreat
open Go.RowKit
def totF (l : List FR) : Int × Nat:=l.foldl (fun s f=>if f.h.mf then s else ((f.e : Int),s.2 + 1)) (-1,0)
def sizeF (l : List FR) : Nat:=(l.map (fun f=>f.d.length)).sum
def hitF (f g : FR) : Prop:=f.d≠[]∧g.d≠[]∧g.b < f.e∧f.b < g.e
instance (f g : FR) : Decidable (hitF f g):=by unfold hitF;infer_instance
def BEYOND (n : Int) (f : FR) : Prop:=0<=n∧f.d≠[]∧n < (f.e : Int)
instance (n : Int) (f : FR) : Decidable (BEYOND n f):=by unfold BEYOND;infer_instance
structure GOODF (l : List FR) : Prop where
 one : (totF l).2<=1
 in_ : ∀ f ∈ l,¬ BEYOND (totF l).1 f
 pw : l.Pairwise (fun g f=>¬ hitF f g)
instance (l : List FR) : Decidable (GOODF l):=decidable_of_iff ((totF l).2<=1∧(∀ f ∈ l,¬ BEYOND (totF l).1 f)∧l.Pairwise (fun g f=>¬ hitF f g)) ⟨fun h=>⟨h.1,h.2.1,h.2.2⟩,fun h=>⟨h.one,h.in_,h.pw⟩⟩
def psN (l : List FR) : List (Nat × List Int):=(l.filter (fun f=>!f.d.isEmpty)).map (fun f=>(f.b,f.d))
theorem totF_snoc (l : List FR) (f : FR) : totF (l++[f])=if f.h.mf then totF l else ((f.e : Int),(totF l).2 + 1):=by
 unfold totF;rw [List.foldl_append];rfl
theorem totF_go : ∀ (l : List FR) (s : Int × Nat),(-1<=s.1∧(s.2=0 ↔ s.1 = -1))->(-1<=(l.foldl (fun s f=>if f.h.mf then s else ((f.e : Int),s.2 + 1)) s).1∧((l.foldl (fun s f=>if f.h.mf then s else ((f.e : Int),s.2 + 1)) s).2=0 ↔ (l.foldl (fun s f=>if f.h.mf then s else ((f.e : Int),s.2 + 1)) s).1 = -1))
 | [],s,h=>h
 | f::l,s,h=>by
   rw [List.foldl_cons]
   apply totF_go l
   split
   ·exact h
   ·dsimp only
    constructor
    ·omega
    ·constructor
     ·intro h2;omega
     ·intro h2;omega
theorem totF_none (l : List FR) : -1<=(totF l).1∧((totF l).2=0 ↔ (totF l).1 = -1):=totF_go l (-1,0) ⟨by simp,by simp⟩
theorem sizeF_snoc (l : List FR) (f : FR) : sizeF (l++[f])=sizeF l + f.d.length:=by simp [sizeF]
theorem psN_snoc (l : List FR) (f : FR) : psN (l++[f])=if f.d=[] then psN l else psN l++[(f.b,f.d)]:=by
 unfold psN
 rw [List.filter_append,List.map_append]
 cases h : f.d with
 | nil=>simp [h]
 | cons a r=>simp [h]
theorem psN_size : ∀ (l : List FR),bytesP (psN l)=sizeF l
 | []=>rfl
 | f::l=>by
   have ih:=psN_size l
   unfold psN sizeF at *
   cases h : f.d with
   | nil=>simp [h] at ih ⊢;exact ih
   | cons a r=>simp [h,bytesP_cons] at ih ⊢;omega
theorem psN_mem {l : List FR} {p : Nat × List Int} : p ∈ psN l ↔ ∃ f ∈ l,f.d≠[]∧p=(f.b,f.d):=by
 unfold psN
 simp only [List.mem_map,List.mem_filter,Bool.not_eq_true',List.isEmpty_eq_false_iff]
 constructor
 ·rintro ⟨f,⟨h1,h2⟩,rfl⟩;exact ⟨f,h1,h2,rfl⟩
 ·rintro ⟨f,h1,h2,rfl⟩;exact ⟨f,⟨h1,h2⟩,rfl⟩
def PARTF (f : FR) : Prop:=¬ (f.h.mf=false∧f.b=0)
structure RE where
 src : Int
 dst : Int
 proto : Int
 id : Int
 begin_ : Int
 bytes : Nat
 dead : Bool
 fs : List FR
structure REL (g : AG) (e : RE) : Prop where
 src : g.src=e.src
 dst : g.dst=e.dst
 proto : g.proto=e.proto
 id : g.id=e.id
 beg : g.begin_=e.begin_
 dead : g.dead=e.dead
 bytes : bytesP g.ps=e.bytes
 dd : e.dead=true->e.fs=[]∧g=deadG g
 ok : ∀ f ∈ e.fs,FOK f
 part : ∀ f ∈ e.fs,PARTF f
 good : e.dead=false->GOODF e.fs
 ps : e.dead=false->g.ps=psN e.fs
 tot : e.dead=false->g.total=(totF e.fs).1
 hd : e.dead=false->∀ f ∈ e.fs,f.b=0->g.h={ f.h with mf:=false }∧g.o=f.o
def newE (now : Int) (h : HD) : RE:=⟨h.src,h.dst,h.proto,h.id,now,0,false,[]⟩
theorem rel_new (now : Int) (h : HD) : REL (newG now h) (newE now h) where
 src:=rfl
 dst:=rfl
 proto:=rfl
 id:=rfl
 beg:=rfl
 dead:=rfl
 bytes:=rfl
 dd:=fun h=>by simp [newE] at h
 ok:=fun f hf=>by cases hf
 part:=fun f hf=>by cases hf
 good:=fun _=>⟨by simp [newE,totF],fun f hf=>(by cases hf),List.Pairwise.nil⟩
 ps:=fun _=>rfl
 tot:=fun _=>rfl
 hd:=fun _ f hf=>by cases hf
theorem rel_dies {g : AG} {e : RE} {f : FR} (R : REL g e) (hd : e.dead=false) (hf : FOK f) : diesG g f=decide (¬ GOODF (e.fs++[f])):=by
 have G:=R.good hd
 have hN:=totF_none e.fs
 have hT:=R.tot hd
 have hp:=R.ps hd
 have h1:=G.one
 rw [Bool.eq_iff_iff,decide_eq_true_eq]
 have hmf : f.h.mf=true->f.d≠[]:=fun h=>List.length_pos_iff.1 (hf.mf h).1
 have key : diesG g f=false ↔ GOODF (e.fs++[f]):=by
  unfold diesG dies1
  rw [hT,hp]
  simp only [Bool.or_eq_false_iff,Bool.and_eq_false_iff,decide_eq_false_iff_not,Bool.not_eq_false',List.any_eq_false]
  constructor
  ·rintro ⟨⟨h2,h3⟩,h4⟩
   have h5 : ∀ q ∈ e.fs,q.d≠[] -> ¬ (q.b < f.e∧f.b < q.e)∧(f.h.mf=false->q.e<=f.e):=fun q hq hqd=>by
    have h6:=h4 (q.b,q.d) (psN_mem.2 ⟨q,hq,hqd,rfl⟩)
    unfold dies2 at h6
    have h7 : pe (q.b,q.d)=q.e:=rfl
    rw [h7] at h6
    simp only [Bool.or_eq_true,Bool.and_eq_true,decide_eq_true_eq,Bool.not_eq_true',not_or] at h6
    exact ⟨h6.1,fun hm=>by have:=h6.2;simp only [hm,true_and] at this;omega⟩
   refine ⟨?_,?_,List.pairwise_append.2 ⟨G.pw,List.pairwise_singleton _ _,fun q hq x hx=>?_⟩⟩
   ·rw [totF_snoc]
    split
    ·exact h1
    ·rename_i hm
     have : (totF e.fs).1 = -1:=by
      rcases h2 with h2 | h2
      ·exact absurd h2 hm
      ·omega
     have:=hN.2.2 this
     dsimp only;omega
   ·rw [totF_snoc]
    intro q hq
    rcases List.mem_append.1 hq with hq | hq
    ·split
     ·exact G.in_ q hq
     ·rename_i hm
      rintro ⟨h6,h7,h8⟩
      dsimp only at h8
      have:=(h5 q hq h7).2 (by simpa using hm)
      omega
    ·simp at hq;subst hq
     split
     ·rintro ⟨h6,h7,h8⟩
      rcases h3 with h3 | h3
      ·exact h3 h6
      ·exact h3 h8
     ·rintro ⟨h6,h7,h8⟩
      dsimp only at h8;omega
   ·simp at hx;subst hx
    rintro ⟨h6,h7,h8⟩
    exact (h5 q hq h7).1 h8
  ·intro H
   have hW:=List.pairwise_append.1 H.pw
   have hI:=H.in_
   have hO:=H.one
   rw [totF_snoc] at hI hO
   refine ⟨⟨?_,?_⟩,?_⟩
   ·by_cases hm : f.h.mf=true
    ·exact .inl hm
    ·right
     rw [if_neg hm] at hO
     dsimp only at hO
     have:=hN.2.1 (by omega)
     omega
   ·by_cases hm : f.h.mf=true
    ·rw [if_pos hm] at hI
     have:=hI f (by simp)
     by_cases h0 : 0<=(totF e.fs).1
     ·right;intro h8;exact this ⟨h0,hmf hm,h8⟩
     ·exact .inl h0
    ·left
     rw [if_neg hm] at hO
     dsimp only at hO
     have:=hN.2.1 (by omega)
     omega
   ·intro p hp2
    obtain ⟨q,hq,hqd,rfl⟩:=psN_mem.1 hp2
    have hl : 0 < q.d.length:=List.length_pos_iff.2 hqd
    unfold dies2
    have h7 : pe (q.b,q.d)=q.e:=rfl
    rw [h7]
    simp only [Bool.or_eq_true,Bool.and_eq_true,decide_eq_true_eq,Bool.not_eq_true',not_or]
    have hlast : f.h.mf=false->q.e<=f.e:=fun hm=>by
     rw [if_neg (by simp [hm])] at hI
     have:=hI q (by simp [hq])
     unfold BEYOND at this
     dsimp only at this
     by_cases h9 : q.e<=f.e
     ·exact h9
     ·exact absurd ⟨by omega,hqd,by omega⟩ this
    refine ⟨?_,?_⟩
    ·rintro ⟨h8,h9⟩
     by_cases hfd : f.d=[]
     ·have hm : f.h.mf=false:=by
       cases hm : f.h.mf
       ·rfl
       ·exact absurd hfd (hmf hm)
      have h10:=hlast hm
      have : f.e=f.b:=by unfold FR.e;rw [hfd];rfl
      omega
     ·exact hW.2.2 q hq f (by simp) ⟨hfd,hqd,h8,h9⟩
    ·rintro ⟨h8,h9⟩
     have:=hlast h8
     omega
 cases hq : diesG g f
 ·simp [key.1 hq]
 ·simp only [true_iff]
  intro h
  rw [key.2 h] at hq
  cases hq
structure ASM (ps : List (Nat × List Int)) (n : Nat) (data : List Int) : Prop where
 le : data.length<=n
 ps : ∀ p ∈ ps,(pe p<=data.length∧p.2=(data.drop p.1).take p.2.length)∨data.length<=p.1
structure FULL (ps : List (Nat × List Int)) (n : Nat) : Prop where
 ne : ∀ p ∈ ps,0 < p.2.length
 pw : ps.Pairwise apartP
 le : ∀ p ∈ ps,pe p<=n
 by_ : bytesP ps=n
section
variable {ps : List (Nat × List Int)} {n : Nat} {data : List Int} {p : Nat × List Int}
theorem asm_start (ps : List (Nat × List Int)) (n : Nat) : ASM ps n []:=⟨Nat.zero_le _,fun p _=>.inr (Nat.zero_le _)⟩
theorem FULL.cover (F : FULL ps n) {x : Nat} (hx : x < n) : ∃ p ∈ ps,p.1<=x∧x < pe p:=by
 have h1:=upsum_cov ps n F.le
 have h2:=upsum_full (cov_le F.pw) n (h1.trans F.by_) x hx
 refine Classical.byContradiction fun hn=>?_
 have : cov ps x=0:=cov_zero (fun p hp hc=>hn ⟨p,hp,hc⟩)
 omega
theorem ASM.next (A : ASM ps n data) (F : FULL ps n) (h : data.length < n) : ∃ p ∈ ps,p.1=data.length:=by
 obtain ⟨p,hp,h1,h2⟩:=F.cover h
 refine ⟨p,hp,?_⟩
 rcases A.ps p hp with ⟨h3,_⟩ | h3 <;> omega
theorem ASM.step (A : ASM ps n data) (F : FULL ps n) (hp : p ∈ ps) (hb : p.1=data.length) : ASM ps n (data++p.2):=by
 have hpe : pe p=data.length + p.2.length:=by unfold pe;omega
 refine ⟨?_,fun q hq=>?_⟩
 ·have:=F.le p hp;rw [List.length_append];omega
 ·rcases A.ps q hq with ⟨h1,h2⟩ | h1
  ·left
   refine ⟨by rw [List.length_append];omega,?_⟩
   unfold pe at h1
   rw [List.drop_append_of_le_length (by omega),List.take_append_of_le_length (by rw [List.length_drop];omega)]
   exact h2
  ·by_cases hqp : q=p
   ·subst hqp
    left
    refine ⟨by rw [List.length_append];omega,?_⟩
    rw [hb,List.drop_left,List.take_length]
   ·right
    have hap : apartP q p∨apartP p q:=by
     have:=F.pw
     rcases List.mem_iff_getElem.1 hq with ⟨i,hi,rfl⟩
     rcases List.mem_iff_getElem.1 hp with ⟨j,hj,rfl⟩
     rcases Nat.lt_trichotomy i j with h | h | h
     ·exact .inl (List.pairwise_iff_getElem.1 this i j hi hj h)
     ·subst h;exact absurd rfl hqp
     ·exact .inr (List.pairwise_iff_getElem.1 this j i hj hi h)
    have h3 : pe q<=p.1∨pe p<=q.1:=by
     rcases hap with h | h
     ·exact h
     ·exact h.symm
    rw [List.length_append]
    rcases h3 with h3 | h3
    ·have:=F.ne q hq
     unfold pe at h3;omega
    ·omega
theorem ASM.full (A : ASM ps n data) (F : FULL ps n) (h : data.length=n) : asmP n ps=data:=by
 subst h
 apply List.ext_getElem?
 intro x
 refine asm_get ps _ (List.length_replicate ..) (fun p hp=>?_) x ?_
 ·have hl:=F.le p hp
  refine ⟨hl,?_⟩
  rcases A.ps p hp with ⟨_,h2⟩ | h2
  ·exact h2
  ·have:=F.ne p hp
   unfold pe at hl;omega
 ·by_cases hx : x < data.length
  ·obtain ⟨p,hp,h1⟩:=F.cover hx
   exact .inr ⟨p,hp,h1⟩
  ·left
   rw [List.getElem?_eq_none (by rw [List.length_replicate];omega),List.getElem?_eq_none (by omega)]
end
def asmStep (s : List Int × HD × List Int) (f : FR) : List Int × HD × List Int :=
 if f.b=s.1.length∧f.d≠[] then (s.1++f.d,if s.1.length=0 then f.h else s.2.1,if s.1.length=0 then f.o else s.2.2) else s
structure ASMS (fs : List FR) (n : Nat) (s : List Int × HD × List Int) : Prop where
 a : ASM (psN fs) n s.1
 hd : s.1≠[]->∃ f ∈ fs,f.b=0∧s.2.1=f.h∧s.2.2=f.o
theorem asms_start (fs : List FR) (n : Nat) (h : HD) (o : List Int) : ASMS fs n ([],h,o):=⟨asm_start _ _,fun h=>absurd rfl h⟩
theorem ASMS.step {fs : List FR} {n : Nat} {s : List Int × HD × List Int} {f : FR} (A : ASMS fs n s) (F : FULL (psN fs) n) (hf : f ∈ fs) : ASMS fs n (asmStep s f):=by
 unfold asmStep
 split
 ·rename_i h
  obtain ⟨h1,h2⟩:=h
  refine ⟨A.a.step F (p:=(f.b,f.d)) (psN_mem.2 ⟨f,hf,h2,rfl⟩) h1,fun _=>?_⟩
  by_cases h0 : s.1.length=0
  ·exact ⟨f,hf,by omega,by dsimp only;rw [if_pos h0],by dsimp only;rw [if_pos h0]⟩
  ·obtain ⟨f0,h3,h4,h5,h6⟩:=A.hd (fun e=>h0 (by rw [e];rfl))
   exact ⟨f0,h3,h4,by dsimp only;rw [if_neg h0];exact h5,by dsimp only;rw [if_neg h0];exact h6⟩
 ·exact A
theorem asmStep_mono (s : List Int × HD × List Int) (f : FR) : s.1.length<=(asmStep s f).1.length:=by
 unfold asmStep;split
 ·simp
 ·exact Nat.le_refl _
theorem asmFold_mono : ∀ (l : List FR) (s : List Int × HD × List Int),s.1.length<=(l.foldl asmStep s).1.length
 | [],s=>Nat.le_refl _
 | f::l,s=>Nat.le_trans (asmStep_mono s f) (asmFold_mono l _)
theorem ASMS.fold {fs : List FR} {n : Nat} (F : FULL (psN fs) n) : ∀ (l : List FR),(∀ f ∈ l,f ∈ fs)->∀ s,ASMS fs n s->ASMS fs n (l.foldl asmStep s)
 | [],_,s,A=>A
 | f::l,h,s,A=>ASMS.fold F l (fun q hq=>h q (List.mem_cons_of_mem _ hq)) _ (A.step F (h f (by simp)))
theorem asmFold_grows : ∀ (l : List FR) (s : List Int × HD × List Int),(∃ f ∈ l,f.b=s.1.length∧f.d≠[])->s.1.length < (l.foldl asmStep s).1.length
 | [],s,h=>by obtain ⟨f,hf,_⟩:=h;cases hf
 | q::l,s,h=>by
   rw [List.foldl_cons]
   by_cases hq : q.b=s.1.length∧q.d≠[]
   ·have h1:=asmFold_mono l (asmStep s q)
    have h2 : s.1.length < (asmStep s q).1.length:=by
     unfold asmStep
     rw [if_pos hq]
     have:=List.length_pos_iff.2 hq.2
     simp only [List.length_append];omega
    omega
   ·have e : asmStep s q=s:=by unfold asmStep;rw [if_neg hq]
    rw [e]
    refine asmFold_grows l s ?_
    obtain ⟨f,hf,h1⟩:=h
    rcases List.mem_cons.1 hf with rfl | hf
    ·exact absurd h1 hq
    ·exact ⟨f,hf,h1⟩
theorem ASMS.grows {fs : List FR} {n : Nat} {s : List Int × HD × List Int} (A : ASMS fs n s) (F : FULL (psN fs) n) (h : s.1.length < n) : s.1.length < (fs.foldl asmStep s).1.length:=by
 obtain ⟨p,hp,h1⟩:=A.a.next F h
 obtain ⟨f,hf,h2,rfl⟩:=psN_mem.1 hp
 exact asmFold_grows fs s ⟨f,hf,h1,h2⟩
theorem totF_pos {l : List FR} (h : ∀ f ∈ l,PARTF f) (hf : ∀ f ∈ l,FOK f) : (totF l).1≠0:=by
 have go : ∀ (l : List FR) (s : Int × Nat),(∀ f ∈ l,PARTF f)->s.1≠0->(l.foldl (fun s f=>if f.h.mf then s else ((f.e : Int),s.2 + 1)) s).1≠0:=by
  intro l
  induction l with
  | nil=>intro s _ h;exact h
  | cons f l ih =>
    intro s h hs
    rw [List.foldl_cons]
    refine ih _ (fun q hq=>h q (List.mem_cons_of_mem _ hq)) ?_
    split
    ·exact hs
    ·rename_i hm
     have:=h f (by simp)
     unfold PARTF at this
     have h2 : f.b≠0:=fun hb=>this ⟨by simpa using hm,hb⟩
     unfold FR.e
     dsimp only;omega
 exact go l (-1,0) h (by simp)
theorem good_full {l : List FR} (G : GOODF l) (hn : (totF l).1=(sizeF l : Int)) : FULL (psN l) (sizeF l) where
 ne:=fun p hp=>by
  obtain ⟨f,hf,h1,rfl⟩:=psN_mem.1 hp
  exact List.length_pos_iff.2 h1
 pw:=by
  unfold psN
  rw [List.pairwise_map]
  have h1 : (l.filter (fun f=>!f.d.isEmpty)).Pairwise (fun g f=>¬ hitF f g):=G.pw.sublist List.filter_sublist
  refine (List.Pairwise.and_mem.1 h1).imp ?_
  rintro a b ⟨ha,hb,hab⟩
  have ha2:=(List.mem_filter.1 ha).2
  have hb2:=(List.mem_filter.1 hb).2
  simp only [Bool.not_eq_true',List.isEmpty_eq_false_iff] at ha2 hb2
  unfold hitF at hab
  have e1 : pe (a.b,a.d)=a.e:=rfl
  have e2 : pe (b.b,b.d)=b.e:=rfl
  unfold apartP
  rw [e1,e2]
  dsimp only
  by_cases h3 : a.b < b.e∧b.b < a.e
  ·exact absurd ⟨hb2,ha2,h3.1,h3.2⟩ hab
  ·omega
 le:=fun p hp=>by
  obtain ⟨f,hf,h1,rfl⟩:=psN_mem.1 hp
  have:=G.in_ f hf
  unfold BEYOND at this
  have e1 : pe (f.b,f.d)=f.e:=rfl
  rw [e1]
  by_cases h3 : f.e<=sizeF l
  ·exact h3
  ·exact absurd ⟨by omega,h1,by omega⟩ this
 by_:=psN_size l
def goE (e : RE) (f : FR) : RE:={ e with bytes:=sizeF (e.fs++[f]),fs:=e.fs++[f] }
theorem rel_put {g : AG} {e : RE} {f : FR} (R : REL g e) (hd : e.dead=false) (hf : FOK f) (hpt : PARTF f) (G : GOODF (e.fs++[f])) : REL (putG g f) (goE e f) where
 src:=R.src
 dst:=R.dst
 proto:=R.proto
 id:=R.id
 beg:=R.beg
 dead:=R.dead
 bytes:=by
  have h1 : (putG g f).ps=psN (e.fs++[f]):=by rw [psN_snoc];unfold putG;dsimp only;rw [R.ps hd]
  rw [h1,psN_size];rfl
 dd:=fun h=>by
  have : e.dead=true:=h
  rw [hd] at this;cases this
 ok:=fun q hq=>by
  rcases List.mem_append.1 hq with hq | hq
  ·exact R.ok q hq
  ·simp at hq;subst hq;exact hf
 part:=fun q hq=>by
  rcases List.mem_append.1 hq with hq | hq
  ·exact R.part q hq
  ·simp at hq;subst hq;exact hpt
 good:=fun _=>G
 ps:=fun _=>by
  show (putG g f).ps=psN (e.fs++[f])
  rw [psN_snoc];unfold putG;dsimp only;rw [R.ps hd]
 tot:=fun _=>by
  show (putG g f).total=(totF (e.fs++[f])).1
  rw [totF_snoc];unfold putG;dsimp only;rw [R.tot hd]
  split <;> rfl
 hd:=fun _ q hq hb=>by
  rcases List.mem_append.1 hq with hq | hq
  ·obtain ⟨h1,h2⟩:=R.hd hd q hq hb
   by_cases h0 : f.b=0
   ·have hne : ∀ x : FR,FOK x->PARTF x->x.b=0->x.d≠[]:=fun x hx hxp hx0=>by
     unfold PARTF at hxp
     cases hm : x.h.mf
     ·exact absurd ⟨hm,hx0⟩ hxp
     ·exact List.length_pos_iff.1 (hx.mf hm).1
    have n1:=hne f hf hpt h0
    have n2:=hne q (R.ok q hq) (R.part q hq) hb
    have l1:=List.length_pos_iff.2 n1
    have l2:=List.length_pos_iff.2 n2
    refine absurd ⟨n1,n2,?_,?_⟩ ((List.pairwise_append.1 G.pw).2.2 q hq f (by simp)) <;> (unfold FR.e;omega)
   ·unfold putG;dsimp only;rw [if_neg h0,if_neg h0];exact ⟨h1,h2⟩
  ·simp at hq;subst hq
   unfold putG;dsimp only;rw [if_pos hb,if_pos hb];exact ⟨rfl,rfl⟩
theorem rel_done {g : AG} {e : RE} (R : REL g e) (hd : e.dead=false) : doneG g=decide ((totF e.fs).1=(sizeF e.fs : Int)):=by
 unfold doneG
 rw [R.tot hd,R.ps hd,psN_size]
 by_cases h : (totF e.fs).1=(sizeF e.fs : Int)
 ·rw [h];simp
 ·rw [decide_eq_false h]
  simp only [Bool.and_eq_false_iff,decide_eq_false_iff_not]
  right;omega
end Go.Proofs.YtljbfnabnkkfeaaGreat
namespace Go.Proofs.YtljbfnabnkkfeaaGreat
open Go.RowKit
structure RT where
 limit : Int
 life : Int
 now : Int
 es : List RE
def RELS : List AG->List RE->Prop
 | [],[]=>True
 | g::gs,e::es=>REL g e∧RELS gs es
 | _,_=>False
theorem RELS.len : ∀ {gs : List AG} {es : List RE},RELS gs es->gs.length=es.length
 | [],[],_=>rfl
 | g::gs,e::es,h=>by simp [RELS.len h.2]
 | [],e::es,h=>h.elim
 | g::gs,[],h=>h.elim
theorem RELS.get : ∀ {gs : List AG} {es : List RE},RELS gs es->∀ {k : Nat} {g : AG} {e : RE},gs[k]?=some g->es[k]?=some e->REL g e
 | [],[],_,k,g,e,h1,_=>by simp at h1
 | x::gs,y::es,h,0,g,e,h1,h2=>by simp at h1 h2;subst h1 h2;exact h.1
 | x::gs,y::es,h,k + 1,g,e,h1,h2=>by simp only [List.getElem?_cons_succ] at h1 h2;exact RELS.get h.2 h1 h2
 | [],e::es,h,_,_,_,_,_=>h.elim
 | g::gs,[],h,_,_,_,_,_=>h.elim
theorem RELS.set : ∀ {gs : List AG} {es : List RE},RELS gs es->∀ (k : Nat) {g : AG} {e : RE},REL g e->RELS (gs.set k g) (es.set k e)
 | [],[],h,k,g,e,_=>h
 | x::gs,y::es,h,0,g,e,r=>⟨r,h.2⟩
 | x::gs,y::es,h,k + 1,g,e,r=>⟨h.1,RELS.set h.2 k r⟩
 | [],e::es,h,_,_,_,_=>h.elim
 | g::gs,[],h,_,_,_,_=>h.elim
theorem RELS.erase : ∀ {gs : List AG} {es : List RE},RELS gs es->∀ (k : Nat),RELS (gs.eraseIdx k) (es.eraseIdx k)
 | [],[],h,k=>h
 | x::gs,y::es,h,0=>h.2
 | x::gs,y::es,h,k + 1=>⟨h.1,RELS.erase h.2 k⟩
 | [],e::es,h,_=>h.elim
 | g::gs,[],h,_=>h.elim
theorem RELS.snoc : ∀ {gs : List AG} {es : List RE},RELS gs es->∀ {g : AG} {e : RE},REL g e->RELS (gs++[g]) (es++[e])
 | [],[],h,g,e,r=>⟨r,trivial⟩
 | x::gs,y::es,h,g,e,r=>⟨h.1,RELS.snoc h.2 r⟩
 | [],e::es,h,_,_,_=>h.elim
 | g::gs,[],h,_,_,_=>h.elim
theorem RELS.tail : ∀ {gs : List AG} {es : List RE},RELS gs es->RELS gs.tail es.tail
 | [],[],h=>h
 | x::gs,y::es,h=>h.2
 | [],e::es,h=>h.elim
 | g::gs,[],h=>h.elim
structure AINV (a : AT) : Prop where
 srt : a.gs.Pairwise (fun x y=>x.begin_<=y.begin_)
 keys : ∀ (h : HD) (i j : Nat) (x y : AG),a.gs[i]?=some x->a.gs[j]?=some y->sameK h x=true->sameK h y=true->i=j
structure RELT (a : AT) (r : RT) : Prop where
 limit : a.limit=r.limit
 life : a.life=r.life
 now : a.now=r.now
 gs : RELS a.gs r.es
def passR (r : RT) (now : Int) : RT:={ r with now:=now,es:=r.es.filter (fun e=>decide (now < e.begin_ + r.life)) }
theorem filter_drop (life now : Int) : ∀ (gs : List AG),gs.Pairwise (fun x y=>x.begin_<=y.begin_)->gs.dropWhile (overG life now)=gs.filter (fun g=>!overG life now g)
 | [],_=>rfl
 | g::gs,h=>by
   obtain ⟨h1,h2⟩:=List.pairwise_cons.1 h
   by_cases ho : overG life now g=true
   ·rw [List.dropWhile_cons_of_pos ho,List.filter_cons_of_neg (by simp [ho]),filter_drop life now gs h2]
   ·rw [List.dropWhile_cons_of_neg ho]
    symm
    apply List.filter_eq_self.2
    intro x hx
    have : g.begin_<=x.begin_:=by
     rcases List.mem_cons.1 hx with rfl | hx
     ·exact Int.le_refl _
     ·exact h1 x hx
    unfold overG at *
    simp only [decide_eq_true_eq] at ho
    simp only [Bool.not_eq_true',decide_eq_false_iff_not]
    omega
theorem RELS.filter (life now : Int) : ∀ {gs : List AG} {es : List RE},RELS gs es->RELS (gs.filter (fun g=>!overG life now g)) (es.filter (fun e=>decide (now < e.begin_ + life)))
 | [],[],h=>h
 | g::gs,e::es,h=>by
   have ih:=RELS.filter life now h.2
   have hb:=h.1.beg
   by_cases ho : now < e.begin_ + life
   ·have h1 : (fun g=>!overG life now g) g=true:=by unfold overG;simp;omega
    have h2 : (fun e : RE=>decide (now < e.begin_ + life)) e=true:=by simp;omega
    rw [List.filter_cons_of_pos (p:=fun g=>!overG life now g) h1,List.filter_cons_of_pos (p:=fun e : RE=>decide (now < e.begin_ + life)) h2]
    exact ⟨h.1,ih⟩
   ·have h1 : ¬ (fun g=>!overG life now g) g=true:=by unfold overG;simp;omega
    have h2 : ¬ (fun e : RE=>decide (now < e.begin_ + life)) e=true:=by simp;omega
    rw [List.filter_cons_of_neg (p:=fun g=>!overG life now g) h1,List.filter_cons_of_neg (p:=fun e : RE=>decide (now < e.begin_ + life)) h2]
    exact ih
 | [],e::es,h=>h.elim
 | g::gs,[],h=>h.elim
theorem relt_pass {a : AT} {r : RT} (R : RELT a r) (I : AINV a) (now : Int) : RELT (passA a now) (passR r now):=by
 refine ⟨R.limit,R.life,rfl,?_⟩
 show RELS (a.gs.dropWhile (overG a.life now)) (r.es.filter _)
 rw [filter_drop a.life now a.gs I.srt,R.life]
 exact R.gs.filter r.life now
def lateR (r : RT) (now : Int) : Bool:=decide (now < r.now) || decide (1099511627776 < now)
def tickR (r : RT) (now : Int) : RT × Int:=if lateR r now then (r,70) else (passR r now,0)
theorem relt_tick {a : AT} {r : RT} (R : RELT a r) (I : AINV a) (now : Int) : (tickR r now).2=(tickA a now).2∧RELT (tickA a now).1 (tickR r now).1:=by
 have e : lateA a now=lateR r now:=by unfold lateA lateR;rw [R.now]
 unfold tickA tickR
 rw [e]
 split
 ·exact ⟨rfl,R⟩
 ·exact ⟨rfl,relt_pass R I now⟩
def sameE (h : HD) (e : RE) : Bool:=e.src == h.src && (e.dst == h.dst && (e.proto == h.proto && e.id == h.id))
theorem same_rel {g : AG} {e : RE} (R : REL g e) (h : HD) : sameK h g=sameE h e:=by unfold sameK sameE;rw [R.src,R.dst,R.proto,R.id]
def lastE (h : HD) (es : List RE) : Int:=(List.range es.length).foldl (fun (at_ : Int) (i : Nat)=>if (es[i]?.map (sameE h)).getD false then (i : Int) else at_) (-1)
theorem lastE_go (h : HD) (es : List RE) : ∀ n,n<=es.length->∀ v,(List.range n).foldl (fun (at_ : Int) (i : Nat)=>if (es[i]?.map (sameE h)).getD false then (i : Int) else at_) (-1)=v->(v = -1∧∀ i,i < n->(es[i]?.map (sameE h)).getD false=false)∨∃ k : Nat,v=(k : Int)∧k < n∧(es[k]?.map (sameE h)).getD false=true
 | 0,_,v,e=>.inl ⟨by rw [<- e];rfl,fun i hi=>by omega⟩
 | n + 1,hn,v,e=>by
   rw [List.range_succ,List.foldl_append] at e
   simp only [List.foldl_cons,List.foldl_nil] at e
   by_cases hm : (es[n]?.map (sameE h)).getD false=true
   ·rw [if_pos hm] at e
    exact .inr ⟨n,e.symm,by omega,hm⟩
   ·rw [if_neg hm] at e
    rcases lastE_go h es n (by omega) v e with ⟨h1,h2⟩ | ⟨k,h1,h2,h3⟩
    ·left
     refine ⟨h1,fun i hi=>?_⟩
     by_cases hin : i=n
     ·subst hin;simpa using hm
     ·exact h2 i (by omega)
    ·exact .inr ⟨k,h1,by omega,h3⟩
theorem lastE_of {a : AT} {r : RT} (R : RELT a r) (I : AINV a) (h : HD) : (lastE h r.es = -1∧a.gs.findIdx? (sameK h)=none)∨∃ k : Nat,lastE h r.es=(k : Int)∧k < r.es.length∧a.gs.findIdx? (sameK h)=some k:=by
 have hl:=R.gs.len
 have hs : ∀ i,i < r.es.length->(r.es[i]?.map (sameE h)).getD false=(a.gs[i]?.map (sameK h)).getD false:=fun i hi=>by
  rw [List.getElem?_eq_getElem hi,List.getElem?_eq_getElem (by omega)]
  simp only [Option.map_some,Option.getD_some]
  exact (same_rel (R.gs.get (List.getElem?_eq_getElem (by omega)) (List.getElem?_eq_getElem hi)) h).symm
 rcases lastE_go h r.es r.es.length (Nat.le_refl _) _ rfl with ⟨h1,h2⟩ | ⟨k,h1,h2,h3⟩
 ·left
  refine ⟨h1,List.findIdx?_eq_none_iff.2 fun g hg=>?_⟩
  obtain ⟨i,hi,rfl⟩:=List.mem_iff_getElem.1 hg
  have h4:=h2 i (by omega)
  rw [hs i (by omega),List.getElem?_eq_getElem hi] at h4
  simpa using h4
 ·right
  refine ⟨k,h1,h2,?_⟩
  rw [hs k h2,List.getElem?_eq_getElem (by omega)] at h3
  simp only [Option.map_some,Option.getD_some] at h3
  rw [List.findIdx?_eq_some_iff_getElem]
  refine ⟨by omega,h3,fun j hj=>?_⟩
  intro hc
  have:=I.keys h j k _ _ (List.getElem?_eq_getElem (by omega)) (List.getElem?_eq_getElem (by omega)) hc h3
  omega
def ofR (r : RT) (h : HD) : List RE × Nat :=
 if lastE h r.es = -1 then ((if (r.es.length : Int)=r.limit then r.es.tail else r.es)++[newE r.now h],(if (r.es.length : Int)=r.limit then r.es.tail else r.es).length)
 else (r.es,(lastE h r.es).toNat)
theorem relt_of {a : AT} {r : RT} (R : RELT a r) (I : AINV a) (h : HD) : RELS (ofA a h).1 (ofR r h).1∧(ofA a h).2=(ofR r h).2:=by
 have hl:=R.gs.len
 unfold ofA ofR
 rcases lastE_of R I h with ⟨h1,h2⟩ | ⟨k,h1,h2,h3⟩
 ·rw [h2,if_pos h1]
  dsimp only
  rw [hl,R.limit,R.now]
  split
  ·exact ⟨R.gs.tail.snoc (rel_new _ _),R.gs.tail.len⟩
  ·exact ⟨R.gs.snoc (rel_new _ _),hl⟩
 ·have h4 : ¬ lastE h r.es = -1:=by omega
  rw [h3,if_neg h4]
  exact ⟨R.gs,by dsimp only;omega⟩
def TAB (w0 w : World) (TB : Nat) (a : AT) (R : List IT) : Prop:=∃ T : TM,T.TB=TB∧absT T=a∧TINV T∧DEADS T.gs∧SP w0 w (T.its++R)
section
variable {w0 w w' : World} {TB : Nat} {a : AT} {R R' L : List IT} {x : IT}
theorem TAB.right (H : TAB w0 w TB a R) : SP w0 w R:=by obtain ⟨T,_,_,_,_,h⟩:=H;exact h.right
theorem TAB.next (H : TAB w0 w TB a R) (hb : Below w.heap.size w w') : TAB w0 w' TB a R:=by obtain ⟨T,h1,h2,h3,h4,h⟩:=H;exact ⟨T,h1,h2,h3,h4,h.next hb⟩
theorem TAB.drewN (H : TAB w0 w TB a R) (m : Nat) : TAB w0 (w.drewN m) TB a R:=by obtain ⟨T,h1,h2,h3,h4,h⟩:=H;exact ⟨T,h1,h2,h3,h4,h.drewN m⟩
theorem TAB.drew (H : TAB w0 w TB a R) : TAB w0 w.drew TB a R:=by obtain ⟨T,h1,h2,h3,h4,h⟩:=H;exact ⟨T,h1,h2,h3,h4,h.drew⟩
theorem TAB.sub (H : TAB w0 w TB a R) (h : R'.Sublist R) : TAB w0 w TB a R':=by obtain ⟨T,h1,h2,h3,h4,h5⟩:=H;exact ⟨T,h1,h2,h3,h4,h5.sub (h.append_left _)⟩
theorem TAB.perm (H : TAB w0 w TB a R) (h : R.Perm R') : TAB w0 w TB a R':=by obtain ⟨T,h1,h2,h3,h4,h5⟩:=H;exact ⟨T,h1,h2,h3,h4,h5.perm (h.append_left _)⟩
theorem TAB.tail (H : TAB w0 w TB a (x::R)) : TAB w0 w TB a R:=H.sub (List.sublist_cons_self _ _)
theorem TAB.size (H : TAB w0 w TB a R) : w0.heap.size<=w.heap.size:=H.right.size
theorem TAB.bel (H : TAB w0 w TB a R) : Below w0.heap.size w0 w:=H.right.bel
theorem TAB.push {k : IntKind} {e : TypeId} {A : Option Addr} {n c : Nat} {zs : List Int} (H : TAB w0 w TB a R) (hb : Below w.heap.size w w') (hh : OWN k e w' w.heap.size A n c zs) : TAB w0 w' TB a (.own k e A n c zs::R):=by
 obtain ⟨T,h1,h2,h3,h4,h5⟩:=H
 exact ⟨T,h1,h2,h3,h4,SP.backOf (A:=T.its) (h5.pushOwn hb hh).rot⟩
theorem TAB.alloc (H : TAB w0 w TB a R) (t : TypeId) (cs : Array Value) {N : Nat} (hN : w.heap.size=N) : TAB w0 (w.alloc (.cells cs t)) TB a (.blk N t cs::R):=by
 obtain ⟨T,h1,h2,h3,h4,h5⟩:=H
 exact ⟨T,h1,h2,h3,h4,SP.backOf (A:=T.its) (h5.alloc' t cs hN).rot⟩
theorem TAB.allocI (H : TAB w0 w TB a R) (k : IntKind) (e : TypeId) (zs : List Int) (hm : zs.length<=maxLen) {N : Nat} (hN : w.heap.size=N) : TAB w0 (w.alloc (.cells (zs.map (Value.int k)).toArray e)) TB a (.own k e (some ⟨N,0,none⟩) zs.length zs.length zs::R):=by
 obtain ⟨T,h1,h2,h3,h4,h5⟩:=H
 exact ⟨T,h1,h2,h3,h4,SP.backOf (A:=T.its) (h5.allocI' k e zs hm hN).rot⟩
theorem tnew (limit life : Int) (H : SP w0 w L) (h1 : 1<=limit∧limit<=64) (h2 : 1<=life∧life<=16777215) :
 Calls Tryz.prog 24 #[.int .i64 limit,.int .i64 life] w fun e w'=>∃ TB,e = .returned (.tuple #[.pointer (some ⟨TB,0,none⟩),.int .i64 0])∧TAB w0 w' TB ⟨limit,life,0,[]⟩ L:=by
 refine (new_yes limit life H h1 h2).mono ?_
 rintro e w' ⟨TB,M,rfl,h⟩
 exact ⟨TB,rfl,newT TB M limit life,rfl,rfl,newT_inv TB M limit life h1 h2,(fun g hg=>by cases hg),h⟩
theorem ttick (H : TAB w0 w TB a R) (now : Int) : Calls Tryz.prog 10 #[.pointer (some ⟨TB,0,none⟩),.int .i64 now] w fun e w'=>e = .returned (.int .i64 (tickA a now).2)∧TAB w0 w' TB (tickA a now).1 R:=by
 obtain ⟨T,rfl,rfl,hi,hd,h⟩:=H
 refine (tick_any h hi now).mono ?_
 rintro e w' (⟨h1,rfl,h2⟩ | ⟨h1,rfl,T',e1,e2,e3,e4,e5,e6,e7⟩)
 ·have : lateA (absT T) now=true:=h1
  unfold tickA
  rw [this]
  exact ⟨rfl,T,rfl,rfl,hi,hd,h2⟩
 ·have : lateA (absT T) now=false:=h1
  unfold tickA
  rw [this]
  exact ⟨rfl,T',e1,pass_abs e2 e3 e4 e5,e6,by rw [e5];exact hd.sub (List.dropWhile_sublist _),e7⟩
theorem tnow (H : TAB w0 w TB a R) : Calls Tryz.prog 11 #[.pointer (some ⟨TB,0,none⟩)] w fun e w'=>e = .returned (.int .i64 a.now)∧w'=w:=by
 obtain ⟨T,rfl,rfl,hi,hd,h⟩:=H
 exact now_any h hi
theorem tput (H : TAB w0 w TB a R) (A : Option Addr) (n c : Nat) (zs : List Int) (now : Int) (rd : ∀ W,SP w0 W R->RD .u8 W W.heap.size A n zs) (hz : BD 255 zs) (hnc : n<=c) (hn : n<=140737488351232) :
 Calls Tryz.prog 9 #[.pointer (some ⟨TB,0,none⟩),.int .i64 now,.slice A n c] w fun e w'=>∃ A' n' c',e = .returned (.tuple #[.slice A' n' c',.int .i64 (putA a now zs).2.2])∧(putA a now zs).2.1.length=n'∧TAB w0 w' TB (putA a now zs).1 (.own .u8 5 A' n' c' (putA a now zs).2.1::R):=by
 obtain ⟨T,rfl,rfl,hi,hd,h⟩:=H
 refine (fput_any T A n c zs now h hi hd rd hz hnc hn).mono ?_
 rintro e w' ⟨A',n',c',T',rfl,h1,h2,h3,h4,h5⟩
 have hl:=(h5.own 0 rfl).len
 exact ⟨A',n',c',rfl,hl,T',h1,h2,h3,h4,SP.backOf (A:=T'.its) h5⟩
theorem tgroups (H : TAB w0 w TB a R) : Calls Tryz.prog 12 #[.pointer (some ⟨TB,0,none⟩)] w fun e w'=>∃ A c,e = .returned (.slice A a.gs.length c)∧TAB w0 w' TB a (.row 94 7 A a.gs.length c (GVS a.gs)::R):=by
 obtain ⟨T,rfl,rfl,hi,hd,h⟩:=H
 refine (groups_any T h hi).mono ?_
 rintro e w' ⟨A,c,rfl,h1⟩
 have e1 : (absT T).gs.length=T.gs.length:=by show (T.gs.map absG).length=_;rw [List.length_map]
 have e2 : GVS (absT T).gs=GVS (T.gs.map GM.a):=GVS_abs T.gs hd
 rw [e1,e2]
 exact ⟨A,c,rfl,T,rfl,rfl,hi,hd,SP.backOf (A:=T.its) h1⟩
theorem tsplit (A : Option Addr) (n c : Nat) (zs : List Int) (size : Int) (H0 : SP w0 w L) (rd : ∀ W,SP w0 W L->RD .u8 W W.heap.size A n zs) (hz : BD 255 zs) (hnc : n<=c) (hn : n<=140737488351232) (hsz : size<=9223372036854775807) (hsz0 : -9223372036854775808<=size) :
 Calls Tryz.prog 15 #[.slice A n c,.int .i64 size] w fun e w'=>∃ (A : Option Addr) (n c : Nat) (G : List (SD × List Int)),e = .returned (.tuple #[.slice A n c,.int .i64 (splitA zs size).2])∧G.length=n∧G.map (·.2)=(splitA zs size).1∧SP w0 w' (.row 22 1 A n c (G.map gV)::(G.map gIT++L)):=by
 refine (split_any A n c zs size H0 rd hz hnc hn hsz hsz0).mono ?_
 rintro e w' ⟨A,c,G,rfl,h1,h2⟩
 exact ⟨A,G.length,c,G,rfl,rfl,h1,h2⟩
end
end Go.Proofs.YtljbfnabnkkfeaaGreat
namespace Go.Proofs.YtljbfnabnkkfeaaGreat
open Go.RowKit
set_option maxRecDepth 100000
def P70 : List Int:=bytesF (pieceF ⟨EX7h,[],EX7d⟩ 8 0)
def P71 : List Int:=bytesF (pieceF ⟨EX7h,[],EX7d⟩ 8 1)
def P72 : List Int:=bytesF (pieceF ⟨EX7h,[],EX7d⟩ 8 2)
def A7 : AT:=⟨2,10,0,[]⟩
theorem ex7_split : splitA EX7 8=([P70,P71,P72],0):=by decide
theorem ex7_bd : BD 255 EX7:=bd_all (by decide)
theorem p70_bd : BD 255 P70:=bd_all (by decide)
theorem p71_bd : BD 255 P71:=bd_all (by decide)
theorem p72_bd : BD 255 P72:=bd_all (by decide)
def W70 : AT:=(putA A7 5 P72).1
def W71 : AT:=(putA W70 6 P70).1
def W72 : AT:=(putA W71 7 P71).1
theorem w70_out : (putA A7 5 P72).2=([],0):=by decide
theorem w71_out : (putA W70 6 P70).2=([],0):=by decide
theorem w72_out : (putA W71 7 P71).2=(EX7,0):=by decide
def W73 : AT:=(putA W70 15 P71).1
theorem w73_out : (putA W70 15 P71).2=([],0):=by decide
theorem w73_len : W73.gs.length=1:=by decide
theorem w73_gs : GVS W73.gs=[.int .u32 167772161,.int .u32 167772162,.int .u8 17,.int .u16 9,.int .i64 15,.int .i64 8,.bool false]:=by kernel_rfl
def W74 : AT:=(putA A7 0 P70).1
theorem w74_out : (putA A7 0 P70).2=([],0):=by decide
def W75 : AT:=(putA W74 1 P70).1
theorem w75_out : (putA W74 1 P70).2=([],71):=by decide
theorem w76_out : putA W75 1 P71=(W75,[],71):=by kernel_rfl
theorem w77_out : putA W75 1 P72=(W75,[],71):=by kernel_rfl
theorem w78_out : (tickA W75 10).2=0∧(tickA W75 10).1.gs.length=0:=by decide
theorem three {α β : Type} {G : List (α × β)} {x y z : β} (h : G.map (·.2)=[x,y,z]) : ∃ a b c,G=[(a,x),(b,y),(c,z)]:=by
 match G,h with
 | [(a,x'),(b,y'),(c,z')],h =>
   simp at h
   obtain ⟨rfl,rfl,rfl⟩:=h
   exact ⟨a,b,c,rfl⟩
theorem row_head {w : World} {base : Nat} {e : TypeId} {A : Option Addr} {n c m : Nat} {vs : List Value} (h : w.ownsRow base e m (.slice A n c) n vs) (hn : 0 < n) : ∃ g,A=some ⟨g,0,none⟩∧∀ i,i < n * m->w.cell? ⟨g,i,none⟩=vs[i]?:=by
 rcases h.2 with ⟨_,h2⟩ | ⟨g,cap,cur,h1,_⟩
 ·omega
 ·simp at h1
  obtain ⟨rfl,rfl⟩:=h1
  exact ⟨g,rfl,fun i hi=>World.ownsRow.cellAt h i hi⟩
set_option maxHeartbeats 8000000 in
set_option maxRecDepth 100000 in
theorem awake7_any (w : World) : Calls Tryz.prog 13 #[] w fun e w'=>e = .returned (.bool true)∧Below w.heap.size w w':=by
 have hx2:=fun W=>ex7_any W
 have HEX:=Lib.hid hx2
 clear hx2
 go_enter Tryz.func13,Tryz.ntmps13
 go_wp2_with fail
 refine (HEX.out _).mono ?_
 rintro e w1 ⟨Ae,ne,ce,rfl,ho,hb⟩
 have X1:=Lib.hid ((SP.start w).pushOwn hb ho)
 have hne : ne=40:=by have:=ho.len;rw [<- this];rfl
 have hle:=ho.le
 subst hne
 clear ho hb
 go_wp2_with fail
 refine (tsplit Ae 40 ce EX7 8 X1.out (fun W hS=>hS.rd 0 rfl) ex7_bd hle.1 (by omega) (by omega) (by omega)).mono ?_
 rintro e w2 ⟨Al,nl,cl,G,rfl,hnl,hG,hS⟩
 rw [ex7_split] at hG ⊢
 obtain ⟨⟨A0,n0,c0⟩,⟨A1,n1,c1⟩,⟨A2,n2,c2⟩,rfl⟩:=three hG
 have hnl3 : nl=3:=by rw [<- hnl];rfl
 subst hnl3
 have hn2 : n2=24:=by have h1 : P72.length=n2:=(hS.own 3 rfl).len;rw [<- h1];rfl
 have hn0 : n0=28:=by have h1 : P70.length=n0:=(hS.own 1 rfl).len;rw [<- h1];rfl
 have hn1 : n1=28:=by have h1 : P71.length=n1:=(hS.own 2 rfl).len;rw [<- h1];rfl
 subst hn2 hn0 hn1
 obtain ⟨k0,_⟩:=(hS.own 1 rfl).le
 obtain ⟨k1,_⟩:=(hS.own 2 rfl).le
 obtain ⟨k2,_⟩:=(hS.own 3 rfl).le
 obtain ⟨lg,hlg,_⟩:=row_head (hS.row 0 rfl) (by omega)
 subst hlg
 have X2:=Lib.hid (show SP w w2 [.row 22 1 (some ⟨lg,0,none⟩) 3 cl [.slice A0 28 c0,.slice A1 28 c1,.slice A2 24 c2],.own .u8 5 A0 28 c0 P70,.own .u8 5 A1 28 c1 P71,.own .u8 5 A2 24 c2 P72,.own .u8 5 Ae 40 ce EX7] from hS)
 clear hS hG X1 hnl
 have RF:=Lib.hid (fun (W : World) (hs : SP w W [.row 22 1 (some ⟨lg,0,none⟩) 3 cl [.slice A0 28 c0,.slice A1 28 c1,.slice A2 24 c2],.own .u8 5 A0 28 c0 P70,.own .u8 5 A1 28 c1 P71,.own .u8 5 A2 24 c2 P72,.own .u8 5 Ae 40 ce EX7])=>(show (W.cell? ⟨lg,0,none⟩=some (.slice A0 28 c0)∧W.cell? ⟨lg,1,none⟩=some (.slice A1 28 c1)∧W.cell? ⟨lg,2,none⟩=some (.slice A2 24 c2))∧RD .u8 W W.heap.size A0 28 P70∧RD .u8 W W.heap.size A1 28 P71∧RD .u8 W W.heap.size A2 24 P72∧RD .u8 W W.heap.size Ae 40 EX7 from by
  obtain ⟨g,hg,hc⟩:=row_head (hs.row 0 rfl) (by omega)
  cases hg
  exact ⟨⟨hc 0 (by omega),hc 1 (by omega),hc 2 (by omega)⟩,hs.rd 1 rfl,hs.rd 2 rfl,hs.rd 3 rfl,hs.rd 4 rfl⟩))
 generalize hR0 : ([.row 22 1 (some ⟨lg,0,none⟩) 3 cl [.slice A0 28 c0,.slice A1 28 c1,.slice A2 24 c2],.own .u8 5 A0 28 c0 P70,.own .u8 5 A1 28 c1 P71,.own .u8 5 A2 24 c2 P72,.own .u8 5 Ae 40 ce EX7] : List IT)=R0 at X2 RF
 clear hR0
 go_wp2_with fail
 refine (tnew 2 10 X2.out ⟨by omega,by omega⟩ ⟨by omega,by omega⟩).mono ?_
 rintro e w3 ⟨TB,rfl,hT⟩
 have X3:=Lib.hid hT
 clear hT X2
 obtain ⟨r0,r1,r2⟩:=(RF.out w3 X3.out.right).1
 obtain ⟨LB,hLB⟩ : ∃ b,w3.heap.size=b:=⟨_,rfl⟩
 have X4:=Lib.hid (X3.out.allocI .i64 3 [2,0,1] (by decide) hLB)
 go_upto_region 6 with fail
 try rw [hLB]
 replace X4:=X4.out
 rw [show (([2,0,1] : List Int).map (Value.int .i64)).toArray = #[.int .i64 2,.int .i64 0,.int .i64 1] from rfl] at X4
 generalize hw4 : w3.alloc (.cells #[.int .i64 2,.int .i64 0,.int .i64 1] 3)=w4 at X4 ⊢
 clear hw4 hLB r0 r1 r2 X3
 replace X4:=Lib.hid X4
 go_loopw [5,6,7,8,45] (fun _ _ _ _ s45 wr=>∃ (k : Nat) (a : AT),k<=3∧s45 = .int .i64 (k : Int)∧a=(if k=0 then A7 else if k=1 then W70 else if k=2 then W71 else W72)∧TAB w wr TB a (.own .i64 3 (some ⟨LB,0,none⟩) 3 3 [2,0,1]::R0)) (fun _ _ _ _ s45 _=>3 - (intOf s45).toNat)
 case atStart=>exact ⟨0,A7,by omega,rfl,rfl,X4.out⟩
 case round =>
  obtain ⟨k,a,hk,rfl,ha,Y0⟩:=hrel
  have Y:=Lib.hid Y0
  clear Y0 X4
  obtain ⟨r0,r1,r2⟩:=(RF.out wr Y.out.right.tail).1
  obtain ⟨_,_,hlb,_,hlc⟩:=(Y.out.right.rd 0 rfl).2 (by omega)
  cases hlb
  have hc0:=hlc 0 (by omega)
  have hc1:=hlc 1 (by omega)
  have hc2:=hlc 2 (by omega)
  replace hc0 : wr.cell? ⟨LB,0,none⟩=some (.int .i64 2):=hc0
  replace hc1 : wr.cell? ⟨LB,1,none⟩=some (.int .i64 0):=hc1
  replace hc2 : wr.cell? ⟨LB,2,none⟩=some (.int .i64 1):=hc2
  clear hlc
  have hk4 : k=0∨k=1∨k=2∨k=3:=by omega
  rcases hk4 with rfl | rfl | rfl | rfl
  ·subst ha
   clear hk
   have Z:=Lib.hid (show TAB w wr TB A7 _ from Y.out)
   clear Y
   go_wp2_with fail
   refine (tput Z.out A2 24 c2 P72 5 (fun W hS=>(RF.out W hS.tail).2.2.2.1) p72_bd (by omega) (by omega)).mono ?_
   rintro e w5 ⟨B5,m5,d5,rfl,hm5,hT⟩
   rw [show putA A7 5 P72=(W70,[],0) from Prod.ext rfl w70_out] at hT hm5 ⊢
   replace hm5 : (0 : Nat)=m5:=hm5
   subst hm5
   clear r0 r1 r2 hc0 hc1 hc2 Z
   have Z:=Lib.hid hT
   clear hT
   go_wp2_with fail
   go_roundw
   case rel=>exact ⟨1,W70,by omega,rfl,rfl,Z.out.tail⟩
   case measure=>simp [intOf]
  ·subst ha
   clear hk
   have Z:=Lib.hid (show TAB w wr TB W70 _ from Y.out)
   clear Y
   go_wp2_with fail
   refine (tput Z.out A0 28 c0 P70 6 (fun W hS=>(RF.out W hS.tail).2.1) p70_bd (by omega) (by omega)).mono ?_
   rintro e w5 ⟨B5,m5,d5,rfl,hm5,hT⟩
   rw [show putA W70 6 P70=(W71,[],0) from Prod.ext rfl w71_out] at hT hm5 ⊢
   replace hm5 : (0 : Nat)=m5:=hm5
   subst hm5
   clear r0 r1 r2 hc0 hc1 hc2 Z
   have Z:=Lib.hid hT
   clear hT
   go_wp2_with fail
   go_roundw
   case rel=>exact ⟨2,W71,by omega,rfl,rfl,Z.out.tail⟩
   case measure=>simp [intOf]
  ·subst ha
   clear hk
   have Z:=Lib.hid (show TAB w wr TB W71 _ from Y.out)
   clear Y
   go_wp2_with fail
   refine (tput Z.out A1 28 c1 P71 7 (fun W hS=>(RF.out W hS.tail).2.2.1) p71_bd (by omega) (by omega)).mono ?_
   rintro e w5 ⟨B5,m5,d5,rfl,hm5,hT⟩
   rw [show putA W71 7 P71=(W72,EX7,0) from Prod.ext rfl w72_out] at hT hm5 ⊢
   have hm40 : m5=40:=by rw [<- hm5];rfl
   subst hm40
   clear hm5
   clear r0 r1 r2 hc0 hc1 hc2 Z
   have Z:=Lib.hid hT
   clear hT
   go_wp2_with fail
   refine (HEX.out _).mono ?_
   rintro e w6 ⟨A6,n6,c6,rfl,ho,hb⟩
   have hn6 : n6=40:=by have:=ho.len;rw [<- this];rfl
   subst hn6
   have V:=Lib.hid (Z.out.push hb ho)
   clear Z ho hb
   go_wp2_with fail
   refine (same_any B5 A6 40 d5 40 c6 EX7 EX7 _ (V.out.right.rd 1 rfl) (V.out.right.rd 0 rfl) (by omega) (by omega)).mono ?_
   rintro e w7 ⟨rfl,q7,rfl⟩
   have Z:=Lib.hid (V.out.tail.drewN q7)
   clear V
   rw [show (EX7 == EX7)=true from by decide]
   go_wp2_with fail
   go_roundw
   case rel=>exact ⟨3,W72,by omega,rfl,rfl,Z.out.tail⟩
   case measure=>simp [intOf]
  ·clear hc0 hc1 hc2 r0 r1 r2
   have Z:=Lib.hid Y.out.tail
   clear Y ha hk
   go_wp2_with fail
   -- New
   refine (tnew 2 10 Z.out.right ⟨by omega,by omega⟩ ⟨by omega,by omega⟩).mono ?_
   rintro e w5 ⟨TB2,rfl,hT⟩
   have X5:=Lib.hid hT
   clear hT Z
   obtain ⟨r0,r1,r2⟩:=(RF.out w5 X5.out.right).1
   go_wp2_with fail
   refine (tput X5.out A2 24 c2 P72 5 (fun W hS=>(RF.out W hS).2.2.2.1) p72_bd (by omega) (by omega)).mono ?_
   rintro e w6 ⟨B6,m6,d6,rfl,_,hT⟩
   rw [show putA (⟨2,10,0,[]⟩ : AT) 5 P72=(W70,[],0) from Prod.ext rfl w70_out] at hT ⊢
   have X6:=Lib.hid hT.tail
   clear hT X5 r0 r1 r2
   obtain ⟨r0,r1,r2⟩:=(RF.out w6 X6.out.right).1
   go_wp2_with fail
   refine (tput X6.out A1 28 c1 P71 15 (fun W hS=>(RF.out W hS).2.2.1) p71_bd (by omega) (by omega)).mono ?_
   rintro e w7 ⟨B7,m7,d7,rfl,hm7,hT⟩
   rw [show putA W70 15 P71=(W73,[],0) from Prod.ext rfl w73_out] at hT hm7 ⊢
   replace hm7 : (0 : Nat)=m7:=hm7
   subst hm7
   have X7:=Lib.hid hT.tail
   clear hT X6 r0 r1 r2
   go_wp2_with fail
   refine (tgroups X7.out).mono ?_
   rintro e w8 ⟨GA,gc,rfl,hT⟩
   rw [w73_gs,w73_len] at hT
   rw [w73_len]
   obtain ⟨gg,hgg,hgc⟩:=row_head (hT.right.row 0 rfl) (by omega)
   subst hgg
   have gc4 : w8.cell? ⟨gg,4,none⟩=some (.int .i64 15):=hgc 4 (by omega)
   have gc5 : w8.cell? ⟨gg,5,none⟩=some (.int .i64 8):=hgc 5 (by omega)
   have X8:=Lib.hid hT.tail
   clear hT X7 hgc
   go_wp2_with fail
   refine (tnew 2 10 X8.out.right ⟨by omega,by omega⟩ ⟨by omega,by omega⟩).mono ?_
   rintro e w9 ⟨TB3,rfl,hT⟩
   have X9:=Lib.hid hT
   clear hT X8 gc4 gc5
   obtain ⟨r0,r1,r2⟩:=(RF.out w9 X9.out.right).1
   go_wp2_with fail
   refine (tput X9.out A0 28 c0 P70 0 (fun W hS=>(RF.out W hS).2.1) p70_bd (by omega) (by omega)).mono ?_
   rintro e wa ⟨Ba,ma,da,rfl,_,hT⟩
   rw [show putA (⟨2,10,0,[]⟩ : AT) 0 P70=(W74,[],0) from Prod.ext rfl w74_out] at hT ⊢
   have Xa:=Lib.hid hT.tail
   clear hT X9 r0 r1 r2
   obtain ⟨r0,r1,r2⟩:=(RF.out wa Xa.out.right).1
   go_upto_region 20 with fail
   go_region_held3 (fun W=>W.cell? ⟨lg,0,none⟩=some (.slice A0 28 c0)∧W.cell? ⟨lg,1,none⟩=some (.slice A1 28 c1)∧W.cell? ⟨lg,2,none⟩=some (.slice A2 24 c2)) (first | exact ⟨r0,r1,r2⟩ | go_keep) (fail)
   obtain ⟨MB,hMB⟩ : ∃ b,wa.heap.size=b:=⟨_,rfl⟩
   have Xb:=Lib.hid (Xa.out.alloc 22 #[.slice A0 28 c0,.slice A1 28 c1,.slice A2 24 c2] (N:=MB) hMB).drew
   try rw [hMB]
   generalize hwb : (wa.alloc (.cells #[.slice A0 28 c0,.slice A1 28 c1,.slice A2 24 c2] 22)).drew=wb at Xb ⊢
   clear hwb hMB r0 r1 r2 Xa
   go_upto_region 21 with fail
   go_loopw [15,16,17,156] (fun _ _ _ s156 wr=>∃ (k : Nat) (a : AT),k<=3∧s156 = .int .i64 (k : Int)∧a=(if k=0 then W74 else W75)∧TAB w wr TB3 a (.blk MB 22 #[.slice A0 28 c0,.slice A1 28 c1,.slice A2 24 c2]::R0)) (fun _ _ _ s156 _=>3 - (intOf s156).toNat)
   case atStart=>exact ⟨0,W74,by omega,rfl,rfl,Xb.out⟩
   case round =>
    obtain ⟨k,a,hk,rfl,ha,Y0⟩:=hrel
    have Y:=Lib.hid Y0
    clear Y0 Xb
    have r0 : wr.cell? ⟨MB,0,none⟩=some (.slice A0 28 c0):=Y.out.right.cell 0 rfl 0 rfl
    have r1 : wr.cell? ⟨MB,1,none⟩=some (.slice A1 28 c1):=Y.out.right.cell 0 rfl 1 rfl
    have r2 : wr.cell? ⟨MB,2,none⟩=some (.slice A2 24 c2):=Y.out.right.cell 0 rfl 2 rfl
    have hk4 : k=0∨k=1∨k=2∨k=3:=by omega
    rcases hk4 with rfl | rfl | rfl | rfl
    ·subst ha
     clear hk
     have Z:=Lib.hid (show TAB w wr TB3 W74 _ from Y.out)
     clear Y
     go_wp2_with fail
     refine (tput Z.out A0 28 c0 P70 1 (fun W hS=>(RF.out W hS.tail).2.1) p70_bd (by omega) (by omega)).mono ?_
     rintro e wd ⟨B5,m5,d5,rfl,hm5,hT⟩
     rw [show putA W74 1 P70=(W75,[],71) from Prod.ext rfl w75_out] at hT hm5 ⊢
     clear r0 r1 r2 Z hm5
     have Z:=Lib.hid hT.tail
     clear hT
     go_wp2_with fail
     go_roundw
     case rel=>exact ⟨1,W75,by omega,rfl,rfl,Z.out⟩
     case measure=>simp [intOf]
    ·subst ha
     clear hk
     have Z:=Lib.hid (show TAB w wr TB3 W75 _ from Y.out)
     clear Y
     go_wp2_with fail
     refine (tput Z.out A1 28 c1 P71 1 (fun W hS=>(RF.out W hS.tail).2.2.1) p71_bd (by omega) (by omega)).mono ?_
     rintro e wd ⟨B5,m5,d5,rfl,hm5,hT⟩
     rw [show putA W75 1 P71=(W75,[],71) from w76_out] at hT hm5 ⊢
     clear r0 r1 r2 Z hm5
     have Z:=Lib.hid hT.tail
     clear hT
     go_wp2_with fail
     go_roundw
     case rel=>exact ⟨2,W75,by omega,rfl,rfl,Z.out⟩
     case measure=>simp [intOf]
    ·subst ha
     clear hk
     have Z:=Lib.hid (show TAB w wr TB3 W75 _ from Y.out)
     clear Y
     go_wp2_with fail
     refine (tput Z.out A2 24 c2 P72 1 (fun W hS=>(RF.out W hS.tail).2.2.2.1) p72_bd (by omega) (by omega)).mono ?_
     rintro e wd ⟨B5,m5,d5,rfl,hm5,hT⟩
     rw [show putA W75 1 P72=(W75,[],71) from w77_out] at hT hm5 ⊢
     clear r0 r1 r2 Z hm5
     have Z:=Lib.hid hT.tail
     clear hT
     go_wp2_with fail
     go_roundw
     case rel=>exact ⟨3,W75,by omega,rfl,rfl,Z.out⟩
     case measure=>simp [intOf]
    ·clear r0 r1 r2
     have Z:=Lib.hid (show TAB w wr TB3 W75 R0 from by rw [ha] at Y;exact Y.out.tail)
     clear Y ha hk
     go_wp2_with fail
     refine (ttick Z.out 10).mono ?_
     rintro e wd ⟨rfl,hT⟩
     rw [w78_out.1]
     have Zt:=Lib.hid hT
     clear hT Z
     go_wp2_with fail
     refine (tgroups Zt.out).mono ?_
     rintro e wf ⟨GA,gc,rfl,hT⟩
     have hgl : (tickA W75 10).1.gs.length=0:=w78_out.2
     rw [hgl]
     have Zf:=Lib.hid hT.bel
     clear hT hgl Zt
     go_wp2_with fail
     go_ret
     exact ⟨rfl,Zf.out⟩
def deadE (e : RE) : RE:={ e with bytes:=0,dead:=true,fs:=[] }
theorem rel_dead {g : AG} {e : RE} (R : REL g e) : REL (deadG g) (deadE e) where
 src:=R.src
 dst:=R.dst
 proto:=R.proto
 id:=R.id
 beg:=R.beg
 dead:=rfl
 bytes:=rfl
 dd:=fun _=>⟨rfl,rfl⟩
 ok:=fun f hf=>by cases hf
 part:=fun f hf=>by cases hf
 good:=fun h=>by cases h
 ps:=fun h=>by cases h
 tot:=fun h=>by cases h
 hd:=fun h=>by cases h
section
variable {gs : List AG} {es : List RE} {k : Nat} {g : AG} {e : RE} {f : FR}
theorem addR_dead (R : RELS gs es) (hg : gs[k]?=some g) (he : es[k]?=some e) (hd : e.dead=true) : addA gs k f=(gs,[],71):=by
 have h:=(R.get hg he).dead
 unfold addA
 rw [hg]
 dsimp only
 rw [h,hd]
 rfl
theorem addR_spoilt (R : RELS gs es) (hg : gs[k]?=some g) (he : es[k]?=some e) (hd : e.dead=false) (hf : FOK f) (G : ¬ GOODF (e.fs++[f])) :
 addA gs k f=(gs.set k (deadG g),[],71)∧RELS (gs.set k (deadG g)) (es.set k (deadE e)):=by
 have r:=R.get hg he
 refine ⟨?_,R.set k (rel_dead r)⟩
 have h1:=rel_dies r hd hf
 rw [decide_eq_true G] at h1
 unfold addA addG
 rw [hg]
 dsimp only
 rw [r.dead,hd,h1]
 rfl
theorem addR_more (R : RELS gs es) (hg : gs[k]?=some g) (he : es[k]?=some e) (hd : e.dead=false) (hf : FOK f) (hp : PARTF f) (G : GOODF (e.fs++[f])) (hn : (totF (e.fs++[f])).1≠(sizeF (e.fs++[f]) : Int)) :
 addA gs k f=(gs.set k (putG g f),[],0)∧RELS (gs.set k (putG g f)) (es.set k (goE e f)):=by
 have r:=R.get hg he
 have r2:=rel_put r hd hf hp G
 refine ⟨?_,R.set k r2⟩
 have h1:=rel_dies r hd hf
 rw [decide_eq_false (fun h : ¬ GOODF (e.fs++[f])=>h G)] at h1
 have h2 : doneG (putG g f)=false:=(rel_done r2 hd).trans (decide_eq_false hn)
 have h3 : okG (putG g f)=true:=by unfold okG;rw [h2];rfl
 unfold addA addG
 rw [hg]
 dsimp only
 rw [r.dead,hd,h1,h3]
 simp only [Bool.false_eq_true,if_false,if_true,h2]
theorem addR_done (R : RELS gs es) (hg : gs[k]?=some g) (he : es[k]?=some e) (hd : e.dead=false) (hf : FOK f) (hp : PARTF f) (G : GOODF (e.fs++[f])) (hn : (totF (e.fs++[f])).1=(sizeF (e.fs++[f]) : Int))
 {s : List Int × HD × List Int} (A : ASMS (e.fs++[f]) (sizeF (e.fs++[f])) s) (hs : s.1.length=sizeF (e.fs++[f])) :
 if rightB s.2.1.off false s.2.2.length (sizeF (e.fs++[f]) : Int)=true then addA gs k f=(gs.eraseIdx k,pktB { s.2.1 with mf:=false } s.2.2 s.1,0)∧RELS (gs.eraseIdx k) (es.eraseIdx k)
 else addA gs k f=(gs.set k (deadG g),[],71)∧RELS (gs.set k (deadG g)) (es.set k (deadE e)):=by
 have r:=R.get hg he
 have r2:=rel_put r hd hf hp G
 have h1:=rel_dies r hd hf
 rw [decide_eq_false (fun h : ¬ GOODF (e.fs++[f])=>h G)] at h1
 have h2 : doneG (putG g f)=true:=(rel_done r2 hd).trans (decide_eq_true hn)
 have hF:=good_full G hn
 have hpos : sizeF (e.fs++[f])≠0:=fun h0=>totF_pos r2.part r2.ok (by show (totF (e.fs++[f])).1=0;rw [hn,h0];rfl)
 have hne : s.1≠[]:=fun h=>hpos (by rw [<- hs,h];rfl)
 obtain ⟨q,hq,hb,e1,e2⟩:=A.hd hne
 obtain ⟨e3,e4⟩:=r2.hd hd q hq hb
 have e5 : asmP (sizeF (e.fs++[f])) (putG g f).ps=s.1:=by
  rw [r2.ps hd];exact A.a.full hF hs
 have e6 : (putG g f).total=(sizeF (e.fs++[f]) : Int):=(r2.tot hd).trans hn
 have e7 : okG (putG g f)=rightB s.2.1.off false s.2.2.length (sizeF (e.fs++[f]) : Int):=by
  unfold okG
  rw [h2,e6,e3,e4,e1,e2]
  rfl
 split
 ·rename_i h3
  refine ⟨?_,R.erase k⟩
  rw [h3] at e7
  unfold addA addG
  rw [hg]
  dsimp only
  rw [r.dead,hd,h1,e7]
  simp only [Bool.false_eq_true,if_false,if_true,h2]
  rw [e6,Int.toNat_natCast,e5,e3,e4,e1,e2]
 ·rename_i h3
  refine ⟨?_,R.set k (rel_dead r)⟩
  rw [Bool.not_eq_true] at h3
  rw [h3] at e7
  unfold addA addG
  rw [hg]
  dsimp only
  rw [r.dead,hd,h1,e7]
  rfl
end
theorem part_of {zs : List Int} (h : faultR zs=7) (hz : BD 255 zs) (hn : ¬ ((hdOf zs).mf=false∧(hdOf zs).off=0)) : PARTF (frOf zs):=by
 have hf:=frOf_ok h hz
 have h1 : (frOf zs).h=hdOf zs:=rfl
 rintro ⟨h2,h3⟩
 have:=hf.b
 rw [h1] at h2 this
 exact hn ⟨h2,by omega⟩
theorem TAB.inv {w0 w : World} {TB : Nat} {a : AT} {R : List IT} (H : TAB w0 w TB a R) : AINV a:=by
 obtain ⟨T,_,rfl,hi,_,_⟩:=H
 constructor
 ·show (T.gs.map absG).Pairwise _
  rw [List.pairwise_map]
  exact hi.srt.imp (fun {x y} h=>by rw [absG_begin,absG_begin];exact h)
 ·intro h i j x y hx hy sx sy
  have hx2 : (T.gs.map absG)[i]?=some x:=hx
  have hy2 : (T.gs.map absG)[j]?=some y:=hy
  rw [List.getElem?_map] at hx2 hy2
  obtain ⟨p,hp,rfl⟩:=Option.map_eq_some_iff.1 hx2
  obtain ⟨q,hq,rfl⟩:=Option.map_eq_some_iff.1 hy2
  obtain ⟨hi1,rfl⟩:=List.getElem?_eq_some_iff.1 hp
  obtain ⟨hj1,rfl⟩:=List.getElem?_eq_some_iff.1 hq
  have hk : T.gs[i].key=T.gs[j].key:=by
   unfold sameK at sx sy
   simp only [Bool.and_eq_true,beq_iff_eq] at sx sy
   obtain ⟨a1,a2,a3,a4⟩:=absG_ids T.gs[i]
   obtain ⟨b1,b2,b3,b4⟩:=absG_ids T.gs[j]
   unfold GM.key
   rw [<- a1,<- a2,<- a3,<- a4,<- b1,<- b2,<- b3,<- b4,sx.1,sx.2.1,sx.2.2.1,sx.2.2.2,sy.1,sy.2.1,sy.2.2.1,sy.2.2.2]
  rcases Nat.lt_trichotomy i j with h1 | h1 | h1
  ·exact absurd hk (List.pairwise_iff_getElem.1 hi.keys i j hi1 hj1 h1)
  ·exact h1
  ·exact absurd hk.symm (List.pairwise_iff_getElem.1 hi.keys j i hj1 hi1 h1)
end Go.Proofs.YtljbfnabnkkfeaaGreat
namespace Go.Proofs.YtljbfnabnkkfeaaGreat
open Go.RowKit
structure FM where
 f : FR
 oA : Option Addr
 on : Nat
 oc : Nat
 dA : Option Addr
 dn : Nat
 dc : Nat
def FM.cells (x : FM) : List Value:=[.int .u8 x.f.h.tos,.int .u16 x.f.h.id,.bool x.f.h.df,.bool x.f.h.mf,.int .i64 x.f.h.off,.int .u8 x.f.h.ttl,.int .u8 x.f.h.proto,.int .u32 x.f.h.src,.int .u32 x.f.h.dst,.slice x.oA x.on x.oc,.slice x.dA x.dn x.dc]
structure FMOK (w : World) (x : FM) : Prop where
 o : RD .u8 w w.heap.size x.oA x.on x.f.o
 d : RD .u8 w w.heap.size x.dA x.dn x.f.d
 oc : x.on<=x.oc
 dc : x.dn<=x.dc
 ok : FOK x.f
theorem FMOK.later {w w' : World} {x : FM} (h : FMOK w x) (hb : Below w.heap.size w w') : FMOK w' x:=⟨h.o.later hb,h.d.later hb,h.oc,h.dc,h.ok⟩
theorem FMOK.dn {w : World} {x : FM} (h : FMOK w x) : x.f.d.length=x.dn∧x.dn<=65515∧x.f.e=x.f.b + x.dn∧x.f.e<=65515:=by
 have h1:=h.d.len
 have h2:=h.ok.e
 unfold FR.e at *
 omega
structure FROW (w : World) (A : Option Addr) (n : Nat) (l : List FM) : Prop where
 len : l.length=n
 at_ : ∀ i x,l[i]?=some x->∃ g off,A=some ⟨g,off,none⟩∧g < w.heap.size∧∀ j v,x.cells[j]?=some v->w.cell? ⟨g,off + i * 11 + j,none⟩=some v
 ok : ∀ x ∈ l,FMOK w x
theorem FROW.nil (w : World) : FROW w none 0 []:=⟨rfl,fun i x h=>by simp at h,fun x h=>by cases h⟩
theorem FROW.later {w w' : World} {A : Option Addr} {n : Nat} {l : List FM} (h : FROW w A n l) (hb : Below w.heap.size w w') : FROW w' A n l :=
 ⟨h.len,fun i x hx=>by obtain ⟨g,off,h1,h2,h3⟩:=h.at_ i x hx;exact ⟨g,off,h1,Nat.lt_of_lt_of_le h2 hb.size,fun j v hv=>(hb.cell (p:=⟨g,_,none⟩) h2).trans (h3 j v hv)⟩,fun x hx=>(h.ok x hx).later hb⟩
def frs (l : List FM) : List FR:=l.map FM.f
theorem frs_take {l : List FM} {k : Nat} {x : FM} (h : l[k]?=some x) : frs (l.take (k + 1))=frs (l.take k)++[x.f]:=by
 unfold frs
 rw [List.take_add_one,h,List.map_append];rfl
theorem sizeF_le (B : Nat) : ∀ (l : List FR),(∀ f ∈ l,f.d.length<=B)->sizeF l<=l.length * B
 | [],_=>by simp [sizeF]
 | f::l,h=>by
   have h1:=h f (by simp)
   have h2:=sizeF_le B l (fun q hq=>h q (List.mem_cons_of_mem _ hq))
   unfold sizeF at *
   rw [List.map_cons,List.sum_cons,List.length_cons,Nat.succ_mul]
   omega
theorem sizeF_take_le (B : Nat) (l : List FR) (k : Nat) (hl : ∀ f ∈ l,f.d.length<=B) : sizeF (l.take k)<=l.length * B :=
 Nat.le_trans (sizeF_le B _ (fun f hf=>hl f (List.mem_of_mem_take hf))) (Nat.mul_le_mul_right B (by rw [List.length_take];omega))
set_option maxHeartbeats 1000000 in
set_option maxRecDepth 100000 in
theorem r7size_any (A : Option Addr) (n c : Nat) (l : List FM) (w : World) (h : FROW w A n l) (hn : n<=100000) :
 Calls Tryz.prog 55 #[.slice A n c] w fun e w'=>e = .returned (.int .i64 (sizeF (frs l) : Int))∧∃ m,w'=w.drewN m:=by
 have H:=Lib.hid h
 have hle : ∀ k,sizeF (frs (l.take k))<=6551500000:=fun k=>by
  have h1:=sizeF_take_le 65515 (frs l) k (fun f hf=>by
   obtain ⟨x,hx,rfl⟩:=List.mem_map.1 hf
   have:=(h.ok x hx).dn
   omega)
  have h2 : (frs l).length=n:=by unfold frs;rw [List.length_map];exact h.len
  have h3 : frs (l.take k)=(frs l).take k:=by unfold frs;rw [List.map_take]
  rw [h3]
  rw [h2] at h1
  exact Nat.le_trans h1 (Nat.mul_le_mul_right 65515 hn)
 have HLE:=Lib.hid hle
 clear h hle
 go_enter Tryz.func55,Tryz.ntmps55
 go_wp2
 go_loopw [3,4] (fun s3 s4 wr=>∃ k : Nat,k<=n∧s3 = .int .i64 (sizeF (frs (l.take k)) : Int)∧s4 = .int .i64 (k : Int)∧∃ m,wr=w.drewN m) (fun _ s4 _=>n - (intOf s4).toNat)
 case atStart=>exact ⟨0,Nat.zero_le _,rfl,rfl,0,rfl⟩
 case round =>
  obtain ⟨k,hk,rfl,rfl,m,rfl⟩:=hrel
  by_cases hlt : k < n
  ·obtain ⟨x,hx⟩ : ∃ x,l[k]?=some x:=⟨_,List.getElem?_eq_getElem (by rw [H.out.len];exact hlt)⟩
   obtain ⟨g,off,rfl,hg,hc⟩:=H.out.at_ k x hx
   have hd:=(H.out.ok x (List.mem_of_getElem? hx)).dn
   have x10 : w.cell? ⟨g,off + k * 11 + 10,none⟩=some (.slice x.dA x.dn x.dc):=hc 10 _ rfl
   have hs : sizeF (frs (l.take (k + 1)))=sizeF (frs (l.take k)) + x.dn:=by rw [frs_take hx,sizeF_snoc,hd.1]
   have HS:=Lib.hid hs
   have h1:=HLE.out k
   have h2:=HLE.out (k + 1)
   rw [hs] at h2
   have e1 : IntKind.i64.wrap ((sizeF (frs (l.take k)) : Int) + (x.dn : Int))=(sizeF (frs (l.take k)) : Int) + (x.dn : Int):=IntWalk.i64_in _ (by omega)
   have i1 : (0 : Int)<=(k : Int):=by omega
   have i2 : (k : Int) < (n : Int):=by omega
   have e6 : IntKind.i64.wrap ((k : Int) + 1)=(k : Int) + 1:=IntWalk.i64_in _ (by omega)
   clear hs hd hc hx
   go_wp2
   go_roundw
   case rel=>exact ⟨k + 1,by omega,by rw [HS.out];go_num,by go_num,_,rfl⟩
   case measure=>simp [intOf];omega
  ·have t1 : ¬ (k : Int) < (n : Int):=by omega
   obtain rfl : k=n:=by omega
   have hs : l.take k=l:=List.take_of_length_le (by have:=H.out.len;omega)
   rw [hs]
   go_wp2
   go_ret
   exact ⟨rfl,_,rfl⟩
theorem totF_le : ∀ (l : List FR),(∀ f ∈ l,f.e<=65515)->(totF l).1<=65515∧(totF l).2<=l.length:=by
 have go : ∀ (l : List FR) (s : Int × Nat),(∀ f ∈ l,f.e<=65515)->s.1<=65515->(l.foldl (fun s f=>if f.h.mf then s else ((f.e : Int),s.2 + 1)) s).1<=65515∧(l.foldl (fun s f=>if f.h.mf then s else ((f.e : Int),s.2 + 1)) s).2<=s.2 + l.length:=by
  intro l
  induction l with
  | nil=>intro s _ h;exact ⟨h,Nat.le_refl _⟩
  | cons f l ih =>
    intro s h hs
    have h1:=h f (by simp)
    rw [List.foldl_cons,List.length_cons]
    split
    ·have:=ih s (fun q hq=>h q (List.mem_cons_of_mem _ hq)) hs
     exact ⟨this.1,by omega⟩
    ·have:=ih ((f.e : Int),s.2 + 1) (fun q hq=>h q (List.mem_cons_of_mem _ hq)) (by dsimp only;omega)
     exact ⟨this.1,by have:=this.2;dsimp only at this;omega⟩
 intro l h
 have:=go l (-1,0) h (by simp)
 exact ⟨this.1,by have:=this.2;dsimp only at this;unfold totF;omega⟩
set_option maxHeartbeats 1000000 in
set_option maxRecDepth 100000 in
theorem r7total_any (A : Option Addr) (n c : Nat) (l : List FM) (w : World) (h : FROW w A n l) (hn : n<=100000) :
 Calls Tryz.prog 54 #[.slice A n c] w fun e w'=>e = .returned (.tuple #[.int .i64 (totF (frs l)).1,.int .i64 ((totF (frs l)).2 : Int)])∧∃ m,w'=w.drewN m:=by
 have H:=Lib.hid h
 have hle : ∀ k,k<=n -> -1<=(totF (frs (l.take k))).1∧(totF (frs (l.take k))).1<=65515∧(totF (frs (l.take k))).2<=100000:=fun k hk=>by
  have h1:=totF_le (frs (l.take k)) (fun f hf=>by
   obtain ⟨x,hx,rfl⟩:=List.mem_map.1 hf
   exact (h.ok x (List.mem_of_mem_take hx)).dn.2.2.2)
  have h2 : (frs (l.take k)).length<=n:=by unfold frs;rw [List.length_map,List.length_take];have:=h.len;omega
  have:=(totF_none (frs (l.take k))).1
  omega
 have HLE:=Lib.hid hle
 clear h hle
 go_enter Tryz.func54,Tryz.ntmps54
 go_wp2
 go_loopw [4,5,6] (fun s4 s5 s6 wr=>∃ k : Nat,k<=n∧s4 = .int .i64 (totF (frs (l.take k))).1∧s5 = .int .i64 ((totF (frs (l.take k))).2 : Int)∧s6 = .int .i64 (k : Int)∧∃ m,wr=w.drewN m) (fun _ _ s6 _=>n - (intOf s6).toNat)
 case atStart=>exact ⟨0,Nat.zero_le _,rfl,rfl,rfl,0,rfl⟩
 case round =>
  obtain ⟨k,hk,rfl,rfl,rfl,m,rfl⟩:=hrel
  by_cases hlt : k < n
  ·obtain ⟨x,hx⟩ : ∃ x,l[k]?=some x:=⟨_,List.getElem?_eq_getElem (by rw [H.out.len];exact hlt)⟩
   obtain ⟨g,off,rfl,hg,hc⟩:=H.out.at_ k x hx
   have hd:=(H.out.ok x (List.mem_of_getElem? hx)).dn
   have hb:=(H.out.ok x (List.mem_of_getElem? hx)).ok.b
   have x3 : w.cell? ⟨g,off + k * 11 + 3,none⟩=some (.bool x.f.h.mf):=hc 3 _ rfl
   have x4 : w.cell? ⟨g,off + k * 11 + 4,none⟩=some (.int .i64 x.f.h.off):=hc 4 _ rfl
   have x10 : w.cell? ⟨g,off + k * 11 + 10,none⟩=some (.slice x.dA x.dn x.dc):=hc 10 _ rfl
   have hs : totF (frs (l.take (k + 1)))=if x.f.h.mf then totF (frs (l.take k)) else ((x.f.e : Int),(totF (frs (l.take k))).2 + 1):=by rw [frs_take hx,totF_snoc]
   have h1:=HLE.out k hk
   have i1 : (0 : Int)<=(k : Int):=by omega
   have i2 : (k : Int) < (n : Int):=by omega
   have e6 : IntKind.i64.wrap ((k : Int) + 1)=(k : Int) + 1:=IntWalk.i64_in _ (by omega)
   have hE : (x.f.e : Int)=x.f.h.off + (x.dn : Int):=by rw [<- hb];omega
   have e7 : IntKind.i64.wrap (x.f.h.off + (x.dn : Int))=x.f.h.off + (x.dn : Int):=IntWalk.i64_in _ (by omega)
   have e8 : IntKind.i64.wrap (((totF (frs (l.take k))).2 : Int) + 1)=((totF (frs (l.take k))).2 : Int) + 1:=IntWalk.i64_in _ (by omega)
   have HE:=Lib.hid hE
   obtain ⟨mf,hmf⟩ : ∃ b,x.f.h.mf=b:=⟨_,rfl⟩
   rw [hmf] at x3 hs
   have HS:=Lib.hid hs
   clear hs hd hc hx hb hmf hE
   cases mf
   ·go_wp2_with fail
    go_quiet (fail)
    go_wp2_with fail
    go_roundw
    case rel=>exact ⟨k + 1,by omega,by rw [HS.out];simp only [Bool.false_eq_true,if_false];rw [HE.out],by rw [HS.out];simp only [Bool.false_eq_true,if_false];go_num,by go_num,_,rfl⟩
    case measure=>simp [intOf];omega
   ·go_wp2
    go_roundw
    case rel=>exact ⟨k + 1,by omega,by rw [HS.out];rfl,by rw [HS.out];rfl,by go_num,_,rfl⟩
    case measure=>simp [intOf];omega
  ·have t1 : ¬ (k : Int) < (n : Int):=by omega
   obtain rfl : k=n:=by omega
   have hs : l.take k=l:=List.take_of_length_le (by have:=H.out.len;omega)
   rw [hs]
   go_wp2
   go_ret2
   exact ⟨rfl,_,rfl⟩
end Go.Proofs.YtljbfnabnkkfeaaGreat
