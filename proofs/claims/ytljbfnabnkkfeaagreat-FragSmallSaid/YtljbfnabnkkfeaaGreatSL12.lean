import Derived.Maps.OwnIn
import Derived.Test.YtljbfnabnkkfeaaGreatSL11
set_option linter.unusedVariables false
set_option linter.unusedSimpArgs false
/- Joined by program: FgS, WMade5, LIpBk, FgX, FgY. -/
namespace Go.Proofs.YtljbfnabnkkfeaaGreat
open Go.RowKit Go.Shelf
attribute [local go_sem] Oper.semAt_some
def cnt (n size : Nat) : Nat:=(n + size - 1) / size
theorem lt_cnt {n size k : Nat} (hs : 1<=size) : k < cnt n size ↔ size * k < n:=by
 unfold cnt
 rw [Nat.lt_iff_add_one_le,Nat.le_div_iff_mul_le (by omega),Nat.add_mul,Nat.mul_comm]
 omega
set_option maxHeartbeats 1000000 in
set_option maxRecDepth 100000 in
theorem chunk_any (A : Option Addr) (n c : Nat) (size : Int) (hs : 1<=size) (w : World) :
 Calls Tryz.prog 43 #[.slice A n c,.int .i64 size] w fun e w'=>e = .returned (.func (.func 74) #[] #[.pointer (some ⟨w.heap.size,0,none⟩),.pointer (some ⟨w.heap.size + 1,0,none⟩)])∧w'=(w.alloc (.cells #[.slice A n c] 22)).alloc (.cells #[.int .i64 size] 3):=by
 have t1 : ¬ size < 1:=by omega
 go_enter Tryz.func43,Tryz.ntmps43
 go_wp2_with fail
 go_ret
 exact ⟨rfl,rfl⟩
set_option maxHeartbeats 1000000 in
set_option maxRecDepth 100000 in
theorem chunk1_in (m l SB NB : Nat) (hm : 1<=m) (b off n c size : Nat) (hs : 1<=size) (hn : n<=100000) (hsz : size<=100000) (hnc : n<=c) (J : Nat->World->Prop)
 (hJ : ∀ k W,J k W->W.cell? ⟨SB,0,none⟩=some (.slice (some ⟨b,off,none⟩) n c)∧W.cell? ⟨NB,0,none⟩=some (.int .i64 (size : Int)))
 (hdr : ∀ k W q,J k W->J k (W.drewN q))
 (hy : ∀ k W,size * k < n->J k W->YieldAt Fence.wide (m - 1) Tryz.prog l #[.slice (some ⟨b,off + size * k,none⟩) (min size (n - size * k)) (min size (n - size * k))] W fun e W'=>e = .returned (.bool true)∧J (k + 1) W')
 (W : World) (h0 : J 0 W) :
 CallsIn Fence.wide m Tryz.prog 74 #[.func (.yield l) #[] #[],.pointer (some ⟨SB,0,none⟩),.pointer (some ⟨NB,0,none⟩)] W fun e W'=>(∃ v,e = .returned v)∧J (cnt n size) W':=by
 obtain ⟨i0,hi0,hz0,hz1,hz2⟩:=info_parts infoU8
 refine callsIn_of_wp Tryz.func74 rfl trivial ?_ rfl
 simp only [Tryz.ntmps74,List.size_toArray,List.length_cons,List.length_nil,Nat.reduceAdd,Nat.reduceSub,Array.replicate_succ,Array.replicate_zero,List.push_toArray,List.append_toArray,List.nil_append,List.cons_append]
 gi_wp2
 gi_loopw [4] (fun s wr=>∃ k : Nat,k<=cnt n size∧s = .int .i64 ((size * k : Nat) : Int)∧J k wr) (fun s _=>n + size - (intOf s).toNat)
 case atStart=>exact ⟨0,by omega,by simp,h0⟩
 case round =>
  obtain ⟨k,hk,rfl,hj⟩:=hrel
  obtain ⟨x0,x1⟩:=hJ k wr hj
  by_cases hlt : size * k < n
  ·have hkc:=(lt_cnt hs).2 hlt
   obtain ⟨i,hi⟩ : ∃ i,size * k=i:=⟨_,rfl⟩
   have HI:=Lib.hid hi
   have hY:=hy k
   rw [hi] at hlt hY ⊢
   have t1 : (i : Int) < (n : Int):=by omega
   have t0 : (0 : Int)<=(i : Int):=by omega
   have t2 : i<=n:=by omega
   obtain ⟨mm,hmm⟩ : ∃ mm : Nat,min size (n - i)=mm:=⟨_,rfl⟩
   have hm1 : 1<=mm:=by omega
   have hm2 : mm<=size:=by omega
   have hm3 : i + mm<=n:=by omega
   rw [hmm] at hY
   have HY:=Lib.hid hY
   have HJ:=Lib.hid hj
   clear hY hi hj
   have sl:=fun W=>run_slice_lo (P:=Tryz.prog) W Tryz.underlying22 hi0 hz1 (some ⟨b,off,none⟩) n c (i : Int) i rfl t2
   have hmi : (if n - i < size then ((n - i : Nat) : Int) else (size : Int))=(mm : Int):=by split <;> omega
   have e1 : IntKind.i64.wrap ((i : Int) + (mm : Int))=(i : Int) + (mm : Int):=IntWalk.i64_in _ (by omega)
   have t3 : i + mm<=c:=by omega
   obtain ⟨im,him⟩ : ∃ im,i + mm=im:=⟨_,rfl⟩
   have e2 : (i : Int) + (mm : Int)=(im : Int):=by omega
   have e3 : im - i=mm:=by omega
   have e4 : im<=c:=by omega
   have e5 : i<=im:=by omega
   have e6 : ¬ c=i:=by omega
   have e7 : IntKind.i64.wrap ((i : Int) + (size : Int))=(i : Int) + (size : Int):=IntWalk.i64_in _ (by omega)
   gi_wp2
   gi_quiet (fail)
   obtain ⟨fn,tmps,assign,body,hyy,hR⟩:=HY.out (wr.drewN nq) hlt (hdr _ _ _ HJ.out)
   gi_wp2
   refine hR.mono ?_
   rintro e W3 ⟨rfl,hJ3⟩
   have HJ3:=Lib.hid hJ3
   obtain ⟨_,x1'⟩:=hJ _ _ hJ3
   clear hJ3 x0 x1 hmi
   gi_wp2
   go_roundw
   case rel =>
    refine ⟨k + 1,by omega,?_,HJ3.out⟩
    rw [Nat.mul_add,Nat.mul_one,HI.out]
    go_num
   case measure=>simp [intOf];omega
  ·have t1 : ¬ ((size * k : Nat) : Int) < (n : Int):=by omega
   obtain rfl : k=cnt n size:=by
    have : ¬ k < cnt n size:=fun h=>hlt ((lt_cnt hs).1 h)
    omega
   gi_wp2
   go_end0
   exact ⟨⟨_,rfl⟩,hj⟩
end Go.Proofs.YtljbfnabnkkfeaaGreat
namespace Go.Proofs.YtljbfnabnkkfeaaGreat
open Go.RowKit
section
variable {w0 w : World} {A B C : List IT}
theorem SP.pickT (H : SP w0 w (A++C)) (ix : List Nat) (hB : ix.map (fun i=>A[i]?)=B.map some) (hn : ix.Nodup) : SP w0 w (B++C):=by
 have hl : ix.length=B.length:=by have:=congrArg List.length hB;simpa using this
 have hg : ∀ (i : Nat) (x : IT),B[i]?=some x->∃ j,ix[i]?=some j∧A[j]?=some x:=fun i x hx=>by
  have h1:=congrArg (fun l : List (Option IT)=>l[i]?) hB
  simp only [List.getElem?_map,hx,Option.map_some] at h1
  obtain ⟨j,h2,h3⟩:=Option.map_eq_some_iff.1 h1
  exact ⟨j,h2,h3⟩
 refine H.mapix (fun i=>if i < B.length then (ix[i]?).getD 0 else i - B.length + A.length) (fun i x hx=>?_) (fun i j hi hj he=>?_)
 ·split
  ·rename_i h
   rw [List.getElem?_append_left h] at hx
   obtain ⟨j,h2,h3⟩:=hg i x hx
   rw [h2]
   show (A++C)[j]?=some x
   rw [List.getElem?_append_left (List.getElem?_eq_some_iff.1 h3).1];exact h3
  ·rename_i h
   rw [List.getElem?_append_right (by omega)] at hx ⊢
   rw [<- hx];congr 1;omega
 ·have hb : ∀ i,i < B.length->∃ k,ix[i]?=some k∧k < A.length:=fun i h=>by
   obtain ⟨k,h2,h3⟩:=hg i _ (List.getElem?_eq_getElem h)
   exact ⟨k,h2,(List.getElem?_eq_some_iff.1 h3).1⟩
  split at he
  ·rename_i h1
   obtain ⟨k,e1,l1⟩:=hb i h1
   rw [e1] at he
   split at he
   ·rename_i h2
    obtain ⟨k2,e2,l2⟩:=hb j h2
    rw [e2] at he
    obtain ⟨p1,q1⟩:=List.getElem?_eq_some_iff.1 e1
    obtain ⟨p2,q2⟩:=List.getElem?_eq_some_iff.1 e2
    have h9:=List.pairwise_iff_getElem.1 hn
    rcases Nat.lt_trichotomy i j with h | h | h
    ·exact absurd (q1.trans (Eq.trans he q2.symm)) (h9 i j p1 p2 h)
    ·exact h
    ·exact absurd (q2.trans (Eq.trans he.symm q1.symm)) (h9 j i p2 p1 h)
   ·simp at he;omega
  ·split at he
   ·rename_i h1 h2
    obtain ⟨k2,e2,l2⟩:=hb j h2
    rw [e2] at he
    simp at he;omega
   ·omega
end
def pieceF (f : FR) (size j : Nat) : FR :=
 ⟨{ f.h with off:=f.h.off + ((size * j : Nat) : Int),mf:=f.h.mf || decide (size * (j + 1) < f.d.length) },f.o,(f.d.drop (size * j)).take size⟩
def bytesF (f : FR) : List Int:=pktB f.h f.o f.d
def pieces (f : FR) (size : Nat) : List FR:=(List.range (cnt f.d.length size)).map (pieceF f size)
def sizeOk (size : Int) : Bool:=decide (8<=size) && decide (size % 8=0)
def splitA (zs : List Int) (size : Int) : List (List Int) × Int :=
 if sizeOk size=false then ([],2)
 else if faultR zs≠7 then ([],ipE zs)
 else if ((frOf zs).d.length : Int)<=size then ([zs.take (totalR zs)],0)
 else if (hdOf zs).df then ([],72)
 else ((pieces (frOf zs) size.toNat).map bytesF,0)
theorem pieceF_len (f : FR) (size j : Nat) : (pieceF f size j).d.length=min size (f.d.length - size * j):=by
 unfold pieceF;simp
theorem pieces_get {f : FR} {size j : Nat} (h : j < cnt f.d.length size) : (pieces f size)[j]?=some (pieceF f size j):=by
 unfold pieces;simp [h]
theorem pieceF_right {f : FR} {size j : Nat} (hf : FOK f) (hol : f.o.length % 4=0) (htot : 20 + f.o.length + f.d.length<=65535) (hs : 8<=size) (h8 : size % 8=0) (hj : size * j < f.d.length) (hmf : f.h.mf=true->f.d.length % 8=0) :
 Rightly (pieceF f size j).h.off (pieceF f size j).h.mf f.o.length (pieceF f size j).d.length:=by
 have ho:=hf.off
 have he:=hf.e
 unfold FR.e FR.b at he
 have hol2:=hf.op.2
 rw [pieceF_len]
 have h8j : (size * j) % 8=0:=by rw [Nat.mul_mod,h8];simp
 have h8j1 : (size * (j + 1)) % 8=0:=by rw [Nat.mul_mod,h8];simp
 have hmm : ((min size (f.d.length - size * j) : Nat) : Int)=min (size : Int) ((f.d.length : Int) - (size * j : Nat)):=by omega
 have hj1 : size * (j + 1)=size * j + size:=by rw [Nat.mul_add,Nat.mul_one]
 rw [hj1] at h8j1
 unfold pieceF Rightly
 simp only
 rw [hj1]
 clear hj1
 generalize size * j=i at *
 refine ⟨by omega,by omega,by omega,by omega,by omega,by omega,by omega,by omega,fun hm=>?_⟩
 simp only [Bool.or_eq_true,decide_eq_true_eq] at hm
 by_cases h1 : i + size < f.d.length
 ·rw [Nat.min_eq_left (by omega)];omega
 ·rw [Nat.min_eq_right (by omega)]
  have hm2 : f.h.mf=true:=hm.resolve_right h1
  have:=hmf hm2
  omega
theorem pieceF_wf {f : FR} {size j : Nat} (hf : FOK f) (hj : size * j < f.d.length) : (pieceF f size j).h.WF:=by
 have he:=hf.e
 unfold FR.e FR.b at he
 have ho:=hf.off
 have:=hf.wf
 refine ⟨this.tos,this.id,?_,this.ttl,this.proto,this.src,this.dst⟩
 have h2:=this.off
 unfold pieceF
 simp only
 omega
end Go.Proofs.YtljbfnabnkkfeaaGreat
namespace Go.Proofs.YtljbfnabnkkfeaaGreat
open Go.RowKit Go.Shelf
attribute [local go_sem] Oper.semAt_some
def SPLITD (w0 : World) (L : List IT) (zs : List Int) (size : Int) (e : Ending) (w' : World) : Prop :=
 ∃ (A : Option Addr) (c : Nat) (G : List (SD × List Int)),e = .returned (.tuple #[.slice A G.length c,.int .i64 (splitA zs size).2])∧G.map (·.2)=(splitA zs size).1∧SP w0 w' (.row 22 1 A G.length c (G.map gV)::(G.map gIT++L))
theorem splitd_nil {w0 w : World} {L : List IT} {zs : List Int} {size : Int} (er : Int) (h : splitA zs size=([],er)) (H : SP w0 w L) : SPLITD w0 L zs size (.returned (.tuple #[.slice none 0 0,.int .i64 er])) w :=
 ⟨none,0,[],by rw [h];rfl,by rw [h];rfl,(H.pushRow 22 1).rot⟩
theorem SP.blkRow {w0 w : World} {L : List IT} (H : SP w0 w L) (i : Nat) {N : Nat} {t : TypeId} {cs : Array Value} (hi : L[i]?=some (.blk N t cs)) (m n : Nat) (hn : cs.size=n * m) (hm : n<=maxLen) :
 SP w0 w (L.set i (.row t m (some ⟨N,0,none⟩) n n cs.toList)):=by
 refine H.upd hi (Below.refl _ _) ?_ (.inl rfl) (fun _ _ _=>rfl)
 refine ⟨by simpa using hn,.inr ⟨N,n,cs,rfl,H.ge i hi,H.blk i hi,Nat.le_refl _,hm,hn,?_⟩⟩
 rw [List.take_of_length_le (by simp [hn])]
theorem wpListIn_load_row {F : Fence} {nF : Nat} {P : Program} {ops : Array Oper} {rest : List Oper} {o : Oper} {a : Act} {w : World} {Q : Exit->Act->World->Prop} (hgd : o.guard=none) (ty : TypeId) (x : Operand) (ho : o.op = .load ty x)
 (g : Nat) (hx : a.eval x = .pointer (some ⟨g,0,none⟩)) (t : TypeId) (cs : Array Value) (fr : Nat × Nat) (d : TypeDesc) (hg : w.heap[g]?=some (.cells cs t fr))
 (hu : P.underlying ty=some d) (hd : (match d with | .struct _ | .array _ _=>true | _=>false)=true) (hi : (P.info? ty).map (·.size)=some cs.size)
 (h : wpListIn F nF P ops Q rest (a.put o.dst (.agg cs)) w) : wpListIn F nF P ops Q (o::rest) a w:=by
 refine wpListIn_plain hgd fun K hK=>?_
 unfold Oper.wpIn
 refine ⟨by simp [Oper.about,ho],?_⟩
 rw [Oper.semAt_plain F _ _ (by rw [ho];intro c hc';cases hc')]
 simp only [execOp,ho,hx,Instr.loadAt,Instr.sureAddr,Sem.run_bind,Sem.run_pure,Result.andThen_ok,run_loadVar_row w g t ty cs fr d hg hu hd hi]
 exact hK _ _ h
theorem wpListIn_append_row1 {F : Fence} {nF : Nat} {P : Program} (w : World) {ops : Array Oper} {rest : List Oper} {o : Oper} {a : Act} {Q : Exit->Act->World->Prop} (hgd : o.guard=none) (s x : Operand) (t : TypeId)
 (ho : o.op = .call { callee:=.builtin .append,args:=#[s,x],argTypes:=#[t,t] })
 (base : Nat) (e : TypeId) (i : TypeInfo) (z : Value) (size bytes : Nat) (ht : P.underlying t=some (.slice e)) (hi : P.info? e=some i) (hz : i.zero=some z)
 (hsize : i.size=size) (hby : i.bytes=bytes) (hzs : z.cells.size=size) (hsz : 0 < size)
 (A : Option Addr) (n c : Nat) (xs : List Value) (hs : a.eval s = .slice A n c) (hown : w.ownsRow base e size (.slice A n c) n xs)
 (ad : Addr) (m c2 : Nat) (news : List Value) (hx : a.eval x = .slice (some ad) m c2) (hl : news.length=m * size) (hnews : ∀ j u,news[j]?=some u->w.cell? (ad.add j)=some u) (h1 : ∀ u ∈ news,u.oneCell'=true)
 (h63 : n + m<=maxLen) (hbytes : (n + m) * bytes<=140737488355328) (hbase : base<=w.heap.size)
 (h : ∀ A' c' w',w'.ownsRow base e size (.slice A' (n + m) c') (n + m) (xs++news)->w.grownBy w' (A.map (·.block))->(A'.map (·.block)=A.map (·.block)∨A'.map (·.block)=some w.heap.size)->wpListIn F nF P ops Q rest (a.put o.dst (.slice A' (n + m) c')) w') :
 wpListIn F nF P ops Q (o::rest) a w:=by
 have blk : ∀ (A : Option Addr) (n c : Nat),Value.ownBlock (.slice A n c)=A.map (·.block):=fun A n c=>by cases A <;> rfl
 refine wpListIn_append_own_at w hgd s x t ho base e i z size bytes ht hi hz hsize hby hzs hsz (.slice A n c) n xs hs hown ad m c2 news hx hl hnews h1 h63 hbytes hbase ?_
 intro v' w' h2 h3 h4 h5
 obtain ⟨A',c',rfl⟩ : ∃ A' c',v' = .slice A' (n + m) c':=by
  rcases h2.2 with ⟨rfl,e0⟩ | ⟨g,cap,cur,rfl,_⟩
  ·exact ⟨none,0,by rw [e0]⟩
  ·exact ⟨_,_,rfl⟩
 rw [blk] at h3
 rw [blk,blk] at h5
 exact h A' c' w' h2 h3 h5
theorem results_cells2 {P : Program} {fn : Func} {p q : Tmp} {ty tq : TypeId} (h : fn.results = #[.cell p ty,.cell q tq]) (tmps : Array Value) (w : World) (g1 g2 : Nat) {v u : Value} {d1 d2 : TypeDesc}
 (hp : tmps.getD p undef = .pointer (some ⟨g1,0,none⟩)) (hq : tmps.getD q undef = .pointer (some ⟨g2,0,none⟩)) (hu1 : P.underlying ty=some d1) (ha1 : (match d1 with | .struct _ | .array _ _=>true | _=>false)=false)
 (hu2 : P.underlying tq=some d2) (ha2 : (match d2 with | .struct _ | .array _ _=>true | _=>false)=false) (h1 : w.cell? ⟨g1,0,none⟩=some v) (h2 : w.cell? ⟨g2,0,none⟩=some u) :
 (results fn tmps).run P w = .ok (.tuple #[v,u]) w:=by
 have hp' : tmps[p]?.getD undef = .pointer (some ⟨g1,0,none⟩):=by simpa using hp
 have hq' : tmps[q]?.getD undef = .pointer (some ⟨g2,0,none⟩):=by simpa using hq
 have hi1 : (isAgg ty).run P w = .ok false w:=by
  unfold isAgg;rw [Sem.run_bind,run_underlying hu1 w]
  cases d1 <;> simp_all
 have hi2 : (isAgg tq).run P w = .ok false w:=by
  unfold isAgg;rw [Sem.run_bind,run_underlying hu2 w]
  cases d2 <;> simp_all
 have hl1 : (loadVar ty ⟨g1,0,none⟩).run P w = .ok v w:=by simp [loadVar,hi1,load,Sem.run,h1]
 have hl2 : (loadVar tq ⟨g2,0,none⟩).run P w = .ok u w:=by simp [loadVar,hi2,load,Sem.run,h2]
 simp [results,h,hp',hq',asAddr,hl1,hl2]
set_option maxHeartbeats 1000000 in
set_option maxRecDepth 100000 in
theorem split_any {w0 w : World} {L : List IT} (A : Option Addr) (n c : Nat) (zs : List Int) (size : Int) (H0 : SP w0 w L) (rd : ∀ W,SP w0 W L->RD .u8 W W.heap.size A n zs) (hz : BD 255 zs) (hnc : n<=c) (hn : n<=140737488351232) (hsz : size<=9223372036854775807) (hsz0 : -9223372036854775808<=size) :
 Calls Tryz.prog 15 #[.slice A n c,.int .i64 size] w (SPLITD w0 L zs size):=by
 have RDD:=Lib.hid rd
 have HZ:=Lib.hid hz
 have HZL:=Lib.hid (rd w H0).len
 refine callsIn_wide.1 (callsIn_of_wp_marks (n:=2) Tryz.func15 rfl trivial ?_ rfl)
 simp only [Tryz.ntmps15,List.size_toArray,List.length_cons,List.length_nil,Nat.reduceAdd,Nat.reduceSub,Array.replicate_succ,Array.replicate_zero,List.push_toArray,List.append_toArray,List.nil_append,List.cons_append]
 refine wpIn_wide.2 ?_
 obtain ⟨S,hS⟩ : ∃ S,S=w.heap.size:=⟨_,rfl⟩
 obtain ⟨E0,hE0⟩ : ∃ E0,E0=S + 1:=⟨_,rfl⟩
 obtain ⟨E1,hE1⟩ : ∃ E1,E1=E0 + 1:=⟨_,rfl⟩
 have X1:=Lib.hid (show SP w0 (((w.alloc (.cells #[.int .i64 size] 3)).alloc (.cells #[.slice none 0 0] 25)).alloc (.cells #[.int .i64 0] 28)) (.blk E1 28 #[.int .i64 0]::.blk E0 25 #[.slice none 0 0]::.blk S 3 #[.int .i64 size]::L) from
  ((((H0.alloc' 3 #[.int .i64 size] hS.symm).rot).alloc' 25 #[.slice none 0 0] (by rw [hE0,hS];simp)).rot.alloc' 28 #[.int .i64 0] (by rw [hE1,hE0,hS];simp)).rot)
 go_upto_region 1 with fail
 rw [<- hS,<- hE0,<- hE1]
 generalize ((w.alloc (.cells #[.int .i64 size] 3)).alloc (.cells #[.slice none 0 0] 25)).alloc (.cells #[.int .i64 0] 28)=w1 at X1 ⊢
 have hne : E0≠E1:=by omega
 have hne' : ¬ E1=E0:=by omega
 clear hS hE0 hE1 H0 hz rd
 have xS : w1.cell? ⟨S,0,none⟩=some (.int .i64 size):=X1.out.cell 2 rfl 0 rfl
 obtain ⟨ok,hok⟩ : ∃ b,sizeOk size=b:=⟨_,rfl⟩
 have HOK:=Lib.hid hok
 obtain ⟨w2,rfl⟩ : ∃ w2 : World,w2=w1:=⟨_,rfl⟩
 go_cut [22] from 16 to 22 (fun s22 wx=>s22 = .bool (!ok)∧wx=w2)
 case first =>
  by_cases h1 : size < 8
  ·go_wp2_with fail
   go_meet
   refine ⟨?_,rfl⟩
   rw [<- HOK.out];unfold sizeOk
   rw [show decide (8<=size)=false by simp;omega];rfl
  ·have e1 : size.tmod 8=size % 8:=Int.tmod_eq_emod_of_nonneg (by omega)
   by_cases h2 : size % 8=0
   ·have e2 : size.tmod 8=0:=by omega
    go_wp2_with fail
    go_meet
    refine ⟨?_,rfl⟩
    rw [<- HOK.out];unfold sizeOk
    rw [show decide (8<=size)=true by simp;omega,show decide (size % 8=0)=true by simp;omega];rfl
   ·have e2 : (size.tmod 8 == 0)=false:=by simp;omega
    go_wp2_with fail
    go_meet
    refine ⟨?_,rfl⟩
    rw [<- HOK.out];unfold sizeOk
    rw [show decide (8<=size)=true by simp;omega,show decide (size % 8=0)=false by simp;omega];simp [h2]
 case rest =>
 obtain ⟨rfl,hw⟩:=hcut
 obtain ⟨w3,rfl⟩ : ∃ w3 : World,w3=wc:=⟨_,rfl⟩
 rw [<- hw] at X1 xS
 clear hw hok
 cases ok
 case false =>
  have f0:=X1.out.free 1 rfl 0
  have f1:=X1.out.free 0 rfl 0
  have x0 : w3.cell? ⟨E0,0,none⟩=some (.slice none 0 0):=X1.out.cell 1 rfl 0 rfl
  have x1 : w3.cell? ⟨E1,0,none⟩=some (.int .i64 0):=X1.out.cell 0 rfl 0 rfl
  have Y:=Lib.hid ((X1.out.setB 1 rfl 0 (.slice none 0 0)).setB 0 rfl 0 (.int .i64 2))
  go_wp2_with fail
  refine ⟨_,results_cells2 rfl _ _ E0 E1 rfl rfl Tryz.underlying25 rfl Tryz.underlying28 rfl (Y.out.cell 1 rfl 0 rfl) (Y.out.cell 0 rfl 0 rfl),?_⟩
  exact splitd_nil 2 (by unfold splitA;rw [if_pos HOK.out]) Y.out.tail.tail.tail
 case true =>
 have hs0:=HOK.out
 unfold sizeOk at hs0
 simp only [Bool.and_eq_true,decide_eq_true_eq] at hs0
 obtain ⟨hs8,hsm⟩:=hs0
 have HR:=Lib.hid (read_any A n c zs w3 (RDD.out _ X1.out.tail.tail.tail) HZ.out hnc hn)
 go_wp2_with fail
 refine HR.out.mono ?_
 rintro e w4 ⟨oA,on,oc,rfl,ho,hb⟩
 have X2:=Lib.hid (X1.out.pushOwn hb ho)
 clear ho hb HR X1 xS
 obtain ⟨H,hH⟩ : ∃ H,hdR zs=H:=⟨_,rfl⟩
 have HH:=Lib.hid hH
 rw [hH]
 clear hH
 unfold HD.val HD.cells
 obtain ⟨HB,hHB⟩ : ∃ b,b=w4.heap.size:=⟨_,rfl⟩
 have X3:=Lib.hid (show SP w0 (w4.alloc (.cells #[.int .u8 H.tos,.int .u16 H.id,.bool H.df,.bool H.mf,.int .i64 H.off,.int .u8 H.ttl,.int .u8 H.proto,.int .u32 H.src,.int .u32 H.dst,.slice oA on oc] 34)) (.blk HB 34 #[.int .u8 H.tos,.int .u16 H.id,.bool H.df,.bool H.mf,.int .i64 H.off,.int .u8 H.ttl,.int .u8 H.proto,.int .u32 H.src,.int .u32 H.dst,.slice oA on oc]::.own .u8 5 oA on oc (optsR zs)::.blk E1 28 #[.int .i64 0]::.blk E0 25 #[.slice none 0 0]::.blk S 3 #[.int .i64 size]::L) from ((X2.out.rot).alloc' 34 #[.int .u8 H.tos,.int .u16 H.id,.bool H.df,.bool H.mf,.int .i64 H.off,.int .u8 H.ttl,.int .u8 H.proto,.int .u32 H.src,.int .u32 H.dst,.slice oA on oc] hHB.symm).rot)
 clear X2
 go_upto_region 4 with fail
 rw [<- hHB]
 generalize w4.alloc (.cells #[.int .u8 H.tos,.int .u16 H.id,.bool H.df,.bool H.mf,.int .i64 H.off,.int .u8 H.ttl,.int .u8 H.proto,.int .u32 H.src,.int .u32 H.dst,.slice oA on oc] 34)=w5 at X3 ⊢
 clear hHB
 by_cases hf : faultR zs=7
 case neg =>
  have HF:=Lib.hid hf
  have hE : ipE zs=50 + faultR zs:=by unfold ipE;rw [if_neg hf]
  have hle:=faultR_le zs
  have b0 : ((ipE zs) == 0)=false:=by rw [hE];simp;omega
  have f0:=X3.out.free 3 rfl 0
  have f1:=X3.out.free 2 rfl 0
  have x0 : w5.cell? ⟨E0,0,none⟩=some (.slice none 0 0):=X3.out.cell 3 rfl 0 rfl
  have x1 : w5.cell? ⟨E1,0,none⟩=some (.int .i64 0):=X3.out.cell 2 rfl 0 rfl
  have Y:=Lib.hid ((X3.out.setB 3 rfl 0 (.slice none 0 0)).setB 2 rfl 0 (.int .i64 (ipE zs)))
  clear hf hE hle
  go_wp2_with fail
  refine ⟨_,results_cells2 rfl _ _ E0 E1 rfl rfl Tryz.underlying25 rfl Tryz.underlying28 rfl (Y.out.cell 3 rfl 0 rfl) (Y.out.cell 2 rfl 0 rfl),?_⟩
  exact splitd_nil (ipE zs) (by unfold splitA;rw [if_neg (by rw [HOK.out];simp),if_pos HF.out]) Y.out.tail.tail.tail.tail.tail
 case pos =>
 have hE : ipE zs=0:=by unfold ipE;rw [if_pos hf]
 have hO : optsR zs=optsOf zs:=by unfold optsR;rw [if_pos hf]
 have hF : fromR zs=sizeR zs:=by unfold fromR;rw [if_pos hf]
 have hT : toR zs=totalR zs:=by unfold toR;rw [if_pos hf]
 have hH : H=hdOf zs:=by rw [<- HH.out];unfold hdR;rw [if_pos hf]
 have HHE:=Lib.hid hH
 rw [hO] at X3
 rw [hE,hF,hT]
 obtain ⟨r1,r2,r3,r4,hr,_⟩:=right7 hf
 have hzl:=HZL.out
 have hdl:=frOf_len hf
 have htot : totalR zs<=65535:=by have:=hr.2.2.2.2.2.2.1;omega
 obtain ⟨fr,hfr⟩ : ∃ m,sizeR zs=m:=⟨_,rfl⟩
 obtain ⟨tt,htt⟩ : ∃ m,totalR zs=m:=⟨_,rfl⟩
 have HRI:=Lib.hid hr
 rw [hfr] at r2 r3 ⊢
 rw [htt] at r3 r4 htot ⊢
 rw [hfr,htt] at hdl
 have HFT:=Lib.hid (And.intro hfr htt)
 have HF:=Lib.hid hf
 rw [hzl] at r1 r4
 have HDL:=Lib.hid hdl
 have hc2 : tt<=c:=by omega
 obtain ⟨SA,hSA⟩ : ∃ SA,(if c=fr then A else Option.map (fun x=>x.add fr) A)=SA:=⟨_,rfl⟩
 have HSA:=Lib.hid (show cutA A c fr=SA from hSA)
 obtain ⟨DK,hDK⟩ : ∃ b,b=w5.heap.size:=⟨_,rfl⟩
 have X4:=Lib.hid (show SP w0 (w5.alloc (.cells #[.slice SA (tt - fr) (c - fr)] 22)) (.blk DK 22 #[.slice SA (tt - fr) (c - fr)]::.blk HB 34 #[.int .u8 H.tos,.int .u16 H.id,.bool H.df,.bool H.mf,.int .i64 H.off,.int .u8 H.ttl,.int .u8 H.proto,.int .u32 H.src,.int .u32 H.dst,.slice oA on oc]::.own .u8 5 oA on oc (optsOf zs)::.blk E1 28 #[.int .i64 0]::.blk E0 25 #[.slice none 0 0]::.blk S 3 #[.int .i64 size]::L) from (X3.out.alloc' 22 #[.slice SA (tt - fr) (c - fr)] hDK.symm).rot)
 clear hE hO hF hT hH hfr htt hf X3 hr hzl HH hdl
 go_upto_region 7 with fail
 rw [<- hDK]
 generalize w5.alloc (.cells #[.slice SA (tt - fr) (c - fr)] 22)=w6 at X4 ⊢
 clear hDK hSA
 have xD : w6.cell? ⟨DK,0,none⟩=some (.slice SA (tt - fr) (c - fr)):=X4.out.cell 0 rfl 0 rfl
 have xS : w6.cell? ⟨S,0,none⟩=some (.int .i64 size):=X4.out.cell 5 rfl 0 rfl
 have f0:=X4.out.free 4 rfl 0
 have f1:=X4.out.free 3 rfl 0
 have x0 : w6.cell? ⟨E0,0,none⟩=some (.slice none 0 0):=X4.out.cell 4 rfl 0 rfl
 have x1 : w6.cell? ⟨E1,0,none⟩=some (.int .i64 0):=X4.out.cell 3 rfl 0 rfl
 by_cases hle : ((tt - fr : Nat) : Int)<=size
 case pos =>
  have HC:=Lib.hid (clone_any A tt c (zs.take tt) w6 ((RDD.out _ X4.out.tail.tail.tail.tail.tail.tail).take r4) (by omega))
  have HLE:=Lib.hid hle
  go_wp2_with fail
  refine HC.out.mono ?_
  rintro e w7 ⟨A7,n7,c7,rfl,ho,hb⟩
  have X5:=Lib.hid ((X4.out.pushOwn hb ho).rot)
  clear ho hb x0 x1 f0 f1 xD xS HC
  obtain ⟨Q,hQ⟩ : ∃ b,b=w7.heap.size:=⟨_,rfl⟩
  have X6:=Lib.hid ((X5.out.alloc' 22 #[.slice A7 n7 c7] hQ.symm).rot)
  have f0 : (w7.alloc (.cells #[.slice A7 n7 c7] 22)).frozen? ⟨E0,0,none⟩=false:=X6.out.free 6 rfl 0
  have f1 : (w7.alloc (.cells #[.slice A7 n7 c7] 22)).frozen? ⟨E1,0,none⟩=false:=X6.out.free 5 rfl 0
  have x0 : (w7.alloc (.cells #[.slice A7 n7 c7] 22)).cell? ⟨E0,0,none⟩=some (.slice none 0 0):=X6.out.cell 6 rfl 0 rfl
  have x1 : (w7.alloc (.cells #[.slice A7 n7 c7] 22)).cell? ⟨E1,0,none⟩=some (.int .i64 0):=X6.out.cell 5 rfl 0 rfl
  have Y:=Lib.hid ((X6.out.setB 6 rfl 0 (.slice (some ⟨Q,0,none⟩) 1 1)).setB 5 rfl 0 (.int .i64 0))
  go_wp2_with fail
  rw [<- hQ]
  refine ⟨_,results_cells2 rfl _ _ E0 E1 rfl rfl Tryz.underlying25 rfl Tryz.underlying28 rfl (Y.out.cell 6 rfl 0 rfl) (Y.out.cell 5 rfl 0 rfl),?_⟩
  have hsp : splitA zs size=([zs.take tt],0):=by
   unfold splitA
   rw [if_neg (by rw [HOK.out];simp),if_neg (by simp [HF.out]),if_pos (by rw [HDL.out];exact HLE.out),HFT.out.2]
  have Y2:=Y.out.blkRow 0 rfl 1 1 rfl (by simp [maxLen])
  refine ⟨some ⟨Q,0,none⟩,1,[(⟨A7,n7,c7⟩,zs.take tt)],by rw [hsp];rfl,by rw [hsp];rfl,?_⟩
  exact Y2.sub (List.Sublist.cons_cons _ (List.Sublist.cons_cons _ (List.Sublist.cons _ (List.Sublist.cons _ (List.Sublist.cons _ (List.Sublist.cons _ (List.Sublist.cons _ (List.sublist_cons_self _ _))))))))
 case neg =>
 obtain ⟨df,hdf⟩ : ∃ b,H.df=b:=⟨_,rfl⟩
 have xdf : w6.cell? ⟨HB,2,none⟩=some (.bool df):=by rw [<- hdf];exact X4.out.cell 1 rfl 2 rfl
 have HDF:=Lib.hid (show (hdOf zs).df=df by rw [<- HHE.out];exact hdf)
 have HLE:=Lib.hid hle
 cases df
 case true =>
  have Y:=Lib.hid ((X4.out.setB 4 rfl 0 (.slice none 0 0)).setB 3 rfl 0 (.int .i64 72))
  go_wp2_with fail
  refine ⟨_,results_cells2 rfl _ _ E0 E1 rfl rfl Tryz.underlying25 rfl Tryz.underlying28 rfl (Y.out.cell 4 rfl 0 rfl) (Y.out.cell 3 rfl 0 rfl),?_⟩
  refine splitd_nil 72 ?_ Y.out.tail.tail.tail.tail.tail.tail
  unfold splitA
  rw [if_neg (by rw [HOK.out];simp),if_neg (by simp [HF.out]),if_neg (by rw [HDL.out];have:=HLE.out;omega),if_pos HDF.out]
 case false =>
 obtain ⟨sz,rfl⟩ : ∃ sz : Nat,size=(sz : Int):=⟨size.toNat,by omega⟩
 obtain ⟨dn,hdn⟩ : ∃ dn,tt - fr=dn:=⟨_,rfl⟩
 obtain ⟨dc,hdc⟩ : ∃ dc,c - fr=dc:=⟨_,rfl⟩
 have hdnc : dn<=dc:=by omega
 have hdn1 : dn<=65535:=by omega
 have hle2 : sz < dn:=by omega
 have hsz8 : 8<=sz:=by omega
 have hszm : sz % 8=0:=by omega
 have hRD : ∀ W,SP w0 W L->RD .u8 W W.heap.size SA dn (frOf zs).d:=fun W hS=>by
  have:=(RDD.out W hS).mid (lo:=fr) (hi:=tt) r3 r4 hnc
  rw [HSA.out,hdn] at this
  unfold frOf
  rw [HFT.out.1,HFT.out.2,hdn]
  exact this
 rw [hdn] at HDL HLE X4 xD
 rw [hdc] at X4 xD
 obtain ⟨db,doff,hdA,_⟩:=(hRD _ X4.out.tail.tail.tail.tail.tail.tail).2 (by omega)
 have HRD:=Lib.hid hRD
 clear hRD x0 x1 f0 f1 hdf
 rw [hdA] at xD X4 HRD
 obtain ⟨OB,hOB⟩ : ∃ b,b=w6.heap.size:=⟨_,rfl⟩
 have X5:=Lib.hid (show SP w0 (w6.alloc (.cells #[.slice none 0 0] 25)) (.blk OB 25 #[.slice none 0 0]::.blk DK 22 #[.slice (some ⟨db,doff,none⟩) dn dc]::.blk HB 34 #[.int .u8 H.tos,.int .u16 H.id,.bool H.df,.bool H.mf,.int .i64 H.off,.int .u8 H.ttl,.int .u8 H.proto,.int .u32 H.src,.int .u32 H.dst,.slice oA on oc]::.own .u8 5 oA on oc (optsOf zs)::.blk E1 28 #[.int .i64 0]::.blk E0 25 #[.slice none 0 0]::.blk S 3 #[.int .i64 (sz : Int)]::L) from (X4.out.alloc' 25 #[.slice none 0 0] hOB.symm).rot)
 go_upto_region 12 with fail
 rw [<- hOB]
 generalize w6.alloc (.cells #[.slice none 0 0] 25)=w7 at X5 ⊢
 clear hOB X4 xD xS xdf hle hs8 hsm hsz hsz0
 have xD : w7.cell? ⟨DK,0,none⟩=some (.slice (some ⟨db,doff,none⟩) dn dc):=X5.out.cell 1 rfl 0 rfl
 have xS : w7.cell? ⟨S,0,none⟩=some (.int .i64 (sz : Int)):=X5.out.cell 6 rfl 0 rfl
 go_wp2_with fail
 refine (chunk_any (some ⟨db,doff,none⟩) dn dc (sz : Int) (by omega) w7).mono ?_
 rintro e w8 ⟨rfl,hw8⟩
 obtain ⟨CB,hCB⟩ : ∃ b,b=w7.heap.size:=⟨_,rfl⟩
 obtain ⟨NB,hNB⟩ : ∃ b,b=CB + 1:=⟨_,rfl⟩
 have X6:=Lib.hid ((((X5.out.alloc' 22 #[.slice (some ⟨db,doff,none⟩) dn dc] hCB.symm).rot).alloc' (N:=NB) 3 #[.int .i64 (sz : Int)] (by rw [hNB,hCB];simp)).rot)
 rw [<- hw8] at X6
 rw [<- hCB,<- hNB]
 clear hw8 hCB hNB X5 xD xS
 go_wp2_with fail
 obtain ⟨D,hD⟩ : ∃ D,w8.heap.size=D:=⟨_,rfl⟩
 obtain ⟨f,hff⟩ : ∃ f,frOf zs=f:=⟨_,rfl⟩
 have HFF:=Lib.hid hff
 have HFO:=Lib.hid (show FOK f by rw [<- hff];exact frOf_ok HF.out HZ.out)
 have HFR:=Lib.hid (show ∀ j,sz * j < dn->Rightly (pieceF f sz j).h.off (pieceF f sz j).h.mf on (pieceF f sz j).d.length by
  intro j hj
  have hon : (optsOf zs).length=on:=(X6.out.own 5 rfl).len
  have hol:=optsOf_len HF.out
  have hfo : f.o=optsOf zs:=by rw [<- hff];rfl
  have hdl : f.d.length=dn:=by rw [<- hff];exact HDL.out
  have hrr:=HRI.out.2.2.2.2.1
  rw [HFT.out.1] at hrr hol
  have:=pieceF_right HFO.out (by rw [hfo,hol];omega) (by rw [hfo,hol,hdl];omega) hsz8 hszm (by rw [hdl];exact hj) (fun h=>(HFO.out.mf h).2)
  rw [hfo,hon] at this
  exact this)
 rw [hff] at HDL HRD
 have HDL' : f.d.length=dn:=HDL.out
 refine (wpIn_wide (n:=2)).1 ?_
 refine wpIn_range_raw (gf:=74) (lb:=#[.pointer (some ⟨CB,0,none⟩),.pointer (some ⟨NB,0,none⟩)]) rfl (fun h=>by cases h) rfl trivial (enters_of Tryz.func74 (by kernel_rfl) rfl)
  (fun W=>∃ (r : Loop) (A : Option Addr) (c : Nat) (G : List (SD × List Int)),G.map (·.2)=(pieces f sz).map bytesF∧SP w0 W ([.blk OB 25 #[.slice A G.length c],.row 22 1 A G.length c ((G).map gV),.obj D (.deferred (some [])),.obj (D + 1) (.loop r),.blk CB 22 #[.slice (some ⟨db,doff,none⟩) dn dc],.blk NB 3 #[.int .i64 (sz : Int)],.blk HB 34 #[.int .u8 H.tos,.int .u16 H.id,.bool H.df,.bool H.mf,.int .i64 H.off,.int .u8 H.ttl,.int .u8 H.proto,.int .u32 H.src,.int .u32 H.dst,.slice oA on oc],.own .u8 5 oA on oc (optsOf zs),.blk E1 28 #[.int .i64 0],.blk E0 25 #[.slice none 0 0],.blk S 3 #[.int .i64 (sz : Int)],.blk DK 22 #[.slice (some ⟨db,doff,none⟩) dn dc]]++((G).map gIT++L))) (fun W=>False) ?call ?done ?stop
 case call =>
  intro fn hfn W1 hW1 hbook
  rw [hD] at hbook ⊢
  generalize hrec : recOf fn _ _ _ _ D=rec at hbook ⊢
  have H3:=Lib.hid (show SP w0 W1 ([.blk OB 25 #[.slice none 0 0],.row 22 1 none 0 0 ((([] : List (SD × List Int))).map gV),.obj D (.deferred (some [])),.obj (D + 1) (.loop (rec .ready none)),.blk CB 22 #[.slice (some ⟨db,doff,none⟩) dn dc],.blk NB 3 #[.int .i64 (sz : Int)],.blk HB 34 #[.int .u8 H.tos,.int .u16 H.id,.bool H.df,.bool H.mf,.int .i64 H.off,.int .u8 H.ttl,.int .u8 H.proto,.int .u32 H.src,.int .u32 H.dst,.slice oA on oc],.own .u8 5 oA on oc (optsOf zs),.blk E1 28 #[.int .i64 0],.blk E0 25 #[.slice none 0 0],.blk S 3 #[.int .i64 (sz : Int)],.blk DK 22 #[.slice (some ⟨db,doff,none⟩) dn dc]]++((([] : List (SD × List Int))).map gIT++L)) by
   have h9:=((((X6.out.allocO (.deferred (some []))).rot).allocO (.loop (rec .ready none))).rot.pushRow 22 1).rot
   rw [World.size_alloc,hD] at h9
   rw [hW1,hD,hrec]
   exact SP.pickT (A:=[_,_,_,_,_,_,_,_,_,_,_,_]) (C:=L) h9 [5,0,2,1,4,3,7,8,9,10,11,6] rfl (by decide))
  clear hW1 X6
  refine (chunk1_in 1 (D + 1) CB NB (by omega) db doff dn dc sz (by omega) (by omega) (by omega) hdnc (fun k W=>∃ (A : Option Addr) (c : Nat) (G : List (SD × List Int)),G.length=k∧G.map (·.2)=((pieces f sz).take k).map bytesF∧SP w0 W ([.blk OB 25 #[.slice A k c],.row 22 1 A k c ((G).map gV),.obj D (.deferred (some [])),.obj (D + 1) (.loop (rec .ready none)),.blk CB 22 #[.slice (some ⟨db,doff,none⟩) dn dc],.blk NB 3 #[.int .i64 (sz : Int)],.blk HB 34 #[.int .u8 H.tos,.int .u16 H.id,.bool H.df,.bool H.mf,.int .i64 H.off,.int .u8 H.ttl,.int .u8 H.proto,.int .u32 H.src,.int .u32 H.dst,.slice oA on oc],.own .u8 5 oA on oc (optsOf zs),.blk E1 28 #[.int .i64 0],.blk E0 25 #[.slice none 0 0],.blk S 3 #[.int .i64 (sz : Int)],.blk DK 22 #[.slice (some ⟨db,doff,none⟩) dn dc]]++((G).map gIT++L))) ?hJ ?hdr ?hy W1 ⟨none,0,[],rfl,rfl,H3.out⟩).mono ?_
  case hJ=>exact fun k W ⟨A,c,G,h1,h2,X⟩=>⟨X.cell 4 rfl 0 rfl,X.cell 5 rfl 0 rfl⟩
  case hdr=>exact fun k W q ⟨A,c,G,h1,h2,X⟩=>⟨A,c,G,h1,h2,X.drewN q⟩
  case hy =>
   rintro k W hk ⟨Ag,cg,G,hGl,hGm,X⟩
   subst hrec
   refine yield_of_round trivial ⟨X.obj 3 rfl,X.obj 2 rfl⟩ rfl ?a1 ?assign ?body
   case assign =>
    intro W0 K0 hK0
    gi_wp2
    exact hK0
   case body =>
    intro hbusy
    have X2:=X.turn 3 rfl _ (grownBy_putObj' _ _ _) hbusy.loop
    clear hbook X
    generalize W.putObj (D + 1) _=Wb at X2 hbusy ⊢
    generalize recOf fn _ _ _ _ D=rec at X2 hbusy ⊢
    have HX:=Lib.hid X2
    have HGG:=Lib.hid (And.intro hGl hGm)
    clear X2 hbusy H3 hGl hGm
    obtain ⟨i,hi⟩ : ∃ i,sz * k=i:=⟨_,rfl⟩
    have HI:=Lib.hid hi
    have hk' : sz * k < f.d.length:=by rw [HDL'];exact hk
    have hwf:=pieceF_wf HFO.out hk'
    have hri:=HFR.out k hk
    have hpl:=pieceF_len f sz k
    rw [HDL',hi] at hpl
    rw [hi] at hk ⊢
    obtain ⟨mm,hmm⟩ : ∃ mm : Nat,min sz (dn - i)=mm:=⟨_,rfl⟩
    have hm1 : mm<=dn:=by omega
    rw [hmm] at hpl ⊢
    have HWF:=Lib.hid hwf
    have HRI2:=Lib.hid hri
    have HPL:=Lib.hid hpl
    have HHB:=Lib.hid (HX.out.blk 6 rfl)
    have xO : Wb.cell? ⟨OB,0,none⟩=some (.slice Ag k cg):=HX.out.cell 0 rfl 0 rfl
    have xS : Wb.cell? ⟨S,0,none⟩=some (.int .i64 (sz : Int)):=HX.out.cell 10 rfl 0 rfl
    have xD : Wb.cell? ⟨DK,0,none⟩=some (.slice (some ⟨db,doff,none⟩) dn dc):=HX.out.cell 11 rfl 0 rfl
    have hof:=HFO.out.off
    have hfh : f.h=H:=by rw [HHE.out,<- HFF.out];rfl
    rw [hfh] at hof
    have hkk : (sz : Int) * (k : Int)=(i : Int):=by rw [<- hi];simp
    have hkn : k<=65535:=by
     have:=Nat.mul_le_mul_right k hsz8
     omega
    have e1 : IntKind.i64.wrap ((sz : Int) * (k : Int))=(i : Int):=by rw [hkk];exact IntWalk.i64_in _ (by omega)
    have e2 : IntKind.i64.wrap (H.off + (i : Int))=H.off + (i : Int):=IntWalk.i64_in _ (by omega)
    have e3 : IntKind.i64.wrap ((i : Int) + (mm : Int))=(i : Int) + (mm : Int):=IntWalk.i64_in _ (by omega)
    obtain ⟨mf,hmf⟩ : ∃ b,H.mf=b:=⟨_,rfl⟩
    have xM : Wb.cell? ⟨HB,3,none⟩=some (.bool mf):=by rw [<- hmf];exact HX.out.cell 6 rfl 3 rfl
    have hl1 : HB < Wb.heap.size:=HHB.out.lt
    have hl2 : S < Wb.heap.size:=(HX.out.blk 10 rfl).lt
    have hl3 : OB < Wb.heap.size:=(HX.out.blk 0 rfl).lt
    have hl4 : DK < Wb.heap.size:=(HX.out.blk 11 rfl).lt
    have HMF:=Lib.hid hmf
    clear hi hk' hwf hri hpl hmf
    obtain ⟨m2,hm2⟩ : ∃ m2,(pieceF f sz k).h.mf=m2:=⟨_,rfl⟩
    have hm3 : (mf || decide ((i : Int) + (mm : Int) < (dn : Int)))=m2:=by
     rw [<- hm2]
     unfold pieceF
     simp only
     rw [hfh,HMF.out]
     congr 1
     rw [HDL',Nat.mul_add,HI.out,Nat.mul_one]
     by_cases h9 : i + sz < dn
     ·rw [decide_eq_true h9,decide_eq_true (by omega)]
     ·rw [decide_eq_false h9,decide_eq_false (by omega)]
    have HPH:=Lib.hid (show (pieceF f sz k).h.val (.slice oA on oc) = .agg #[.int .u8 H.tos,.int .u16 H.id,.bool H.df,.bool m2,.int .i64 (H.off + (i : Int)),.int .u8 H.ttl,.int .u8 H.proto,.int .u32 H.src,.int .u32 H.dst,.slice oA on oc] by
     rw [<- hm2]
     unfold HD.val HD.cells pieceF
     simp only
     rw [hfh,HI.out])
    have HW:=Lib.hid (fun W (hs : SP w0 W ([.blk OB 25 #[.slice Ag k cg],.row 22 1 Ag k cg ((G).map gV),.obj D (.deferred (some [])),.obj (D + 1) (.loop (rec .busy none)),.blk CB 22 #[.slice (some ⟨db,doff,none⟩) dn dc],.blk NB 3 #[.int .i64 (sz : Int)],.blk HB 34 #[.int .u8 H.tos,.int .u16 H.id,.bool H.df,.bool H.mf,.int .i64 H.off,.int .u8 H.ttl,.int .u8 H.proto,.int .u32 H.src,.int .u32 H.dst,.slice oA on oc],.own .u8 5 oA on oc (optsOf zs),.blk E1 28 #[.int .i64 0],.blk E0 25 #[.slice none 0 0],.blk S 3 #[.int .i64 (sz : Int)],.blk DK 22 #[.slice (some ⟨db,doff,none⟩) dn dc]]++((G).map gIT++L)))=>(show Calls Tryz.prog 7 #[.agg #[.int .u8 H.tos,.int .u16 H.id,.bool H.df,.bool m2,.int .i64 (H.off + (i : Int)),.int .u8 H.ttl,.int .u8 H.proto,.int .u32 H.src,.int .u32 H.dst,.slice oA on oc],.slice (some ⟨db,doff + i,none⟩) mm mm] W (WroteP W (bytesF (pieceF f sz k)) 0) by
     have hod : f.o=optsOf zs:=by rw [<- HFF.out];rfl
     have hrd:=(HRD.out W hs.right.right).mid (lo:=i) (hi:=i + mm) (by omega) (by omega) hdnc
     have hcu : cutA (some ⟨db,doff,none⟩) dc i=some ⟨db,doff + i,none⟩:=by unfold cutA;rw [if_neg (by omega)];simp [Addr.add]
     have hd2 : (f.d.drop i).take (i + mm - i)=(pieceF f sz k).d:=by
      unfold pieceF
      simp only
      rw [HI.out,show i + mm - i=mm by omega,<- hmm]
      apply List.ext_getElem?
      intro q
      rw [List.getElem?_take,List.getElem?_take]
      by_cases h1 : q < min sz (dn - i)
      ·rw [if_pos h1,if_pos (by omega)]
      ·rw [if_neg h1]
       by_cases h2 : q < sz
       ·rw [if_pos h2,List.getElem?_eq_none (by rw [List.length_drop,HDL'];omega)]
       ·rw [if_neg h2]
     rw [hcu,hd2,show i + mm - i=mm by omega] at hrd
     have hro : RD .u8 W W.heap.size oA on (pieceF f sz k).o:=by show RD .u8 W W.heap.size oA on f.o;rw [hod];exact hs.rd 7 rfl
     have h1:=write_any (pieceF f sz k).h oA on oc (pieceF f sz k).o (some ⟨db,doff + i,none⟩) mm mm (pieceF f sz k).d W HWF.out hro (by show BD 255 f.o;exact HFO.out.op.1) hrd (by have:=hro.len;have h2 : (pieceF f sz k).o.length<=40:=HFO.out.op.2;omega) (by omega)
     have hR:=HRI2.out
     rw [HPL.out] at hR
     rw [HPH.out] at h1
     have eE : wrE (pieceF f sz k).h on mm=0:=by unfold wrE;rw [if_pos hR]
     have eB : wrB (pieceF f sz k).h (pieceF f sz k).o (pieceF f sz k).d=bytesF (pieceF f sz k):=by
      unfold wrB bytesF;rw [HPL.out,hro.len,if_pos hR]
     rw [eE,eB] at h1
     exact h1))
    clear hm2 hmm hof hfh
    cases mf
    ·have hm4 : decide ((i : Int) + (mm : Int) < (dn : Int))=m2:=by simpa using hm3
     clear hm3
     gi_wp2_with (first | (refine wpListIn_load_row rfl 34 _ rfl HB rfl 34 #[.int .u8 H.tos,.int .u16 H.id,.bool H.df,.bool H.mf,.int .i64 H.off,.int .u8 H.ttl,.int .u8 H.proto,.int .u32 H.src,.int .u32 H.dst,.slice oA on oc] (0,0) _ HHB.out Tryz.underlying34 rfl (by kernel_rfl) ?_))
     refine ⟨trivial,rfl,(CallsIn.inRound (D + 1) (callsIn_wide.2 (HW.out _ (HX.out.next ((Below.refl _ Wb).alloc (Nat.le_refl _) _))))).mono ?_⟩
     rintro e W4 ⟨A5,n5,c5,rfl,ho,hb⟩
     have X4:=Lib.hid ((HX.out.next ((Below.refl _ Wb).alloc (Nat.le_refl _) _)).pushOwn hb ho)
     clear ho hb HW xO xS xD xM
     have X5:=Lib.hid (X4.out.next ((Below.refl _ W4).alloc (Nat.le_refl _) (.cells #[.slice A5 n5 c5] 22)))
     have xO : W4.cell? ⟨OB,0,none⟩=some (.slice Ag k cg):=X4.out.cell 0 rfl 0 rfl
     clear X4
     obtain ⟨i9,hi9,hy0,hy1,hy2⟩:=info_parts (show (Tryz.prog.info? 22).map (fun i=>(i.zero,i.size,i.bytes))=some (some (.slice none 0 0),1,24) by kernel_rfl)
     gi_wp2_with (refine wpListIn_append_row1 _ rfl _ _ 25 rfl w0.heap.size 22 i9 _ 1 24 Tryz.underlying25 hi9 hy0 hy1 hy2 (by rfl) (by decide) Ag k cg (G.map gV) rfl (X5.out.row 1 rfl) ⟨W4.heap.size,0,none⟩ 1 1 [.slice A5 n5 c5] rfl rfl (one_new W4 22 _) (by intro z hz;simp at hz;subst hz;rfl) (by simp only [maxLen];omega) (by omega) X5.out.size ?_;intro A6 c6 W6 hrow hgrow hat;have X6:=Lib.hid (X5.out.appRow 1 rfl hrow hgrow hat);clear hrow hgrow hat;have xO2 : W6.cell? ⟨OB,0,none⟩=some (.slice Ag k cg):=X6.out.cell 0 rfl 0 rfl;have fO2:=X6.out.free 0 rfl 0)
     have Y:=X6.out.setB 0 rfl 0 (.slice A6 (k + 1) c6)
     have Y2:=Y.turn 3 rfl (.loop (rec .ready none)) (grownBy_putObj' _ _ _) (World.putObj_heap_same (Y.all 3 _ rfl |>.lt rfl).2)
     refine ⟨⟨Y.obj 3 rfl,Y.obj 2 rfl⟩,rfl,A6,c6,G++[(⟨A5,n5,c5⟩,bytesF (pieceF f sz k))],by rw [List.length_append,HGG.out.1];rfl,?_,?_⟩
     ·rw [List.map_append,HGG.out.2,List.take_add_one,pieces_get ((lt_cnt (by omega)).2 (by rw [HDL',HI.out];exact hk)),List.map_append]
      rfl
     ·have Z:=SP.rot (L:=[_,_,_,_,_,_,_,_,_,_,_,_]++(G.map gIT++L)) Y2
      have Z2:=SP.backOf (A:=[_,_,_,_,_,_,_,_,_,_,_,_]++G.map gIT) (C:=L) (by rw [List.append_assoc];exact Z)
      have e1 : (G++[((⟨A5,n5,c5⟩ : SD),bytesF (pieceF f sz k))]).map gIT++L=G.map gIT++(.own .u8 5 A5 n5 c5 (bytesF (pieceF f sz k))::L):=by simp [gIT]
      have e2 : (G++[((⟨A5,n5,c5⟩ : SD),bytesF (pieceF f sz k))]).map gV=G.map gV++[.slice A5 n5 c5]:=by simp [gV,SD.val]
      rw [e1,e2]
      rw [List.append_assoc] at Z2
      exact Z2
    ·obtain rfl : true=m2:=by simpa using hm3
     clear hm3
     gi_wp2_with (first | (refine wpListIn_load_row rfl 34 _ rfl HB rfl 34 #[.int .u8 H.tos,.int .u16 H.id,.bool H.df,.bool H.mf,.int .i64 H.off,.int .u8 H.ttl,.int .u8 H.proto,.int .u32 H.src,.int .u32 H.dst,.slice oA on oc] (0,0) _ HHB.out Tryz.underlying34 rfl (by kernel_rfl) ?_))
     refine ⟨trivial,rfl,(CallsIn.inRound (D + 1) (callsIn_wide.2 (HW.out _ (HX.out.next ((Below.refl _ Wb).alloc (Nat.le_refl _) _))))).mono ?_⟩
     rintro e W4 ⟨A5,n5,c5,rfl,ho,hb⟩
     have X4:=Lib.hid ((HX.out.next ((Below.refl _ Wb).alloc (Nat.le_refl _) _)).pushOwn hb ho)
     clear ho hb HW xO xS xD xM
     have X5:=Lib.hid (X4.out.next ((Below.refl _ W4).alloc (Nat.le_refl _) (.cells #[.slice A5 n5 c5] 22)))
     have xO : W4.cell? ⟨OB,0,none⟩=some (.slice Ag k cg):=X4.out.cell 0 rfl 0 rfl
     clear X4
     obtain ⟨i9,hi9,hy0,hy1,hy2⟩:=info_parts (show (Tryz.prog.info? 22).map (fun i=>(i.zero,i.size,i.bytes))=some (some (.slice none 0 0),1,24) by kernel_rfl)
     gi_wp2_with (refine wpListIn_append_row1 _ rfl _ _ 25 rfl w0.heap.size 22 i9 _ 1 24 Tryz.underlying25 hi9 hy0 hy1 hy2 (by rfl) (by decide) Ag k cg (G.map gV) rfl (X5.out.row 1 rfl) ⟨W4.heap.size,0,none⟩ 1 1 [.slice A5 n5 c5] rfl rfl (one_new W4 22 _) (by intro z hz;simp at hz;subst hz;rfl) (by simp only [maxLen];omega) (by omega) X5.out.size ?_;intro A6 c6 W6 hrow hgrow hat;have X6:=Lib.hid (X5.out.appRow 1 rfl hrow hgrow hat);clear hrow hgrow hat;have xO2 : W6.cell? ⟨OB,0,none⟩=some (.slice Ag k cg):=X6.out.cell 0 rfl 0 rfl;have fO2:=X6.out.free 0 rfl 0)
     have Y:=X6.out.setB 0 rfl 0 (.slice A6 (k + 1) c6)
     have Y2:=Y.turn 3 rfl (.loop (rec .ready none)) (grownBy_putObj' _ _ _) (World.putObj_heap_same (Y.all 3 _ rfl |>.lt rfl).2)
     refine ⟨⟨Y.obj 3 rfl,Y.obj 2 rfl⟩,rfl,A6,c6,G++[(⟨A5,n5,c5⟩,bytesF (pieceF f sz k))],by rw [List.length_append,HGG.out.1];rfl,?_,?_⟩
     ·rw [List.map_append,HGG.out.2,List.take_add_one,pieces_get ((lt_cnt (by omega)).2 (by rw [HDL',HI.out];exact hk)),List.map_append]
      rfl
     ·have Z:=SP.rot (L:=[_,_,_,_,_,_,_,_,_,_,_,_]++(G.map gIT++L)) Y2
      have Z2:=SP.backOf (A:=[_,_,_,_,_,_,_,_,_,_,_,_]++G.map gIT) (C:=L) (by rw [List.append_assoc];exact Z)
      have e1 : (G++[((⟨A5,n5,c5⟩ : SD),bytesF (pieceF f sz k))]).map gIT++L=G.map gIT++(.own .u8 5 A5 n5 c5 (bytesF (pieceF f sz k))::L):=by simp [gIT]
      have e2 : (G++[((⟨A5,n5,c5⟩ : SD),bytesF (pieceF f sz k))]).map gV=G.map gV++[.slice A5 n5 c5]:=by simp [gV,SD.val]
      rw [e1,e2]
      rw [List.append_assoc] at Z2
      exact Z2
  rintro e W2 ⟨hv,A,c,G,h1,h2,X⟩
  refine ⟨hv,.inl ⟨⟨X.obj 3 rfl,X.obj 2 rfl⟩,rec .ready none,A,c,G,?_,?_⟩⟩
  ·rw [h2,List.take_of_length_le (by unfold pieces;rw [List.length_map,List.length_range,HDL.out];exact Nat.le_refl _)]
  ·rw [h1];exact X
 case done =>
  rintro W2 r r' hl2 hdf ⟨r0,A,c,G,hG,X⟩
  rw [hD] at hl2 hdf ⊢
  have X2:=X.turn 3 rfl (.loop r') (grownBy_putObj' _ _ _) (World.putObj_heap_same (X.all 3 _ rfl |>.lt rfl).2)
  generalize W2.putObj (D + 1) (.loop r')=W3 at X2 ⊢
  have HX:=Lib.hid X2
  clear X X2 hl2 hdf
  have xO : W3.cell? ⟨OB,0,none⟩=some (.slice A G.length c):=HX.out.cell 0 rfl 0 rfl
  have x0 : W3.cell? ⟨E0,0,none⟩=some (.slice none 0 0):=HX.out.cell 9 rfl 0 rfl
  have x1 : W3.cell? ⟨E1,0,none⟩=some (.int .i64 0):=HX.out.cell 8 rfl 0 rfl
  have f0:=HX.out.free 9 rfl 0
  have f1:=HX.out.free 8 rfl 0
  have Y:=Lib.hid ((HX.out.setB 9 rfl 0 (.slice A G.length c)).setB 8 rfl 0 (.int .i64 0))
  go_wp2_with fail
  refine ⟨by simp,.inl ⟨D,_,rfl,run_takeDeferred (Y.out.obj 2 rfl),?_⟩⟩
  have Z:=Y.out.turn 2 rfl (.deferred none) (grownBy_putObj' _ _ _) (World.putObj_heap_same (Y.out.all 2 _ rfl |>.lt rfl).2)
  refine ⟨_,results_cells2 rfl _ _ E0 E1 rfl rfl Tryz.underlying25 rfl Tryz.underlying28 rfl (Z.cell 9 rfl 0 rfl) (Z.cell 8 rfl 0 rfl),?_⟩
  have hsp : splitA zs (sz : Int)=((pieces f sz).map bytesF,0):=by
   unfold splitA
   rw [if_neg (by rw [HOK.out];simp),if_neg (by simp [HF.out]),HFF.out,if_neg (by rw [HDL.out];omega),HDF.out]
   rfl
  refine ⟨A,c,G,by rw [hsp];rfl,by rw [hsp];exact hG,?_⟩
  exact SP.pickT (A:=[_,_,_,_,_,_,_,_,_,_,_,_]) (B:=[_]) Z [1] rfl (by decide)
 case stop =>
  rintro W2 r r' hl2 hdf h
  exact h.elim
end Go.Proofs.YtljbfnabnkkfeaaGreat
namespace Go.Proofs.YtljbfnabnkkfeaaGreat
open Go.RowKit
theorem results_cell_tmp1 {P : Program} {fn : Func} {p u1 : Tmp} {ty : TypeId} (h : fn.results = #[.cell p ty,.tmp u1]) (tmps : Array Value) (w : World) (g : Nat) (t : TypeId) (cs : Array Value) (fr : Nat × Nat) (d : TypeDesc)
 (hp : tmps.getD p undef = .pointer (some ⟨g,0,none⟩)) (hg : w.heap[g]?=some (.cells cs t fr))
 (hu : P.underlying ty=some d) (hd : (match d with | .struct _ | .array _ _=>true | _=>false)=true) (hi : (P.info? ty).map (·.size)=some cs.size) :
 (results fn tmps).run P w = .ok (.tuple #[.agg cs,tmps.getD u1 undef]) w:=by
 have hp' : tmps[p]?.getD undef = .pointer (some ⟨g,0,none⟩):=by simpa using hp
 simp [results,h,hp',asAddr,run_loadVar_row w g t ty cs fr d hg hu hd hi]
section
variable {w0 w w' : World} {N : Nat} {bx ar : Array Value} {H : HD} {A : Option Addr} {n : Nat} {zs : List Int} {Ao : Option Addr} {on oc : Nat} {opts : List Int}
end
end Go.Proofs.YtljbfnabnkkfeaaGreat
namespace Go.Proofs.YtljbfnabnkkfeaaGreat
open Go.RowKit
theorem pkt_len (h : HD) (opts data : List Int) : (pktB h opts data).length=20 + opts.length + data.length:=by
 unfold pktB;rw [List.length_append,fixOf_len,headB_len]
def EX7h : HD:=⟨0,9,false,false,0,64,17,167772161,167772162⟩
def EX7d : List Int:=[0,1,2,3,4,5,6,7,8,9,10,11,12,13,14,15,16,17,18,19]
def EX7 : List Int:=pktB EX7h [] EX7d
theorem ex7_wf : EX7h.WF:=⟨by simp [EX7h],by simp [EX7h],by simp [EX7h],by simp [EX7h],by simp [EX7h],by simp [EX7h],by simp [EX7h]⟩
set_option maxHeartbeats 1000000 in
set_option maxRecDepth 100000 in
theorem ex7_any (w : World) : Calls Tryz.prog 4 #[] w (Fresh w EX7):=by
 go_enter Tryz.func4,Tryz.ntmps4
 go_wp2_with fail
 have hw:=write_any EX7h none 0 0 [] (some ⟨w.heap.size,0,none⟩) 20 20 EX7d (w.alloc (.cells (EX7d.map (Value.int .u8)).toArray 5)) ex7_wf RD.nil (fun x hx=>by cases hx) (RD.new w .u8 5 EX7d) (by omega) (by omega)
 refine hw.mono ?_
 rintro e w1 ⟨A,n,c,rfl,ho,hb⟩
 have e1 : wrB EX7h [] EX7d=EX7:=by unfold wrB;rw [if_pos (by decide)];rfl
 rw [e1] at ho
 go_wp2_with fail
 go_ret
 exact ⟨A,n,c,rfl,ho.mono (by simp),((Below.refl _ w).alloc (Nat.le_refl _) _).trans (hb.mono (by simp))⟩
section
variable {h : HD} {o d : List Int} {f q : FR} {p : List FR} {g : AG} {now : Int}
theorem splice_get {zs : List Int} {p : Nat × List Int} (h : pe p<=zs.length) (x : Nat) : (splice zs p)[x]?=if p.1<=x∧x < pe p then p.2[x - p.1]? else zs[x]?:=by
 unfold splice
 unfold pe at *
 rw [List.take_of_length_le (l:=p.2) (by omega)]
 by_cases h1 : x < p.1
 ·rw [if_neg (by omega),List.getElem?_append_left (by rw [List.length_take];omega),List.getElem?_take_of_lt h1]
 ·rw [List.getElem?_append_right (by rw [List.length_take];omega),List.length_take]
  by_cases h2 : x < p.1 + p.2.length
  ·rw [if_pos (by omega),List.getElem?_append_left (by omega)]
   congr 1;omega
  ·rw [if_neg (by omega),List.getElem?_append_right (by omega),List.getElem?_drop]
   congr 1;omega
theorem asm_get {d : List Int} : ∀ (ps : List (Nat × List Int)) (zs : List Int),zs.length=d.length->(∀ p ∈ ps,pe p<=d.length∧p.2=(d.drop p.1).take p.2.length)->∀ x,(zs[x]?=d[x]?∨∃ p ∈ ps,p.1<=x∧x < pe p)->(ps.foldl splice zs)[x]?=d[x]?
 | [],zs,_,_,x,hx=>by
   rcases hx with hx | ⟨p,hp,_⟩
   ·exact hx
   ·cases hp
 | p::ps,zs,hl,h,x,hx=>by
   obtain ⟨h1,h2⟩:=h p (by simp)
   rw [List.foldl_cons]
   refine asm_get ps _ ((splice_len (by omega)).trans hl) (fun q hq=>h q (by simp [hq])) x ?_
   rw [splice_get (by omega)]
   by_cases hc : p.1<=x∧x < pe p
   ·left
    rw [if_pos hc,h2]
    unfold pe at hc
    rw [List.getElem?_take_of_lt (by omega),List.getElem?_drop]
    congr 1;omega
   ·rw [if_neg hc]
    rcases hx with hx | ⟨q,hq,hc2⟩
    ·exact .inl hx
    ·rcases List.mem_cons.1 hq with rfl | hq
     ·exact absurd hc2 hc
     ·exact .inr ⟨q,hq,hc2⟩
variable {m : Option AG}
end
end Go.Proofs.YtljbfnabnkkfeaaGreat
namespace Go.Proofs.YtljbfnabnkkfeaaGreat
open Go.RowKit
def oth (h : HD) (gs : List AG) : List AG:=gs.filter (fun g=>!sameK h g)
section
variable {h : HD} {o d : List Int} {f : FR} {T : AT} {now : Int} {m : Option AG}
end
section
variable {h : HD} {o d : List Int}
end
end Go.Proofs.YtljbfnabnkkfeaaGreat
namespace Go.Proofs.YtljbfnabnkkfeaaGreat
open Go.RowKit
section
variable {h : HD} {o d : List Int}
end
end Go.Proofs.YtljbfnabnkkfeaaGreat
namespace Go.Proofs.YtljbfnabnkkfeaaGreat
open Go.RowKit
section
variable {h : HD} {o d : List Int}
end
end Go.Proofs.YtljbfnabnkkfeaaGreat
namespace Go.Proofs.YtljbfnabnkkfeaaGreat
open Go.RowKit
section
variable {h : HD} {o d : List Int}
variable {s k : Nat} {X : FR}
end
section
variable {h hB : HD} {o d : List Int} {s : Nat}
end
end Go.Proofs.YtljbfnabnkkfeaaGreat
