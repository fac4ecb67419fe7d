import Derived.Lib.SliceRun
import Derived.LaidEql
import Derived.Test.YtljbfnabnkkfeaaGreatSL08
set_option linter.unusedVariables false
set_option linter.unusedSimpArgs false
/- Joined by program: FgDel. -/
namespace Go.Proofs.YtljbfnabnkkfeaaGreat
open Go.RowKit
theorem eql_same {P : Program} (w : World) {tp te : TypeId} {j : TypeInfo} (a : Addr) (hp : P.underlying tp=some (.pointer te)) (hte : P.info? te=some j) :
 (binOp .eql tp (.pointer (some a)) (.pointer (some a))).run P w = .ok (.bool true) w:=by
 have h : ∀ d : Nat,(Op.equalIn (d + 1) tp (.pointer (some a)) (.pointer (some a))).run P w = .ok true w:=fun d=>by
  simp [Op.equalIn,run_underlying hp,sizeOf,typeInfo,hte,run_sameAddr_same]
 simp only [binOp]
 simp [Op.equal,Op.maxDepth,h 9999]
theorem eql_other {P : Program} (w : World) {tp te : TypeId} {j : TypeInfo} {a b : Addr} {ca cb : Array Value} {ta tb : TypeId} (hp : P.underlying tp=some (.pointer te)) (hte : P.info? te=some j) (hsz : j.size≠0)
 (hne : a≠b) (ha : w.heap[a.block]?=some (.cells ca ta (0,0))) (hb : w.heap[b.block]?=some (.cells cb tb (0,0))) :
 (binOp .eql tp (.pointer (some a)) (.pointer (some b))).run P w = .ok (.bool false) w:=by
 have h : ∀ d : Nat,(Op.equalIn (d + 1) tp (.pointer (some a)) (.pointer (some b))).run P w = .ok false w:=fun d=>by
  simp [Op.equalIn,run_underlying hp,sizeOf,typeInfo,hte,hsz,run_sameAddr_other w hne ha hb]
 simp only [binOp]
 simp [Op.equal,Op.maxDepth,h 9999]
theorem SP.setRw {w0 w : World} {L : List IT} (H : SP w0 w L) (i : Nat) {e : TypeId} {m g n c : Nat} {vs : List Value} (hi : L[i]?=some (.row e m (some ⟨g,0,none⟩) n c vs)) (j : Nat) (v : Value) :
 SP w0 (w.setCell ⟨g,j,none⟩ v) (L.set i (.row e m (some ⟨g,0,none⟩) n c (vs.set j v))) :=
 H.upd hi ((Below.refl _ w).setCell (p:=⟨g,j,none⟩) ((H.all i _ hi).lt rfl).1 v) (World.ownsRow.stored (H.row i hi) j v).1 (.inl rfl) fun b _ hb=>Below.heap_setCell w _ _ b (fun h=>hb (by rw [h];rfl))
theorem row_cut {w : World} {base : Nat} {e : TypeId} {A : Option Addr} {n c k : Nat} {vs : List Value} (h : w.ownsRow base e 1 (.slice A n c) n vs) (hk : k<=n) : w.ownsRow base e 1 (.slice A k c) k (vs.take k):=by
 have hl:=h.1
 refine ⟨by simp;omega,?_⟩
 rcases h.2 with ⟨h1,rfl⟩ | ⟨g,cap,cur,h1,h2,h3,h4,h5,h6,h7⟩
 ·obtain rfl : k=0:=by omega
  exact .inl ⟨h1,rfl⟩
 ·simp at h1
  obtain ⟨rfl,rfl⟩:=h1
  refine .inr ⟨g,c,cur,rfl,h2,h3,by omega,h5,h6,?_⟩
  have : cur.toList.take (k * 1)=(cur.toList.take (n * 1)).take (k * 1):=by rw [List.take_take];congr 1;omega
  rw [this,h7,Nat.mul_one]
theorem SP.cutRw {w0 w : World} {L : List IT} (H : SP w0 w L) (i : Nat) {e : TypeId} {A : Option Addr} {n c k : Nat} {vs : List Value} (hi : L[i]?=some (.row e 1 A n c vs)) (hk : k<=n) : SP w0 w (L.set i (.row e 1 A k c (vs.take k))) :=
 H.upd hi (Below.refl _ _) (row_cut (H.row i hi) hk) (.inl rfl) fun b _ _=>rfl
def PTRS (w : World) (A : Option Addr) (n : Nat) (Ns : List Nat) : Prop :=
 Ns.length=n∧(0 < n->∃ g,A=some ⟨g,0,none⟩∧g < w.heap.size∧∀ i,i < n->w.cell? ⟨g,i,none⟩=some (pv (Ns[i]?.getD 0)))
theorem ptrs_of_row {w : World} {base n c : Nat} {A : Option Addr} {Ns : List Nat} (h : w.ownsRow base 82 1 (.slice A n c) n (Ns.map pv)) : PTRS w A n Ns∧n<=c:=by
 have hl : Ns.length=n:=by have:=h.1;simpa using this
 rcases h.2 with ⟨h1,h2⟩ | ⟨g,cap,cur,h1,h2,h3,h4,h5,h6,h7⟩
 ·simp at h1
  exact ⟨⟨hl,fun hn=>by omega⟩,by omega⟩
 ·simp at h1
  obtain ⟨rfl,rfl⟩:=h1
  refine ⟨⟨hl,fun hn=>⟨g,rfl,(Array.getElem?_eq_some_iff.1 h3).1,fun i hi=>?_⟩⟩,h4⟩
  rw [World.ownsRow.cellAt h i (by omega),List.getElem?_map,List.getElem?_eq_getElem (by omega)]
  rfl
set_option maxHeartbeats 400000 in
theorem forget1_any (X N BV : Nat) (w : World) (hX : ∃ t cs,BLOCK w X t cs) (hN : ∃ t cs,BLOCK w N t cs) (hc : w.cell? ⟨BV,0,none⟩=some (pv N)) :
 Calls Tryz.prog 72 #[pv X,.pointer (some ⟨BV,0,none⟩)] w fun e w'=>e = .returned (.bool (X == N))∧w'=w:=by
 obtain ⟨j,hj,hj4⟩:=Option.map_eq_some_iff.1 (show (Tryz.prog.info? 88).map (·.size)=some 18 by kernel_rfl)
 obtain ⟨t1,c1,b1⟩:=hX
 obtain ⟨t2,c2,b2⟩:=hN
 unfold pv at *
 by_cases h : X=N
 ·subst h
  have k0 : (binOp .eql 82 (.pointer (some ⟨X,0,none⟩)) (.pointer (some ⟨X,0,none⟩))).run Tryz.prog w = .ok (.bool true) w:=eql_same w _ Tryz.underlying82 hj
  go_enter Tryz.func72,Tryz.ntmps72
  go_wp2_with fail
  go_ret
  exact ⟨by simp,rfl⟩
 ·have k0 : (binOp .eql 82 (.pointer (some ⟨X,0,none⟩)) (.pointer (some ⟨N,0,none⟩))).run Tryz.prog w = .ok (.bool false) w:=eql_other w Tryz.underlying82 hj (by omega) (fun e=>by cases e;exact h rfl) b1 b2
  have h2 : (X == N)=false:=by simpa using h
  clear b1 b2
  go_enter Tryz.func72,Tryz.ntmps72
  go_wp2_with fail
  go_ret
  exact ⟨by rw [h2];rfl,rfl⟩
set_option maxHeartbeats 1000000 in
set_option maxRecDepth 100000 in
theorem index_any (A : Option Addr) (n c : Nat) (Ns : List Nat) (N BV k : Nat) (w : World) (hp : PTRS w A n Ns) (hn : n<=100000) (hB : ∀ X ∈ Ns,∃ t cs,BLOCK w X t cs) (hc : w.cell? ⟨BV,0,none⟩=some (pv N)) (hk : Ns[k]?=some N) (hb : ∀ i,i < k->Ns[i]?≠some N) :
 Calls Tryz.prog 93 #[.slice A n c,.func (.func 72) #[] #[.pointer (some ⟨BV,0,none⟩)]] w fun e w'=>e = .returned (.int .i64 (k : Int))∧w'=w:=by
 have hkn : k < n:=by rw [<- hp.1];exact (List.getElem?_eq_some_iff.1 hk).1
 obtain ⟨g,rfl,_,hcells⟩:=hp.2 (by omega)
 have HC:=Lib.hid hcells
 have HL:=Lib.hid hp.1
 have HBL:=Lib.hid hB
 have HCV:=Lib.hid hc
 have HK:=Lib.hid hk
 have HNB:=Lib.hid hb
 have HN:=Lib.hid (hB N (List.mem_of_getElem? hk))
 clear hp hB hc hk hb hcells
 go_enter Tryz.func93,Tryz.ntmps93
 go_wp2_with fail
 go_loop [8] (fun s=>∃ i : Nat,i<=k∧s = .int .i64 (i : Int)) (fun s=>n - (intOf s).toNat)
 case atStart=>exact ⟨0,by omega,rfl⟩
 case round =>
  obtain ⟨i,hi,rfl⟩:=hrel
  have t1 : (i : Int) < (n : Int):=by omega
  have t0 : (0 : Int)<=(i : Int):=by omega
  obtain ⟨X,hX⟩ : ∃ X,Ns[i]?.getD 0=X:=⟨_,rfl⟩
  have x1:=HC.out i (by omega)
  rw [hX] at x1
  have hXs : Ns[i]?=some X:=by rw [<- hX,List.getElem?_eq_getElem (by have:=HL.out;omega)];rfl
  have HF:=Lib.hid (forget1_any X N BV w (HBL.out X (List.mem_of_getElem? hXs)) HN.out HCV.out)
  unfold pv at x1 HF
  by_cases hik : i=k
  ·subst hik
   have hXN : X=N:=by have:=HK.out;rw [hXs] at this;exact Option.some.inj this
   subst hXN
   rw [show (X == X)=true by simp] at HF
   clear hX hXs
   go_wp2_with fail
   refine HF.out.mono ?_
   rintro e w2 ⟨rfl,hw⟩
   obtain rfl:=hw
   go_wp2_with fail
   go_ret
   exact ⟨rfl,rfl⟩
  ·have hXN : X≠N:=fun e=>HNB.out i (by omega) (by rw [hXs,e])
   rw [show (X == N)=false by simpa using hXN] at HF
   clear hX hXs
   go_wp2_with fail
   refine HF.out.mono ?_
   rintro e w2 ⟨rfl,hw⟩
   obtain rfl:=hw
   go_wp2_with fail
   go_round
   case rel=>exact ⟨i + 1,by omega,by go_num⟩
   case measure=>simp [intOf];omega
def SHIFT (Ns Ms : List Nat) (k j : Nat) : Prop:=Ms.length=Ns.length∧∀ i,i < Ns.length->Ms[i]?=if i < k∨j<=i + 1 then Ns[i]? else Ns[i + 1]?
theorem SHIFT.start {Ns : List Nat} {k : Nat} (hk : k < Ns.length) : SHIFT Ns Ns k (k + 1):=⟨rfl,fun i hi=>by
 by_cases h : i < k∨k + 1<=i + 1
 ·rw [if_pos h]
 ·omega⟩
theorem SHIFT.step {Ns Ms : List Nat} {k j X : Nat} (h : SHIFT Ns Ms k j) (hk : k < j) (hj : j < Ns.length) (hX : Ns[j]?=some X) : SHIFT Ns (Ms.set (j - 1) X) k (j + 1):=by
 refine ⟨by simpa using h.1,fun i hi=>?_⟩
 by_cases hij : i=j - 1
 ·subst hij
  rw [List.getElem?_set_self (by have:=h.1;omega),if_neg (by omega),show j - 1 + 1=j by omega,hX]
 ·rw [List.getElem?_set_ne (fun e=>hij e.symm),h.2 i hi]
  by_cases hc : i < k∨j<=i + 1
  ·rw [if_pos hc,if_pos (by omega)]
  ·rw [if_neg hc,if_neg (by omega)]
theorem SHIFT.end_ {Ns Ms : List Nat} {k : Nat} (h : SHIFT Ns Ms k Ns.length) (hk : k < Ns.length) : Ms.take (Ns.length - 1)=Ns.eraseIdx k:=by
 apply List.ext_getElem?
 intro i
 rw [List.getElem?_take,List.getElem?_eraseIdx]
 by_cases hi : i < Ns.length - 1
 ·rw [if_pos hi,h.2 i (by omega)]
  by_cases hik : i < k
  ·rw [if_pos (.inl hik),if_pos hik]
  ·rw [if_neg (by omega),if_neg hik]
 ·rw [if_neg hi]
  by_cases hik : i < k
  ·omega
  ·rw [if_neg hik,List.getElem?_eq_none (by omega)]
theorem nodup_inj {l : List Nat} (h : l.Nodup) {i j x : Nat} (hi : l[i]?=some x) (hj : l[j]?=some x) : i=j:=by
 obtain ⟨h1,h2⟩:=List.getElem?_eq_some_iff.1 hi
 obtain ⟨h3,h4⟩:=List.getElem?_eq_some_iff.1 hj
 have hp:=List.pairwise_iff_getElem.1 h
 rcases Nat.lt_trichotomy i j with h5 | h5 | h5
 ·exact absurd (h2.trans h4.symm) (hp i j h1 h3 h5)
 ·exact h5
 ·exact absurd (h4.trans h2.symm) (hp j i h3 h1 h5)
theorem zeroPG : ∀ w : World,(zeroValue 82).run Tryz.prog w = .ok (.pointer none) w:=fun w=>by kernel_rfl
set_option maxHeartbeats 1000000 in
set_option maxRecDepth 100000 in
theorem delete_any {w0 w : World} {R : List IT} (A : Option Addr) (n c : Nat) (Ns : List Nat) (N BV k : Nat) (H : SP w0 w (.row 82 1 A n c (Ns.map pv)::.blk BV 82 #[pv N]::R)) (hn : n<=100000) (hB : ∀ W,SP w0 W R->∀ X ∈ Ns,∃ t cs,BLOCK W X t cs) (hk : Ns[k]?=some N) (hd : Ns.Nodup) :
 Calls Tryz.prog 71 #[.slice A n c,.func (.func 72) #[] #[.pointer (some ⟨BV,0,none⟩)]] w fun e w'=>e = .returned (.slice A (n - 1) c)∧SP w0 w' (.row 82 1 A (n - 1) c ((Ns.eraseIdx k).map pv)::.blk BV 82 #[pv N]::R):=by
 obtain ⟨i0,hi,hz0,hz1,hz2⟩:=info_parts (show (Tryz.prog.info? 82).map (fun i=>(i.zero,i.size,i.bytes))=some (some (.pointer none),1,8) by kernel_rfl)
 obtain ⟨hp,hnc⟩:=ptrs_of_row (H.row 0 rfl)
 have hl:=hp.1
 have hkn : k < n:=by rw [<- hl];exact (List.getElem?_eq_some_iff.1 hk).1
 obtain ⟨g,rfl,_,_⟩:=hp.2 (by omega)
 have hne : ∀ i,i≠k->Ns[i]?≠some N:=fun i hik e=>hik (nodup_inj hd e hk)
 have HIX:=Lib.hid (index_any (some ⟨g,0,none⟩) n c Ns N BV k w hp hn (hB w H.tail.tail) (H.cell 1 rfl 0 rfl) hk (fun i hi=>hne i (by omega)))
 have HH:=Lib.hid H
 have HB:=Lib.hid hB
 have HK:=Lib.hid hk
 have HNE:=Lib.hid hne
 have HL:=Lib.hid hl
 clear H hB hk hd hne hl hp
 go_enter Tryz.func71,Tryz.ntmps71
 go_wp2_with fail
 refine HIX.out.mono ?_
 rintro e w1 ⟨rfl,hw⟩
 obtain rfl:=hw
 have b0 : ((k : Int) == -1)=false:=by simp
 have e0 : IntKind.i64.wrap ((k : Int) + 1)=(k : Int) + 1:=IntWalk.i64_in _ (by omega)
 clear HIX
 go_upto_region 5 with fail
 clear b0 e0
 obtain ⟨k1,hk1⟩ : ∃ k1 : Nat,k1=k + 1:=⟨_,rfl⟩
 have HK1:=Lib.hid hk1
 rw [show (k : Int) + 1=(k1 : Int) by omega]
 clear hk1
 go_loopw [5,6] (fun s5 s6 wr=>∃ (q : Nat) (Ms : List Nat),k<=q∧q + 1<=n∧s5 = .int .i64 (q : Int)∧s6 = .int .i64 ((q + 1 : Nat) : Int)∧SHIFT Ns Ms k (q + 1)∧SP w0 wr (.row 82 1 (some ⟨g,0,none⟩) n c (Ms.map pv)::.blk BV 82 #[pv N]::R)) (fun _ s6 _=>n - (intOf s6).toNat)
 case atStart=>exact ⟨k,Ns,by omega,by omega,rfl,by rw [HK1.out],SHIFT.start (by rw [HL.out];exact hkn),HH.out⟩
 case round =>
  obtain ⟨q,Ms,hq1,hq2,rfl,rfl,hsh,Y0⟩:=hrel
  have Y:=Lib.hid Y0
  have HS:=Lib.hid hsh
  clear Y0 hsh HH
  have hp2:=(ptrs_of_row (Y.out.row 0 rfl)).1
  obtain ⟨g',hg',_,hcells⟩:=hp2.2 (by omega)
  cases hg'
  by_cases hlt : q + 1 < n
  ·have t1 : ((q + 1 : Nat) : Int) < (n : Int):=by omega
   have t0 : (0 : Int)<=((q + 1 : Nat) : Int):=by omega
   have u1 : (q : Int) < (n : Int):=by omega
   have u0 : (0 : Int)<=(q : Int):=by omega
   obtain ⟨X,hX⟩ : ∃ X,Ms[q + 1]?.getD 0=X:=⟨_,rfl⟩
   have x1:=hcells (q + 1) hlt
   rw [hX] at x1
   have hXm : Ms[q + 1]?=some X:=by rw [<- hX,List.getElem?_eq_getElem (by rw [HS.out.1,HL.out];exact hlt)];rfl
   have hXs : Ns[q + 1]?=some X:=by
    have:=HS.out.2 (q + 1) (by rw [HL.out];exact hlt)
    rw [if_pos (.inr (by omega)),hXm] at this
    exact this.symm
   have hXN : X≠N:=fun e=>HNE.out (q + 1) (by omega) (by rw [hXs,e])
   have HF:=Lib.hid (forget1_any X N BV wr (HB.out wr Y.out.tail.tail X (List.mem_of_getElem? hXs)) (HB.out wr Y.out.tail.tail N (List.mem_of_getElem? HK.out)) (Y.out.cell 1 rfl 0 rfl))
   rw [show (X == N)=false by simpa using hXN] at HF
   have HXS:=Lib.hid hXs
   have xq : (wr.cell? ⟨g,q,none⟩)=some (pv (Ms[q]?.getD 0)):=hcells q (by omega)
   have xf : wr.frozen? ⟨g,q,none⟩=false:=World.ownsRow.frozenAt (Y.out.row 0 rfl) q
   have e6 : IntKind.i64.wrap (((q + 1 : Nat) : Int) + 1)=((q + 1 : Nat) : Int) + 1:=IntWalk.i64_in _ (by omega)
   have e5 : IntKind.i64.wrap ((q : Int) + 1)=(q : Int) + 1:=IntWalk.i64_in _ (by omega)
   unfold pv at x1 HF xq
   clear hX hXm hXs hcells hp2
   go_wp2_with fail
   refine HF.out.mono ?_
   rintro e w2 ⟨rfl,hw⟩
   obtain rfl:=hw
   go_wp2_with fail
   go_roundw
   case rel =>
    refine ⟨q + 1,Ms.set q X,by omega,by omega,by go_num,by go_num,?_,?_⟩
    ·exact HS.out.step (by omega) (by rw [HL.out];exact hlt) HXS.out
    ·rw [List.map_set]
     exact Y.out.setRw 0 rfl q (pv X)
   case measure=>simp [intOf];omega
  ·have t1 : ¬ ((q + 1 : Nat) : Int) < (n : Int):=by omega
   obtain rfl : n=q + 1:=by omega
   have u0 : (0 : Int)<=(q : Int):=by omega
   have u2 : (q : Int)<=(c : Int):=by omega
   have s1 : ∀ W,(Instr.slice 42 (.slice (some ⟨g,0,none⟩) (q + 1) c) (some (.int .i64 (q : Int))) none none).run Tryz.prog W = .ok (.slice (some ⟨g,q,none⟩) 1 (c - q)) W:=fun W=>by
    have:=run_slice_lo (P:=Tryz.prog) W Tryz.underlying42 hi hz1 (some ⟨g,0,none⟩) (q + 1) c (q : Int) q rfl (by omega)
    rw [this,show q + 1 - q=1 by omega]
    unfold cutA
    rw [if_neg (by omega)]
    simp only [Option.map,Addr.add_mid,Nat.zero_add]
   have hcl : ∀ ty,(Builtin.clear_ #[42] ty #[.slice (some ⟨g,q,none⟩) 1 (c - q)]).run Tryz.prog wr = .ok (.tuple #[]) (wr.setCell ⟨g,q,none⟩ (.pointer none)):=fun ty =>
    Lib.run_clear_slice wr 42 82 ty (.pointer none) Tryz.underlying42 zeroPG rfl rfl g q 1 (c - q) (by omega) (fun j hj=>by
     obtain rfl : j=0:=by omega
     rw [Nat.add_zero,hcells q (by omega)];rfl) (fun j hj=>World.ownsRow.frozenAt (Y.out.row 0 rfl) _)
   have Z:=Lib.hid ((Y.out.setRw 0 rfl q (.pointer none)).cutRw 0 rfl (k:=q) (by omega))
   clear hcells hp2
   go_wp2_with fail
   go_ret
   refine ⟨rfl,?_⟩
   have e1 : ((Ms.map pv).set q (.pointer none)).take q=(Ns.eraseIdx k).map pv:=by
    have h1:=SHIFT.end_ (by rw [HL.out];exact HS.out) (by rw [HL.out];omega)
    rw [HL.out,Nat.add_sub_cancel] at h1
    rw [List.take_set_of_le (Nat.le_refl _),<- List.map_take,h1]
   have:=Z.out
   rw [<- e1]
   exact this
end Go.Proofs.YtljbfnabnkkfeaaGreat
