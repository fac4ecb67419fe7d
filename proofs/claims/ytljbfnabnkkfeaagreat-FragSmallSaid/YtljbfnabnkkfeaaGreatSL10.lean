import Derived.Test.YtljbfnabnkkfeaaGreatSL09
set_option linter.unusedVariables false
set_option linter.unusedSimpArgs false
/- Joined by program: FgT. -/
namespace Go.Proofs.YtljbfnabnkkfeaaGreat
open Go.RowKit
structure TM where
 TB : Nat
 M : Nat
 limit : Int
 life : Int
 now : Int
 oA : Option Addr
 on : Nat
 oc : Nat
 es : Array MapEntry
 clock : Nat
 gs : List GM
def TM.cells (T : TM) : Array Value:=#[.int .i64 T.limit,.int .i64 T.life,.int .i64 T.now,.map (some T.M),.slice T.oA T.on T.oc]
def pvs (gs : List GM) : List Value:=(gs.map (·.N)).map pv
def TM.hd (T : TM) : List IT:=[.blk T.TB 44 T.cells,.obj T.M (.map T.es T.clock),.row 82 1 T.oA T.on T.oc (pvs T.gs)]
def gits (gs : List GM) : List IT:=gs.flatMap GM.its
def TM.its (T : TM) : List IT:=T.hd++gits T.gs
structure TINV (T : TM) : Prop where
 ent : ENT T.es T.gs
 keys : T.gs.Pairwise (fun a b=>a.key≠b.key)
 lim : 1<=T.limit∧T.limit<=64
 life : 1<=T.life∧T.life<=16777215
 now : 0<=T.now∧T.now<=1099511627776
 len : (T.gs.length : Int)<=T.limit
 ok : ∀ g ∈ T.gs,GOK g.a
 srt : T.gs.Pairwise (fun a b=>a.q.begin_<=b.q.begin_)
 beg : ∀ g ∈ T.gs,g.q.begin_<=T.now
theorem TINV.gk {T : TM} (h : TINV T) : GKEYS T.gs:=⟨fun g hg=>⟨(h.ok g hg).src,(h.ok g hg).dst,(h.ok g hg).proto,(h.ok g hg).id⟩,h.keys⟩
section
variable {w0 w : World} {A R : List IT} {gs : List GM}
theorem gits_mem {g : GM} (hg : g ∈ gs) : IT.blk g.N 88 g.cells ∈ gits gs:=List.mem_flatMap.2 ⟨g,hg,by unfold GM.its;simp⟩
theorem gits_sub : ∀ gs : List GM,(gs.map (fun g=>IT.blk g.N 88 g.cells)).Sublist (gits gs)
 | []=>by simp [gits]
 | g::gs=>by
   have h1:=gits_sub gs
   unfold gits at h1 ⊢
   rw [List.map_cons,List.flatMap_cons]
   exact (List.Sublist.append (List.singleton_sublist.2 (by unfold GM.its;simp)) h1)
theorem gits_nodup (H : SP w0 w (gits gs)) : (gs.map (·.N)).Nodup:=by
 have h1:=H.pw.sublist (gits_sub gs)
 rw [List.pairwise_map] at h1
 unfold List.Nodup
 rw [List.pairwise_map]
 exact h1.imp (fun {a b} h e=>h a.N rfl (by rw [e];rfl))
theorem gits_blk (H : SP w0 w (gits gs++R)) : ∀ X ∈ gs.map (·.N),∃ t cs,BLOCK w X t cs:=by
 intro X hX
 obtain ⟨g,hg,rfl⟩:=List.mem_map.1 hX
 exact ⟨_,_,(H.mem _ (List.mem_append_left _ (gits_mem hg))).2⟩
theorem gits_split : ∀ (gs : List GM) (k : Nat) (g : GM),gs[k]?=some g->(gits gs).Perm (g.its++gits (gs.eraseIdx k))
 | [],k,g,h=>by simp at h
 | x::gs,0,g,h=>by simp at h;subst h;unfold gits;simp
 | x::gs,k + 1,g,h=>by
   have h1:=gits_split gs k g (by simpa using h)
   unfold gits at h1 ⊢
   rw [List.eraseIdx_cons_succ,List.flatMap_cons,List.flatMap_cons]
   refine (h1.append_left x.its).trans ?_
   rw [<- List.append_assoc,<- List.append_assoc]
   exact List.perm_append_comm.append_right _
end
theorem run_delete_op {P : Program} {w w' : World} {o : Oper} {a : Act} {K : Act->World->Prop} {Q : Exit->Act->World->Prop} {m x : Operand} {t k : TypeId} (ho : o.op = .call { callee:=.builtin .delete,args:=#[m,x],argTypes:=#[t,k] }) {mv kv : Value} (hm : a.eval m=mv) (hx : a.eval x=kv)
 (hr : (Builtin.delete_ #[t,k] o.type #[mv,kv]).run P w = .ok (.tuple #[]) w') (h : K (a.put o.dst (.tuple #[])) w') : o.wp P a w K Q:=by
 unfold Oper.wp execOp
 simp [ho,resolve,invoke,builtin,hm,hx,hr,Result.andThen]
 exact h
theorem exec_load_mid2 {P : Program} {o : Oper} {a : Act} {w : World} (ty : TypeId) (x : Operand) (ho : o.op = .load ty x)
 (b ofs : Nat) (hx : a.eval x = .pointer (some ⟨b,ofs,none⟩)) (cs : List Value) (d : TypeDesc) (hc : w.rangeAt b ofs cs)
 (hu : P.underlying ty=some d) (hd : d.isRow=true) (hi : (P.info? ty).map (·.size)=some cs.length) (v : Array Value) (hv : cs.toArray=v) :
 (execOp a.eval o).run P w = .ok (.value (.agg v)) w:=hv ▸ exec_load_mid ty x ho b ofs hx cs d hc hu hd hi
theorem want_none {P : Program} {ops : Array Oper} {o : Oper} {a : Act} {w : World} {K : Act->World->Prop} {Q : Exit->Act->World->Prop} {E : Prop} (hgd : o.guard=none) (h : o.wp P a w K Q) : if Region.wanted o (yielded ops a.tmps)=true then Oper.wp P o a w K Q else E:=by
 have hw : Region.wanted o (yielded ops a.tmps)=true:=by simp [Region.wanted,hgd]
 rw [if_pos hw];exact h
set_option maxHeartbeats 1000000 in
set_option maxRecDepth 100000 in
theorem forget_any {w0 w : World} {R : List IT} (T : TM) (k : Nat) (g : GM) (H : SP w0 w (T.its++R)) (hi : TINV T) (hg : T.gs[k]?=some g) :
 Calls Tryz.prog 40 #[.pointer (some ⟨T.TB,0,none⟩),pv g.N] w fun e w'=>e = .returned (.tuple #[])∧SP w0 w' (({ T with on:=T.on - 1,es:=T.es.eraseIdxIfInBounds k,gs:=T.gs.eraseIdx k } : TM).its++(g.its++R)):=by
 have hgm:=List.mem_of_getElem? hg
 have hgk:=hi.gk
 have hent:=hi.ent
 obtain ⟨BV,hBV⟩ : ∃ b,b=w.heap.size:=⟨_,rfl⟩
 have X0:=Lib.hid (show SP w0 (w.alloc (.cells #[pv g.N] 82)) (.blk BV 82 #[pv g.N]::([.blk T.TB 44 T.cells,.obj T.M (.map T.es T.clock),.row 82 1 T.oA T.on T.oc (pvs T.gs)]++(gits T.gs++R))) from (SP.alloc' (L:=[.blk T.TB 44 T.cells,.obj T.M (.map T.es T.clock),.row 82 1 T.oA T.on T.oc (pvs T.gs)]++(gits T.gs++R)) (by have:=H;unfold TM.its TM.hd at this;rwa [List.append_assoc] at this) 82 #[pv g.N] hBV.symm).rot)
 have KS:=Lib.hid (fun W' (hs : SP w0 W' (.blk BV 82 #[pv g.N]::([.blk T.TB 44 T.cells,.obj T.M (.map T.es T.clock),.row 82 1 T.oA T.on T.oc (pvs T.gs)]++(gits T.gs++R))))=>(show W'.cell? ⟨T.TB,3,none⟩=some (.map (some T.M))∧W'.cell? ⟨BV,0,none⟩=some (pv g.N)∧BLOCK W' g.N 88 g.cells from ⟨hs.cell 1 rfl 3 rfl,hs.cell 0 rfl 0 rfl,(hs.tail.right.mem _ (List.mem_append_left _ (gits_mem hgm))).2⟩))
 have KS1:=Lib.hid (fun W' (hs : SP w0 W' (.blk BV 82 #[pv g.N]::([.blk T.TB 44 T.cells,.obj T.M (.map (T.es.eraseIdxIfInBounds k) T.clock),.row 82 1 T.oA T.on T.oc (pvs T.gs)]++(gits T.gs++R))))=>(show W'.cell? ⟨T.TB,3,none⟩=some (.map (some T.M))∧W'.cell? ⟨BV,0,none⟩=some (pv g.N)∧BLOCK W' g.N 88 g.cells from ⟨hs.cell 1 rfl 3 rfl,hs.cell 0 rfl 0 rfl,(hs.tail.right.mem _ (List.mem_append_left _ (gits_mem hgm))).2⟩))
 have HDEL:=Lib.hid (fun W' (hs : SP w0 W' (.blk BV 82 #[pv g.N]::([.blk T.TB 44 T.cells,.obj T.M (.map T.es T.clock),.row 82 1 T.oA T.on T.oc (pvs T.gs)]++(gits T.gs++R))))=>del_at (w:=W') (r:=T.M) (hs.obj 2 rfl) hent hgk hg 0)
 have HI:=Lib.hid hi
 have HG:=Lib.hid hg
 have HE:=Lib.hid (hent.erase k (List.getElem?_eq_some_iff.1 hg).1)
 clear H hi hg hgm hgk hent
 go_enter Tryz.func40,Tryz.ntmps40
 unfold pv
 go_upto_region 1 with fail
 rw [<- hBV]
 unfold pv at X0
 generalize w.alloc (.cells #[.pointer (some ⟨g.N,0,none⟩)] 82)=v0 at X0 ⊢
 replace X0:=Lib.hid (show SP w0 v0 (.blk BV 82 #[pv g.N]::([.blk T.TB 44 T.cells,.obj T.M (.map T.es T.clock),.row 82 1 T.oA T.on T.oc (pvs T.gs)]++(gits T.gs++R))) from X0.out)
 clear hBV
 go_cut [] (fun wx=>SP w0 wx (.blk BV 82 #[pv g.N]::([.blk T.TB 44 T.cells,.obj T.M (.map (T.es.eraseIdxIfInBounds k) T.clock),.row 82 1 T.oA T.on T.oc (pvs T.gs)]++(gits T.gs++R))))
 case first =>
  have ZD:=Lib.hid X0.out.drew
  refine wp_region_noPanic ?_
  refine wp_region_held_drew (S:=fun W'=>W'.cell? ⟨T.TB,3,none⟩=some (.map (some T.M))∧W'.cell? ⟨BV,0,none⟩=some (pv g.N)∧BLOCK W' g.N 88 g.cells) (by kernel_rfl) (by exact KS.out _ ZD.out) (fun hHeld=>?_)
  generalize v0.drew=v1 at ZD hHeld ⊢
  refine' tk (i:=0) rfl ?U1 ?V1
  case U1=>intro w' hSw;obtain ⟨hs1,hs2,hs3⟩:=hSw;unfold pv at hs2;go_simp;try (with_reducible rfl)
  try simp only [Act.put,jA,jB,jC]
  refine' tk (i:=1) rfl ?U2 ?V2
  case U2=>intro w' hSw;obtain ⟨hs1,hs2,hs3⟩:=hSw;unfold pv at hs2;go_simp;try (with_reducible rfl)
  try simp only [Act.put,jA,jB,jC]
  refine' tk (i:=2) rfl ?U3 ?V3
  case U3=>intro w' hSw;obtain ⟨hs1,hs2,hs3⟩:=hSw;unfold pv at hs2;go_simp;try (with_reducible rfl)
  try simp only [Act.put,jA,jB,jC]
  refine' tk (i:=3) rfl ?U4 ?V4
  case U4=>intro w' hSw;obtain ⟨hs1,hs2,hs3⟩:=hSw;unfold pv at hs2;go_simp;try (with_reducible rfl)
  try simp only [Act.put,jA,jB,jC]
  refine' tk (i:=4) rfl ?U5 ?V5
  case U5=>intro w' hSw;obtain ⟨hs1,hs2,hs3⟩:=hSw;unfold pv at hs2;go_simp;try (with_reducible rfl)
  try simp only [Act.put,jA,jB,jC]
  refine' tk (i:=5) rfl ?U6 ?V6
  case U6=>intro w' hSw;obtain ⟨hs1,hs2,hs3⟩:=hSw;unfold pv at hs2;go_simp;try (with_reducible rfl)
  try simp only [Act.put,jA,jB,jC]
  refine' tk (i:=6) rfl ?U7 ?V7
  case U7=>intro w' hSw;obtain ⟨hs1,hs2,hs3⟩:=hSw;unfold pv at hs2;go_simp;try (with_reducible rfl)
  try simp only [Act.put,jA,jB,jC]
  refine' take_lit (i:=7) (v:=.agg #[.int .u32 g.q.src,.int .u32 g.q.dst,.int .u8 g.q.proto,.int .u16 g.q.id]) rfl (by kernel_rfl) (by kernel_rfl) (by kernel_rfl) (fun _ _ _ h=>h) (Or.inl ⟨by rfl,?yy8⟩) (by assumption) ?rr8
  case yy8=>intro w' hSw;exact exec_load_mid2 85 _ rfl g.N 0 rfl #[.int .u32 g.q.src,.int .u32 g.q.dst,.int .u8 g.q.proto,.int .u16 g.q.id].toList _ (by have h:=hSw.2.2.range 0 4;exact h) Tryz.underlying85 rfl (by kernel_rfl) #[.int .u32 g.q.src,.int .u32 g.q.dst,.int .u8 g.q.proto,.int .u16 g.q.id] rfl
  try simp only [Act.put,jA,jB,jC]
  refine rdy [8] ?_
  refine cons_lit rfl (fun K hK=>?ss8x9) AllReadyH.nil
  case ss8x9 =>
   refine want_none (by rfl) (run_delete_op (by rfl) (by rfl) (by rfl) (HDEL.out _ ZD.out) ?_)
   refine nameK (fun v2 hv2=>?_)
   have Y:=Lib.hid (show SP w0 v2 (.blk BV 82 #[pv g.N]::([.blk T.TB 44 T.cells,.obj T.M (.map (T.es.eraseIdxIfInBounds k) T.clock),.row 82 1 T.oA T.on T.oc (pvs T.gs)]++(gits T.gs++R))) by rw [hv2];exact ZD.out.turn 2 rfl _ (grownBy_putObj' _ _ _) (World.putObj_heap_same (ZD.out.all 2 _ rfl |>.lt rfl).2))
   clear hv2
   refine hK.out _ _ (by exact KS1.out _ Y.out) (fun hHeld=>?_)
   clear hK K
   try simp only [Act.put,jA,jB,jC]
   refine wpAnyH_done (by kernel_rfl) ?_ _
   refine NoPanic.normal ?_
   go_wp2_with fail
   go_meet
   exact Y.out
 case rest =>
 have X1:=Lib.hid hcut
 clear hcut X0
 have k4 : wc.cell? ⟨T.TB,4,none⟩=some (.slice T.oA T.on T.oc):=X1.out.cell 1 rfl 4 rfl
 go_wp2_with fail
 clear k4
 have hlen : T.on<=100000:=by
  have h1:=(ptrs_of_row (X1.out.row 3 rfl)).1.1
  have h2:=HI.out.len
  have h3:=HI.out.lim
  rw [List.length_map] at h1
  omega
 have X2:=Lib.hid (SP.frontOf (A:=[.blk BV 82 #[pv g.N],.blk T.TB 44 T.cells,.obj T.M (.map (T.es.eraseIdxIfInBounds k) T.clock)]) X1.out)
 refine (delete_any (R:=.blk T.TB 44 T.cells::.obj T.M (.map (T.es.eraseIdxIfInBounds k) T.clock)::(gits T.gs++R)) T.oA T.on T.oc (T.gs.map (·.N)) g.N BV k X2.out hlen (fun W hs=>gits_blk hs.tail.tail) (by rw [List.getElem?_map,HG.out];rfl) (gits_nodup X1.out.tail.right.left)).mono ?_
 rintro e w2 ⟨rfl,hS⟩
 have X3:=Lib.hid hS
 clear hS X1 X2
 have k4 : w2.cell? ⟨T.TB,4,none⟩=some (.slice T.oA T.on T.oc):=X3.out.cell 2 rfl 4 rfl
 have f4 : w2.frozen? ⟨T.TB,4,none⟩=false:=X3.out.free 2 rfl 4
 go_wp2_with fail
 go_end0
 refine ⟨rfl,?_⟩
 have X4:=X3.out.setB 2 rfl 4 (.slice T.oA (T.on - 1) T.oc)
 have X5 : SP w0 _ (.blk T.TB 44 #[.int .i64 T.limit,.int .i64 T.life,.int .i64 T.now,.map (some T.M),.slice T.oA (T.on - 1) T.oc]::.obj T.M (.map (T.es.eraseIdxIfInBounds k) T.clock)::(.row 82 1 T.oA (T.on - 1) T.oc ((((T.gs.map (·.N)).eraseIdx k)).map pv)::(gits T.gs++R))):=SP.backOf (A:=[.blk T.TB 44 #[.int .i64 T.limit,.int .i64 T.life,.int .i64 T.now,.map (some T.M),.slice T.oA (T.on - 1) T.oc],.obj T.M (.map (T.es.eraseIdxIfInBounds k) T.clock)]) ((SP.frontOf (A:=[.row 82 1 T.oA (T.on - 1) T.oc ((((T.gs.map (·.N)).eraseIdx k)).map pv)]) X4).tail)
 rw [<- map_er] at X5
 have X6:=SP.perm X5 (((((gits_split T.gs k g HG.out).append_right R)).cons _).cons _ |>.cons _)
 refine X6.perm ?_
 unfold TM.its TM.hd
 rw [List.append_assoc,List.append_assoc]
 refine ((List.Perm.cons _ (List.Perm.cons _ (List.Perm.cons _ ?_))))
 rw [<- List.append_assoc,<- List.append_assoc]
 exact List.perm_append_comm.append_right R
end Go.Proofs.YtljbfnabnkkfeaaGreat
namespace Go.Proofs.YtljbfnabnkkfeaaGreat
open Go.RowKit
def lenS : Option Value->Nat
 | some (.slice _ n _)=>n
 | _=>0
def TM.cut (T : TM) (k : Nat) : TM:={ T with on:=T.on - 1,es:=T.es.eraseIdxIfInBounds k,gs:=T.gs.eraseIdx k }
theorem TINV.cut {T : TM} (h : TINV T) {k : Nat} (hk : k < T.gs.length) : TINV (T.cut k):=by
 have hs : (T.gs.eraseIdx k).Sublist T.gs:=List.eraseIdx_sublist _ _
 refine ⟨h.ent.erase k hk,h.keys.sublist hs,h.lim,h.life,h.now,?_,fun g hg=>h.ok g (hs.subset hg),h.srt.sublist hs,fun g hg=>h.beg g (hs.subset hg)⟩
 have h1:=h.len
 have h2:=hs.length_le
 show (((T.gs.eraseIdx k).length : Nat) : Int)<=T.limit
 omega
theorem TINV.at_ {T : TM} (h : TINV T) {now : Int} (h1 : T.now<=now) (h2 : now<=1099511627776) : TINV { T with now:=now } :=
 ⟨h.ent,h.keys,h.lim,h.life,⟨by have:=h.now;show 0<=now;omega,h2⟩,h.len,h.ok,h.srt,fun g hg=>by have:=h.beg g hg;show g.q.begin_<=now;omega⟩
def overM (life now : Int) (g : GM) : Bool:=decide (g.q.begin_ + life<=now)
def PASSED (w0 : World) (T : TM) (now : Int) (R : List IT) (w' : World) : Prop :=
 ∃ T' : TM,T'.TB=T.TB∧T'.limit=T.limit∧T'.life=T.life∧T'.now=now∧T'.gs=T.gs.dropWhile (overM T.life now)∧TINV T'∧SP w0 w' (T'.its++R)
def TICKED (w0 : World) (T : TM) (now : Int) (R : List IT) (e : Ending) (w' : World) : Prop :=
 ((decide (now < T.now) || decide (1099511627776 < now))=true∧e = .returned (.int .i64 70)∧SP w0 w' (T.its++R))∨((decide (now < T.now) || decide (1099511627776 < now))=false∧e = .returned (.int .i64 0)∧PASSED w0 T now R w')
section
variable {w0 w : World} {R : List IT} {T : TM}
theorem its_cell (H : SP w0 w (T.its++R)) (j : Nat) (v : Value) (hv : T.cells[j]?=some v) : w.cell? ⟨T.TB,j,none⟩=some v:=H.cell 0 rfl j hv
theorem its_free (H : SP w0 w (T.its++R)) (j : Nat) : w.frozen? ⟨T.TB,j,none⟩=false:=H.free 0 rfl j
theorem its_row (H : SP w0 w (T.its++R)) : PTRS w T.oA T.on (T.gs.map (·.N))∧T.on<=T.oc:=ptrs_of_row (H.row 2 rfl)
theorem its_g (H : SP w0 w (T.its++R)) {g : GM} (hg : g ∈ T.gs) : BLOCK w g.N 88 g.cells:=(H.mem _ (List.mem_append_left _ (List.mem_append_right _ (gits_mem hg)))).2
set_option maxHeartbeats 1000000 in
set_option maxRecDepth 100000 in
theorem none_no (TB : Nat) (l : Int) (w : World) (h : w.cell? ⟨TB,0,none⟩=some (.int .i64 l)) (hl : 1<=l) : Calls Tryz.prog 32 #[.pointer (some ⟨TB,0,none⟩)] w fun e w'=>e = .returned (.bool false)∧w'=w:=by
 have b0 : (l == 0)=false:=by simp;omega
 go_enter Tryz.func32,Tryz.ntmps32
 go_wp2_with fail
 go_ret
 exact ⟨rfl,rfl⟩
set_option maxHeartbeats 1000000 in
set_option maxRecDepth 100000 in
theorem none_nil (w : World) : Calls Tryz.prog 32 #[.pointer none] w fun e w'=>e = .returned (.bool true)∧w'=w:=by
 go_enter Tryz.func32,Tryz.ntmps32
 go_wp2_with fail
 go_ret
 exact ⟨rfl,rfl⟩
set_option maxHeartbeats 1000000 in
set_option maxRecDepth 100000 in
theorem none_zero (TB : Nat) (w : World) (h : w.cell? ⟨TB,0,none⟩=some (.int .i64 0)) : Calls Tryz.prog 32 #[.pointer (some ⟨TB,0,none⟩)] w fun e w'=>e = .returned (.bool true)∧w'=w:=by
 go_enter Tryz.func32,Tryz.ntmps32
 go_wp2_with fail
 go_ret
 exact ⟨rfl,rfl⟩
set_option maxHeartbeats 1000000 in
set_option maxRecDepth 100000 in
theorem late_any (TB : Nat) (n now : Int) (w : World) (h : w.cell? ⟨TB,2,none⟩=some (.int .i64 n)) : Calls Tryz.prog 33 #[.pointer (some ⟨TB,0,none⟩),.int .i64 now] w fun e w'=>e = .returned (.bool (decide (now < n) || decide (1099511627776 < now)))∧w'=w:=by
 obtain ⟨M,hM1,hM2⟩ : ∃ M : Int,M<=1099511627776∧1099511627776<=M:=⟨1099511627776,by omega,by omega⟩
 by_cases h1 : now < n
 ·have b1 : decide (now < n)=true:=by simpa using h1
  go_enter Tryz.func33,Tryz.ntmps33
  go_wp2_with fail
  go_ret
  exact ⟨by first | rfl | (rw [b1];rfl),rfl⟩
 ·have b1 : decide (now < n)=false:=by simp;omega
  by_cases h2 : 1099511627776 < now
  ·have b2 : decide ((1099511627776 : Int) < now)=true:=by simpa using h2
   go_enter Tryz.func33,Tryz.ntmps33
   go_wp2_with fail
   go_ret
   exact ⟨by first | rfl | (rw [b1,b2];rfl),rfl⟩
  ·have b2 : decide ((1099511627776 : Int) < now)=false:=by simp;omega
   go_enter Tryz.func33,Tryz.ntmps33
   go_wp2_with fail
   go_ret
   exact ⟨by first | rfl | (rw [b1,b2];rfl),rfl⟩
set_option maxHeartbeats 1000000 in
set_option maxRecDepth 100000 in
theorem pass_any (H : SP w0 w (T.its++R)) (hi : TINV T) (now : Int) (h1 : T.now<=now) (h2 : now<=1099511627776) :
 Calls Tryz.prog 35 #[.pointer (some ⟨T.TB,0,none⟩),.int .i64 now] w fun e w'=>e = .returned (.tuple #[])∧PASSED w0 T now R w':=by
 have hlife:=hi.life
 have hnow0:=hi.now.1
 have HI:=Lib.hid hi
 have k2 : w.cell? ⟨T.TB,2,none⟩=some (.int .i64 T.now):=its_cell H 2 _ rfl
 have f2 : w.frozen? ⟨T.TB,2,none⟩=false:=its_free H 2
 have X1:=Lib.hid (show SP w0 (w.setCell ⟨T.TB,2,none⟩ (.int .i64 now)) (({ T with now:=now } : TM).its++R) from H.setB 0 rfl 2 (.int .i64 now))
 have HT:=Lib.hid (hi.at_ h1 h2)
 obtain ⟨TB,hTB⟩ : ∃ b,T.TB=b:=⟨_,rfl⟩
 have HTB:=Lib.hid hTB
 rw [hTB] at k2 f2 X1 ⊢
 clear H hi hTB
 go_enter Tryz.func35,Tryz.ntmps35
 go_upto_region 1 with fail
 clear k2 f2
 generalize w.setCell ⟨TB,2,none⟩ (.int .i64 now)=v0 at X1 ⊢
 go_loopw [31] (fun s31 wr=>∃ T1 : TM,T1.TB=TB∧T1.limit=T.limit∧T1.life=T.life∧T1.now=now∧T1.gs.dropWhile (overM T.life now)=T.gs.dropWhile (overM T.life now)∧TINV T1∧SP w0 wr (T1.its++R)) (fun _ wr=>lenS (wr.cell? ⟨TB,4,none⟩))
 case atStart=>exact ⟨{ T with TB:=TB,now:=now },rfl,rfl,rfl,rfl,rfl,by rw [<- HTB.out];exact HT.out,X1.out⟩
 case round =>
  obtain ⟨T1,e1,e2,e3,e4,e5,hi1,Y0⟩:=hrel
  have Y:=Lib.hid Y0
  have HI1:=Lib.hid hi1
  have HE:=Lib.hid (And.intro e1 (And.intro e2 (And.intro e3 (And.intro e4 e5))))
  clear Y0 hi1 X1
  have k4 : wr.cell? ⟨TB,4,none⟩=some (.slice T1.oA T1.on T1.oc):=by rw [<- e1];exact its_cell Y.out 4 _ rfl
  have k1 : wr.cell? ⟨TB,1,none⟩=some (.int .i64 T.life):=by rw [<- e1,<- e3];exact its_cell Y.out 1 _ rfl
  clear e1 e2 e3 e4 e5
  obtain ⟨hp,hoc⟩:=its_row Y.out
  have hlen : (T1.gs.length : Int)<=64:=by have:=HI1.out.len;have:=HI1.out.lim;omega
  have hpl:=hp.1
  rw [List.length_map] at hpl
  obtain ⟨on,hon⟩ : ∃ n,T1.on=n:=⟨_,rfl⟩
  rw [hon] at k4 hp hoc hpl
  have HON:=Lib.hid hon
  clear hon
  rcases Nat.eq_zero_or_pos on with h0 | h0
  ·have hg0 : T1.gs=[]:=List.length_eq_zero_iff.1 (by omega)
   have HG:=Lib.hid hg0
   have hon:=HON.out
   subst h0
   have t1 : ¬ (0 : Int) < ((0 : Nat) : Int):=by omega
   clear hg0 hp hpl hon
   go_upto_region 1 with fail
   go_quiet (fail)
   go_wp2_with fail
   go_end0
   obtain ⟨e1,e2,e3,e4,e5⟩:=HE.out
   exact ⟨rfl,T1,e1.trans HTB.out.symm,e2,e3,e4,by rw [<- e5,HG.out];rfl,HI1.out,Y.out.drewN _⟩
  obtain ⟨g0,hoA,_,hcells⟩:=hp.2 h0
  obtain ⟨g,gs,hgs⟩ : ∃ g gs,T1.gs=g::gs:=by
   cases hq : T1.gs with
   | nil=>rw [hq] at hpl;simp at hpl;omega
   | cons g gs=>exact ⟨g,gs,rfl⟩
  have kp : wr.cell? ⟨g0,0,none⟩=some (.pointer (some ⟨g.N,0,none⟩)):=by rw [hcells 0 h0,hgs];rfl
  have hgm : g ∈ T1.gs:=by rw [hgs];simp
  have kb : wr.cell? ⟨g.N,4,none⟩=some (.int .i64 g.q.begin_):=(its_g Y.out hgm).cell 4
  have hbeg:=(HI1.out.ok g hgm).beg
  replace hbeg : 0<=g.q.begin_∧g.q.begin_<=1099511627776:=hbeg
  obtain ⟨bg,hbg⟩ : ∃ b,g.q.begin_=b:=⟨_,rfl⟩
  obtain ⟨GN,hGN⟩ : ∃ b,g.N=b:=⟨_,rfl⟩
  rw [hoA] at k4
  rw [hbg] at kb hbeg
  rw [hGN] at kp kb
  have HOA:=Lib.hid hoA
  have HGS:=Lib.hid hgs
  have HBG:=Lib.hid (And.intro hbg hGN)
  have HPL:=Lib.hid hpl
  have t0 : (0 : Int) < (on : Int):=by omega
  have t2 : 0 < on:=h0
  have e6 : IntKind.i64.wrap (bg + T.life)=bg + T.life:=IntWalk.i64_in _ (by omega)
  clear hcells hp hoA hgs hbg hGN hgm hpl
  by_cases hov : bg + T.life<=now
  ·have d1 : decide (bg + T.life<=now)=true:=by simpa using hov
   have HOV:=Lib.hid hov
   clear hov
   go_upto_region 1 with fail
   go_quiet (fail)
   have k4' : (wr.drewN nq).cell? ⟨TB,4,none⟩=some (.slice (some ⟨g0,0,none⟩) on T1.oc):=by rw [World.cell?_drewN];exact k4
   have kp' : (wr.drewN nq).cell? ⟨g0,0,none⟩=some (.pointer (some ⟨GN,0,none⟩)):=by rw [World.cell?_drewN];exact kp
   go_wp2_with fail
   have HF : Calls Tryz.prog 40 #[.pointer (some ⟨TB,0,none⟩),.pointer (some ⟨GN,0,none⟩)] (wr.drewN nq) fun e w'=>e = .returned (.tuple #[])∧SP w0 w' ((T1.cut 0).its++(g.its++R)):=by
    rw [<- HBG.out.2,<- HE.out.1];exact forget_any T1 0 g (Y.out.drewN nq) HI1.out (by rw [HGS.out];rfl)
   refine HF.mono ?_
   rintro e w2 ⟨rfl,hS⟩
   have Y2:=Lib.hid (show SP w0 w2 ((T1.cut 0).its++R) from hS.swap.right)
   clear hS HF
   go_wp2_with fail
   go_roundw
   case rel =>
    obtain ⟨e1,e2,e3,e4,e5⟩:=HE.out
    refine ⟨T1.cut 0,e1,e2,e3,e4,?_,HI1.out.cut (by rw [HGS.out];simp),Y2.out⟩
    rw [<- e5]
    show (T1.gs.eraseIdx 0).dropWhile _=T1.gs.dropWhile _
    rw [HGS.out,List.eraseIdx_zero,List.tail_cons,List.dropWhile_cons,if_pos (by unfold overM;rw [HBG.out.1];simpa using HOV.out)]
   case measure =>
    have h3 : w2.cell? ⟨T1.TB,4,none⟩=some (.slice T1.oA (T1.on - 1) T1.oc):=its_cell (T:=T1.cut 0) Y2.out 4 _ rfl
    rw [HE.out.1] at h3
    rw [h3,k4]
    show T1.on - 1 < on
    rw [HON.out];omega
  ·have d1 : decide (bg + T.life<=now)=false:=by simp;omega
   have HOV:=Lib.hid hov
   clear hov
   go_upto_region 1 with fail
   go_quiet (fail)
   go_wp2_with fail
   go_end0
   obtain ⟨e1,e2,e3,e4,e5⟩:=HE.out
   refine ⟨rfl,T1,e1.trans HTB.out.symm,e2,e3,e4,?_,HI1.out,Y.out.drewN _⟩
   rw [<- e5,HGS.out,List.dropWhile_cons,if_neg (by unfold overM;rw [HBG.out.1];simpa using HOV.out)]
set_option maxHeartbeats 1000000 in
set_option maxRecDepth 100000 in
theorem tick_any (H : SP w0 w (T.its++R)) (hi : TINV T) (now : Int) :
 Calls Tryz.prog 10 #[.pointer (some ⟨T.TB,0,none⟩),.int .i64 now] w (TICKED w0 T now R):=by
 have HN:=Lib.hid (none_no T.TB T.limit w (its_cell H 0 _ rfl) hi.lim.1)
 have HL:=Lib.hid (late_any T.TB T.now now w (its_cell H 2 _ rfl))
 have HH:=Lib.hid H
 have HI:=Lib.hid hi
 obtain ⟨lt,hlt⟩ : ∃ b,(decide (now < T.now) || decide (1099511627776 < now))=b:=⟨_,rfl⟩
 have HLT:=Lib.hid hlt
 rw [hlt] at HL
 clear H hi hlt
 go_enter Tryz.func10,Tryz.ntmps10
 go_wp2_with fail
 refine HN.out.mono ?_
 rintro e w1 ⟨rfl,hw⟩
 obtain rfl:=hw
 go_wp2_with fail
 refine HL.out.mono ?_
 rintro e w1 ⟨rfl,hw⟩
 obtain rfl:=hw
 cases lt
 ·have hb:=HLT.out
  simp only [Bool.or_eq_false_iff,decide_eq_false_iff_not] at hb
  have HB:=Lib.hid hb
  clear hb
  go_wp2_with fail
  refine (pass_any HH.out HI.out now (by have:=HB.out;omega) (by have:=HB.out;omega)).mono ?_
  rintro e w2 ⟨rfl,hp⟩
  have HP:=Lib.hid hp
  clear hp
  go_wp2_with fail
  go_ret
  exact .inr ⟨HLT.out,rfl,HP.out⟩
 ·go_wp2_with fail
  go_ret
  exact .inl ⟨HLT.out,rfl,HH.out⟩
set_option maxHeartbeats 1000000 in
set_option maxRecDepth 100000 in
theorem now_any (H : SP w0 w (T.its++R)) (hi : TINV T) :
 Calls Tryz.prog 11 #[.pointer (some ⟨T.TB,0,none⟩)] w fun e w'=>e = .returned (.int .i64 T.now)∧w'=w:=by
 have HN:=Lib.hid (none_no T.TB T.limit w (its_cell H 0 _ rfl) hi.lim.1)
 have k2 : w.cell? ⟨T.TB,2,none⟩=some (.int .i64 T.now):=its_cell H 2 _ rfl
 clear H hi
 go_enter Tryz.func11,Tryz.ntmps11
 go_wp2_with fail
 refine HN.out.mono ?_
 rintro e w1 ⟨rfl,hw⟩
 obtain rfl:=hw
 go_wp2_with fail
 go_ret
 exact ⟨rfl,rfl⟩
end
def newT (TB M : Nat) (limit life : Int) : TM:=⟨TB,M,limit,life,0,none,0,0,#[],0,[]⟩
theorem newT_inv (TB M : Nat) (limit life : Int) (h1 : 1<=limit∧limit<=64) (h2 : 1<=life∧life<=16777215) : TINV (newT TB M limit life) :=
 ⟨rfl,List.Pairwise.nil,h1,h2,⟨by show (0 : Int)<=0;omega,by show (0 : Int)<=1099511627776;omega⟩,by show ((0 : Nat) : Int)<=limit;omega,(fun g hg=>by cases hg),List.Pairwise.nil,(fun g hg=>by cases hg)⟩
def NEWED (w0 : World) (L : List IT) (limit life : Int) (e : Ending) (w' : World) : Prop:=∃ TB M,e = .returned (.tuple #[.pointer (some ⟨TB,0,none⟩),.int .i64 0])∧SP w0 w' ((newT TB M limit life).its++L)
set_option maxHeartbeats 1000000 in
set_option maxRecDepth 100000 in
theorem new_yes {w0 w : World} {L : List IT} (limit life : Int) (H : SP w0 w L) (h1 : 1<=limit∧limit<=64) (h2 : 1<=life∧life<=16777215) :
 Calls Tryz.prog 24 #[.int .i64 limit,.int .i64 life] w (NEWED w0 L limit life):=by
 obtain ⟨a1,a2⟩:=h1
 obtain ⟨a3,a4⟩:=h2
 have t1 : ¬ limit < 1:=by omega
 have t2 : ¬ (64 : Int) < limit:=by omega
 have t3 : ¬ life < 1:=by omega
 have t4 : ¬ (16777215 : Int) < life:=by omega
 have hmm:=@run_makeMap Tryz.prog
 obtain ⟨M,hM⟩ : ∃ b,b=w.heap.size:=⟨_,rfl⟩
 have X:=Lib.hid ((show SP w0 (w.alloc (.map #[] 0)) (.obj M (.map #[] 0)::L) by rw [hM];exact (H.allocO _).rot).alloc' 44 #[.int .i64 limit,.int .i64 life,.int .i64 0,.map (some M),.slice none 0 0] (N:=M + 1) (by rw [hM];simp)).rot
 clear H
 go_enter Tryz.func24,Tryz.ntmps24
 go_wp2_with fail
 rw [<- hM]
 go_ret2
 refine ⟨M + 1,M,rfl,?_⟩
 exact SP.backOf (A:=[.blk (M + 1) 44 #[.int .i64 limit,.int .i64 life,.int .i64 0,.map (some M),.slice none 0 0],.obj M (.map #[] 0)]) (X.out.pushRow 82 1).rot
set_option maxHeartbeats 1000000 in
set_option maxRecDepth 100000 in
theorem new_no (w : World) (limit life : Int) (h : ¬ ((1<=limit∧limit<=64)∧1<=life∧life<=16777215)) :
 Calls Tryz.prog 24 #[.int .i64 limit,.int .i64 life] w fun e w'=>e = .returned (.tuple #[.pointer none,.int .i64 2])∧w'=w:=by
 have hmm:=@run_makeMap Tryz.prog
 by_cases t1 : limit < 1
 ·clear h
  go_enter Tryz.func24,Tryz.ntmps24
  go_wp2_with fail
  go_ret2
  exact ⟨rfl,rfl⟩
 by_cases t2 : (64 : Int) < limit
 ·clear h
  go_enter Tryz.func24,Tryz.ntmps24
  go_wp2_with fail
  go_ret2
  exact ⟨rfl,rfl⟩
 by_cases t3 : life < 1
 ·clear h
  go_enter Tryz.func24,Tryz.ntmps24
  go_wp2_with fail
  go_ret2
  exact ⟨rfl,rfl⟩
 have t4 : (16777215 : Int) < life:=by omega
 clear h
 go_enter Tryz.func24,Tryz.ntmps24
 go_wp2_with fail
 go_ret2
 exact ⟨rfl,rfl⟩
end Go.Proofs.YtljbfnabnkkfeaaGreat
namespace Go.Proofs.YtljbfnabnkkfeaaGreat
open Go.RowKit
def hkey (h : HD) : Value:=idV h.src h.dst h.proto h.id
def evictT (T : TM) : TM:=if (T.gs.length : Int)=T.limit then T.cut 0 else T
def newM (N : Nat) (now : Int) (h : HD) : GM:=⟨N,newG now h,none,0,0,none,0,0,[]⟩
def addT (T : TM) (N : Nat) (h : HD) (oA : Option Addr) (oc : Nat) : TM :=
 { T with oA:=oA,on:=T.on + 1,oc:=oc,es:=T.es.push { key:=hkey h,val:=pv N,born:=T.clock },clock:=T.clock + 1,gs:=T.gs++[newM N T.now h] }
theorem evict_now (T : TM) : (evictT T).now=T.now∧(evictT T).TB=T.TB∧(evictT T).M=T.M∧(evictT T).limit=T.limit∧(evictT T).life=T.life∧(evictT T).clock=T.clock:=by
 unfold evictT;split <;> exact ⟨rfl,rfl,rfl,rfl,rfl,rfl⟩
theorem evict_gs (T : TM) : (evictT T).gs=if (T.gs.length : Int)=T.limit then T.gs.tail else T.gs:=by
 unfold evictT;split
 ·exact List.eraseIdx_zero
 ·rfl
theorem evict_sub (T : TM) : (evictT T).gs.Sublist T.gs:=by
 rw [evict_gs];split
 ·exact List.tail_sublist _
 ·exact List.Sublist.refl _
theorem evict_inv {T : TM} (h : TINV T) : TINV (evictT T)∧((evictT T).gs.length : Int) < (evictT T).limit:=by
 have h1:=h.len
 have h2:=h.lim
 by_cases hl : (T.gs.length : Int)=T.limit
 ·have e : evictT T=T.cut 0:=by unfold evictT;rw [if_pos hl]
  rw [e]
  refine ⟨h.cut (by omega),?_⟩
  show (((T.gs.eraseIdx 0).length : Nat) : Int) < T.limit
  rw [List.length_eraseIdx]
  split <;> omega
 ·have e : evictT T=T:=by unfold evictT;rw [if_neg hl]
  rw [e]
  exact ⟨h,by omega⟩
theorem newG_ok {now : Int} {h : HD} (hn : 0<=now∧now<=1099511627776) (hw : h.WF) : GOK (newG now h) :=
 ⟨hw.src,hw.dst,hw.proto,hw.id,hn,⟨by show (-1 : Int) <= -1;omega,by show (-1 : Int)<=65515;omega⟩,HD.WF.zero,⟨(fun x hx=>by cases hx),by show (0 : Nat)<=40;omega⟩,GOKP.nil,fun h0=>by have h1 : (0 : Int) <= -1:=h0;omega⟩
theorem addT_inv {T : TM} (h : TINV T) (hl : (T.gs.length : Int) < T.limit) {hd : HD} (hw : hd.WF) (hno : ∀ g ∈ T.gs,g.key≠hkey hd) (N : Nat) (oA : Option Addr) (oc : Nat) : TINV (addT T N hd oA oc):=by
 have hn:=h.now
 refine ⟨h.ent.push (newM N T.now hd) T.clock,?_,h.lim,h.life,h.now,?_,?_,?_,?_⟩
 ·exact List.pairwise_append.2 ⟨h.keys,List.pairwise_singleton _ _,fun a ha b hb=>by simp at hb;subst hb;exact hno a ha⟩
 ·show (((T.gs++[newM N T.now hd]).length : Nat) : Int)<=T.limit
  rw [List.length_append];simp;omega
 ·intro g hg
  rcases List.mem_append.1 hg with hg | hg
  ·exact h.ok g hg
  ·simp at hg;subst hg;exact newG_ok hn hw
 ·exact List.pairwise_append.2 ⟨h.srt,List.pairwise_singleton _ _,fun a ha b hb=>by simp at hb;subst hb;exact h.beg a ha⟩
 ·intro g hg
  rcases List.mem_append.1 hg with hg | hg
  ·exact h.beg g hg
  ·simp at hg;subst hg;exact Int.le_refl _
theorem of_end {w0 w : World} {R : List IT} (E : TM) (N : Nat) (h : HD) (A9 : Option Addr) (c9 KB HB : Nat) (kc hc : Array Value)
 (X : SP w0 w (.blk N 88 (newM N E.now h).cells::.blk E.TB 44 (E.cells.setIfInBounds 4 (.slice A9 (E.on + 1) c9))::.obj E.M (.map (E.es.push { key:=hkey h,val:=pv N,born:=E.clock }) (E.clock + 1))::.row 82 1 A9 (E.on + 1) c9 (pvs E.gs++[pv N])::(gits E.gs++(.blk KB 85 kc::.blk HB 34 hc::R)))) :
 SP w0 w ((addT E N h A9 c9).its++R):=by
 have Y:=(((X.pushRow 92 2).pushOwn (Below.refl _ _) (OWN.nil (k:=.u8) (e:=5))).rot)
 have e1 : pvs (E.gs++[newM N E.now h])=pvs E.gs++[pv N]:=by unfold pvs;rw [List.map_append,List.map_append];rfl
 have e2 : gits (E.gs++[newM N E.now h])=gits E.gs++(newM N E.now h).its:=by unfold gits;rw [List.flatMap_append];simp
 have e3 : (newM N E.now h).its=[.blk N 88 (newM N E.now h).cells,.row 92 2 none 0 0 [],.own .u8 5 none 0 0 []]:=rfl
 have e4 : (addT E N h A9 c9).its=[.blk E.TB 44 (E.cells.setIfInBounds 4 (.slice A9 (E.on + 1) c9)),.obj E.M (.map (E.es.push { key:=hkey h,val:=pv N,born:=E.clock }) (E.clock + 1)),.row 82 1 A9 (E.on + 1) c9 (pvs E.gs++[pv N])]++(gits E.gs++(newM N E.now h).its):=by
  unfold TM.its TM.hd
  show _::_::IT.row 82 1 A9 (E.on + 1) c9 (pvs (E.gs++[newM N E.now h]))::gits (E.gs++[newM N E.now h])=_
  rw [e1,e2];rfl
 rw [e4,e3]
 have Z:=SP.rot (L:=_::_::_::_::_::(gits E.gs++(.blk KB 85 kc::.blk HB 34 hc::R))) Y
 have Z2:=(SP.frontOf (A:=_::_::_::_::_::_::gits E.gs) Z).tail
 have Z3:=(SP.frontOf (A:=_::_::_::_::_::_::gits E.gs) Z2).tail
 have Z4:=SP.swap (A:=[_,_,_]) (B:=_::_::_::gits E.gs) (C:=R) Z3
 have Z5:=Z4.perm (((show List.Perm [IT.row 92 2 none 0 0 [],.own .u8 5 none 0 0 [],.blk N 88 (newM N E.now h).cells] [.blk N 88 (newM N E.now h).cells,.row 92 2 none 0 0 [],.own .u8 5 none 0 0 []] from (List.perm_append_comm (l₁:=[_,_]) (l₂:=[_]))).append_right R).append_left _)
 simpa using Z5
def OFD (w0 : World) (T : TM) (h : HD) (R : List IT) (e : Ending) (w' : World) : Prop :=
 (∃ (k : Nat) (g : GM),T.gs[k]?=some g∧g.key=hkey h∧e = .returned (pv g.N)∧SP w0 w' (T.its++R)) ∨
 ((∀ g ∈ T.gs,g.key≠hkey h)∧∃ N oA oc,e = .returned (pv N)∧SP w0 w' ((addT (evictT T) N h oA oc).its++R))
theorem exec_look {P : Program} {o : Oper} {a : Act} {w : World} {m x : Operand} {t : TypeId} {c : Bool} (ho : o.op = .lookup t m x c) {mv kv v : Value} (hm : a.eval m=mv) (hx : a.eval x=kv) (hr : (Instr.lookup t mv kv c).run P w = .ok v w) :
 (execOp a.eval o).run P w = .ok (.value v) w:=by
 unfold execOp
 simp [ho,hm,hx,hr,Result.andThen]
theorem run_update_op {P : Program} {w w' : World} {o : Oper} {a : Act} {K : Act->World->Prop} {Q : Exit->Act->World->Prop} {m x y : Operand} {t : TypeId} (ho : o.op = .mapUpdate t m x y) {mv kv v : Value} (hm : a.eval m=mv) (hx : a.eval x=kv) (hy : a.eval y=v)
 (hr : (Instr.mapUpdate t mv kv v).run P w = .ok () w') (h : K (a.put o.dst undef) w') : o.wp P a w K Q:=by
 unfold Oper.wp execOp
 simp [ho,hm,hx,hy,hr,Result.andThen]
 exact h
set_option maxHeartbeats 1000000 in
set_option maxRecDepth 100000 in
theorem fof_any {w0 w : World} {R : List IT} (T : TM) (h : HD) (hA : Option Addr) (hn hc : Nat) (H : SP w0 w (T.its++R)) (hi : TINV T) (hw : h.WF) :
 Calls Tryz.prog 37 #[.pointer (some ⟨T.TB,0,none⟩),h.val (.slice hA hn hc)] w (OFD w0 T h R):=by
 have HI:=Lib.hid hi
 have HW:=Lib.hid hw
 have hko : KOK h.src h.dst h.proto h.id:=⟨hw.src,hw.dst,hw.proto,hw.id⟩
 have HKO:=Lib.hid hko
 have hlim:=hi.lim
 obtain ⟨HB,hHB⟩ : ∃ b,b=w.heap.size:=⟨_,rfl⟩
 obtain ⟨KB,hKB⟩ : ∃ b,b=HB + 1:=⟨_,rfl⟩
 have X1:=Lib.hid (show SP w0 ((w.alloc (.cells #[.int .u8 h.tos,.int .u16 h.id,.bool h.df,.bool h.mf,.int .i64 h.off,.int .u8 h.ttl,.int .u8 h.proto,.int .u32 h.src,.int .u32 h.dst,.slice hA hn hc] 34)).alloc (.cells #[.int .u32 h.src,.int .u32 h.dst,.int .u8 h.proto,.int .u16 h.id] 85)) (T.its++(.blk KB 85 #[.int .u32 h.src,.int .u32 h.dst,.int .u8 h.proto,.int .u16 h.id]::.blk HB 34 (h.cells (.slice hA hn hc))::R)) from SP.backOf ((SP.backOf ((H.alloc' 34 #[.int .u8 h.tos,.int .u16 h.id,.bool h.df,.bool h.mf,.int .i64 h.off,.int .u8 h.ttl,.int .u8 h.proto,.int .u32 h.src,.int .u32 h.dst,.slice hA hn hc] hHB.symm).rot)).alloc' 85 #[.int .u32 h.src,.int .u32 h.dst,.int .u8 h.proto,.int .u16 h.id] (by rw [hKB,hHB];simp)).rot)
 clear H hi hw hko
 unfold HD.val HD.cells
 go_enter Tryz.func37,Tryz.ntmps37
 go_upto_region 2 with fail
 rw [<- hHB,<- hKB]
 generalize (w.alloc (.cells #[.int .u8 h.tos,.int .u16 h.id,.bool h.df,.bool h.mf,.int .i64 h.off,.int .u8 h.ttl,.int .u8 h.proto,.int .u32 h.src,.int .u32 h.dst,.slice hA hn hc] 34)).alloc (.cells #[.int .u32 h.src,.int .u32 h.dst,.int .u8 h.proto,.int .u16 h.id] 85)=v0 at X1 ⊢
 clear hHB hKB
 have KS:=Lib.hid (fun W' (hs : SP w0 W' (T.its++(.blk KB 85 #[.int .u32 h.src,.int .u32 h.dst,.int .u8 h.proto,.int .u16 h.id]::.blk HB 34 (h.cells (.slice hA hn hc))::R)))=>(show W'.cell? ⟨T.TB,3,none⟩=some (.map (some T.M))∧BLOCK W' KB 85 #[.int .u32 h.src,.int .u32 h.dst,.int .u8 h.proto,.int .u16 h.id]∧W'.heap[T.M]?=some (.map T.es T.clock) from ⟨its_cell hs 3 _ rfl,hs.right.blk 0 rfl,hs.obj 1 rfl⟩))
 by_cases hex : ∃ (k : Nat) (g : GM),T.gs[k]?=some g∧g.key=hkey h
 ·obtain ⟨k,g,hg,hky⟩:=hex
  have HG:=Lib.hid (And.intro hg hky)
  have HLK:=Lib.hid (fun W' (hs : W'.heap[T.M]?=some (.map T.es T.clock))=>(show (Instr.lookup 41 (.map (some T.M)) (hkey h) true).run Tryz.prog W' = .ok (.tuple #[.pointer (some ⟨g.N,0,none⟩),.bool true]) W' by rw [<- hky];exact look_yes (w:=W') hs HI.out.ent HI.out.gk hg))
  clear hg hky
  go_cut [4,6,7] (fun s4 s6 s7 wx=>s4 = .pointer none∧s6 = .pointer (some ⟨g.N,0,none⟩)∧s7 = .bool true∧SP w0 wx (T.its++(.blk KB 85 #[.int .u32 h.src,.int .u32 h.dst,.int .u8 h.proto,.int .u16 h.id]::.blk HB 34 (h.cells (.slice hA hn hc))::R)))
  case first =>
   have ZD:=Lib.hid X1.out.drew
   refine wp_region_noPanic ?_
   refine wp_region_held_drew (S:=fun W'=>W'.cell? ⟨T.TB,3,none⟩=some (.map (some T.M))∧BLOCK W' KB 85 #[.int .u32 h.src,.int .u32 h.dst,.int .u8 h.proto,.int .u16 h.id]∧W'.heap[T.M]?=some (.map T.es T.clock)) (by kernel_rfl) (by exact KS.out _ ZD.out) (fun hHeld=>?_)
   generalize v0.drew=v1 at ZD hHeld ⊢
   refine' tk (i:=0) rfl ?U1 ?V1
   case U1=>intro w' hSw;obtain ⟨hs1,hs2,hs3⟩:=hSw;go_simp;try (with_reducible rfl)
   try simp only [Act.put,jA,jB,jC]
   refine' tk (i:=1) rfl ?U2 ?V2
   case U2=>intro w' hSw;obtain ⟨hs1,hs2,hs3⟩:=hSw;go_simp;try (with_reducible rfl)
   try simp only [Act.put,jA,jB,jC]
   refine' tk (i:=2) rfl ?U3 ?V3
   case U3=>intro w' hSw;obtain ⟨hs1,hs2,hs3⟩:=hSw;go_simp;try (with_reducible rfl)
   try simp only [Act.put,jA,jB,jC]
   refine' tk (i:=3) rfl ?U4 ?V4
   case U4=>intro w' hSw;obtain ⟨hs1,hs2,hs3⟩:=hSw;go_simp;try (with_reducible rfl)
   try simp only [Act.put,jA,jB,jC]
   refine' take_lit (i:=4) (v:=.agg (#[.int .u32 h.src,.int .u32 h.dst,.int .u8 h.proto,.int .u16 h.id])) rfl (by kernel_rfl) (by kernel_rfl) (by kernel_rfl) (fun _ _ _ h=>h) (Or.inl ⟨by rfl,?yy5⟩) (by assumption) ?rr5
   case yy5=>intro w' hSw;exact exec_load_row 85 _ rfl KB rfl 85 (#[.int .u32 h.src,.int .u32 h.dst,.int .u8 h.proto,.int .u16 h.id]) (0,0) _ (hSw.2.1) Tryz.underlying85 rfl (by kernel_rfl)
   try simp only [Act.put,jA,jB,jC]
   refine' take_lit (i:=5) (v:=.tuple #[.pointer (some ⟨g.N,0,none⟩),.bool true]) rfl (by kernel_rfl) (by kernel_rfl) (by kernel_rfl) (fun _ _ _ h=>h) (Or.inl ⟨by rfl,?yy6⟩) (by assumption) ?rr6
   case yy6=>intro w' hSw;exact exec_look (by rfl) (by rfl) (by rfl) (HLK.out w' hSw.2.2)
   try simp only [Act.put,jA,jB,jC]
   refine' tk (i:=6) rfl ?U7 ?V7
   case U7=>intro w' hSw;obtain ⟨hs1,hs2,hs3⟩:=hSw;go_simp;try (with_reducible rfl)
   try simp only [Act.put,jA,jB,jC]
   refine' tk (i:=7) rfl ?U8 ?V8
   case U8=>intro w' hSw;obtain ⟨hs1,hs2,hs3⟩:=hSw;go_simp;try (with_reducible rfl)
   try simp only [Act.put,jA,jB,jC]
   refine' tk (i:=8) rfl ?U9 ?V9
   case U9=>intro w' hSw;obtain ⟨hs1,hs2,hs3⟩:=hSw;go_simp;try (with_reducible rfl)
   try simp only [Act.put,jA,jB,jC]
   refine' tk (i:=9) rfl ?U10 ?V10
   case U10=>intro w' hSw;obtain ⟨hs1,hs2,hs3⟩:=hSw;go_simp;try (with_reducible rfl)
   try simp only [Act.put,jA,jB,jC]
   refine' tk (i:=10) rfl ?U11 ?V11
   case U11=>intro w' hSw;obtain ⟨hs1,hs2,hs3⟩:=hSw;go_simp;try (with_reducible rfl)
   try simp only [Act.put,jA,jB,jC]
   refine wpAnyH_done (by kernel_rfl) ?_ _
   refine NoPanic.normal ?_
   go_wp2_with fail
   go_meet
   exact ⟨rfl,rfl,rfl,ZD.out⟩
  case rest =>
  obtain ⟨rfl,rfl,rfl,hS⟩:=hcut
  have X2:=Lib.hid hS
  clear hS X1
  go_wp2_with fail
  go_ret
  exact .inl ⟨k,g,HG.out.1,HG.out.2,rfl,X2.out.frontOf.tail.frontOf.tail⟩
 ·have hno : ∀ g ∈ T.gs,g.key≠hkey h:=fun g hg e=>by
   obtain ⟨k,hk,rfl⟩:=List.getElem_of_mem hg
   exact hex ⟨k,_,List.getElem?_eq_getElem hk,e⟩
  have HNO:=Lib.hid hno
  have HLK:=Lib.hid (fun W' (hs : W'.heap[T.M]?=some (.map T.es T.clock))=>(show (Instr.lookup 41 (.map (some T.M)) (hkey h) true).run Tryz.prog W' = .ok (.tuple #[.pointer none,.bool false]) W' from look_no (w:=W') hs HI.out.ent HI.out.gk HKO.out hno))
  clear hex hno
  go_cut [4,6,7] (fun s4 s6 s7 wx=>s4 = .pointer none∧s6 = .pointer none∧s7 = .bool false∧SP w0 wx (T.its++(.blk KB 85 #[.int .u32 h.src,.int .u32 h.dst,.int .u8 h.proto,.int .u16 h.id]::.blk HB 34 (h.cells (.slice hA hn hc))::R)))
  case first =>
   have ZD:=Lib.hid X1.out.drew
   refine wp_region_noPanic ?_
   refine wp_region_held_drew (S:=fun W'=>W'.cell? ⟨T.TB,3,none⟩=some (.map (some T.M))∧BLOCK W' KB 85 #[.int .u32 h.src,.int .u32 h.dst,.int .u8 h.proto,.int .u16 h.id]∧W'.heap[T.M]?=some (.map T.es T.clock)) (by kernel_rfl) (by exact KS.out _ ZD.out) (fun hHeld=>?_)
   generalize v0.drew=v1 at ZD hHeld ⊢
   refine' tk (i:=0) rfl ?U12 ?V12
   case U12=>intro w' hSw;obtain ⟨hs1,hs2,hs3⟩:=hSw;go_simp;try (with_reducible rfl)
   try simp only [Act.put,jA,jB,jC]
   refine' tk (i:=1) rfl ?U13 ?V13
   case U13=>intro w' hSw;obtain ⟨hs1,hs2,hs3⟩:=hSw;go_simp;try (with_reducible rfl)
   try simp only [Act.put,jA,jB,jC]
   refine' tk (i:=2) rfl ?U14 ?V14
   case U14=>intro w' hSw;obtain ⟨hs1,hs2,hs3⟩:=hSw;go_simp;try (with_reducible rfl)
   try simp only [Act.put,jA,jB,jC]
   refine' tk (i:=3) rfl ?U15 ?V15
   case U15=>intro w' hSw;obtain ⟨hs1,hs2,hs3⟩:=hSw;go_simp;try (with_reducible rfl)
   try simp only [Act.put,jA,jB,jC]
   refine' take_lit (i:=4) (v:=.agg (#[.int .u32 h.src,.int .u32 h.dst,.int .u8 h.proto,.int .u16 h.id])) rfl (by kernel_rfl) (by kernel_rfl) (by kernel_rfl) (fun _ _ _ h=>h) (Or.inl ⟨by rfl,?yy16⟩) (by assumption) ?rr16
   case yy16=>intro w' hSw;exact exec_load_row 85 _ rfl KB rfl 85 (#[.int .u32 h.src,.int .u32 h.dst,.int .u8 h.proto,.int .u16 h.id]) (0,0) _ (hSw.2.1) Tryz.underlying85 rfl (by kernel_rfl)
   try simp only [Act.put,jA,jB,jC]
   refine' take_lit (i:=5) (v:=.tuple #[.pointer none,.bool false]) rfl (by kernel_rfl) (by kernel_rfl) (by kernel_rfl) (fun _ _ _ h=>h) (Or.inl ⟨by rfl,?yy17⟩) (by assumption) ?rr17
   case yy17=>intro w' hSw;exact exec_look (by rfl) (by rfl) (by rfl) (HLK.out w' hSw.2.2)
   try simp only [Act.put,jA,jB,jC]
   refine' tk (i:=6) rfl ?U18 ?V18
   case U18=>intro w' hSw;obtain ⟨hs1,hs2,hs3⟩:=hSw;go_simp;try (with_reducible rfl)
   try simp only [Act.put,jA,jB,jC]
   refine' tk (i:=7) rfl ?U19 ?V19
   case U19=>intro w' hSw;obtain ⟨hs1,hs2,hs3⟩:=hSw;go_simp;try (with_reducible rfl)
   try simp only [Act.put,jA,jB,jC]
   refine' tk (i:=8) rfl ?U20 ?V20
   case U20=>intro w' hSw;obtain ⟨hs1,hs2,hs3⟩:=hSw;go_simp;try (with_reducible rfl)
   try simp only [Act.put,jA,jB,jC]
   refine' tk (i:=9) rfl ?U21 ?V21
   case U21=>intro w' hSw;obtain ⟨hs1,hs2,hs3⟩:=hSw;go_simp;try (with_reducible rfl)
   try simp only [Act.put,jA,jB,jC]
   refine' tk (i:=10) rfl ?U22 ?V22
   case U22=>intro w' hSw;obtain ⟨hs1,hs2,hs3⟩:=hSw;go_simp;try (with_reducible rfl)
   try simp only [Act.put,jA,jB,jC]
   refine wpAnyH_done (by kernel_rfl) ?_ _
   refine NoPanic.normal ?_
   go_wp2_with fail
   go_meet
   exact ⟨rfl,rfl,rfl,ZD.out⟩
  case rest =>
  obtain ⟨rfl,rfl,rfl,hS⟩:=hcut
  have X2:=Lib.hid hS
  clear hS X1 HLK KS
  have hpl : T.on=T.gs.length:=by have:=(its_row X2.out).1.1;rw [List.length_map] at this;exact this.symm
  have HPL:=Lib.hid hpl
  have k0 : wc.cell? ⟨T.TB,0,none⟩=some (.int .i64 T.limit):=its_cell X2.out 0 _ rfl
  have k4 : wc.cell? ⟨T.TB,4,none⟩=some (.slice T.oA T.on T.oc):=its_cell X2.out 4 _ rfl
  clear hpl
  go_upto_region 5 with fail
  go_cut [38] (fun s38 wx=>s38 = .bool ((T.on : Int) == T.limit)∧SP w0 wx (T.its++(.blk KB 85 #[.int .u32 h.src,.int .u32 h.dst,.int .u8 h.proto,.int .u16 h.id]::.blk HB 34 (h.cells (.slice hA hn hc))::R)))
  case first =>
   go_quiet (fail)
   go_wp2_with fail
   go_meet
   exact ⟨rfl,X2.out.drewN _⟩
  case rest =>
  obtain ⟨rfl,hS⟩:=hcut
  have X3:=Lib.hid hS
  clear hS X2 k0 k4
  obtain ⟨w5,rfl⟩ : ∃ w5 : World,w5=wc:=⟨_,rfl⟩
  go_upto_if 38 with fail
  go_cut [] (fun wx=>SP w0 wx ((evictT T).its++(.blk KB 85 #[.int .u32 h.src,.int .u32 h.dst,.int .u8 h.proto,.int .u16 h.id]::.blk HB 34 (h.cells (.slice hA hn hc))::R)))
  case first =>
   by_cases hl : (T.on : Int)=T.limit
   ·have t1 : ((T.on : Int) == T.limit)=true:=by simpa using hl
    obtain ⟨g,hg⟩ : ∃ g,T.gs[0]?=some g:=⟨_,List.getElem?_eq_getElem (by have:=HPL.out;omega)⟩
    have HEV:=Lib.hid (show evictT T=T.cut 0 by unfold evictT;rw [if_pos (by rw [<- HPL.out];exact hl)])
    obtain ⟨hp,_⟩:=its_row X3.out
    obtain ⟨g0,hoA,_,hcells⟩:=hp.2 (by omega)
    have kp : w5.cell? ⟨g0,0,none⟩=some (.pointer (some ⟨g.N,0,none⟩)):=by
     rw [hcells 0 (by omega),List.getElem?_map,hg];rfl
    have k4 : w5.cell? ⟨T.TB,4,none⟩=some (.slice T.oA T.on T.oc):=its_cell X3.out 4 _ rfl
    rw [hoA] at k4
    have t2 : 0 < T.on:=by omega
    have t3 : (0 : Int) < (T.on : Int):=by omega
    have HG:=Lib.hid hg
    clear hcells hp hoA hg hl
    go_wp2_with fail
    refine (forget_any T 0 g X3.out HI.out HG.out).mono ?_
    rintro e w6 ⟨rfl,hS⟩
    have X4:=Lib.hid (show SP w0 w6 ((T.cut 0).its++(.blk KB 85 #[.int .u32 h.src,.int .u32 h.dst,.int .u8 h.proto,.int .u16 h.id]::.blk HB 34 (h.cells (.slice hA hn hc))::R)) from hS.swap.right)
    clear hS
    go_wp2_with fail
    go_meet
    rw [HEV.out]
    exact X4.out
   ·have t1 : ((T.on : Int) == T.limit)=false:=by simpa using hl
    have HEV:=Lib.hid (show evictT T=T by unfold evictT;rw [if_neg (by rw [<- HPL.out];exact hl)])
    clear hl
    go_wp2_with fail
    go_meet
    rw [HEV.out]
    exact X3.out
  case rest =>
  have HIE:=Lib.hid (evict_inv HI.out)
  have HEN:=Lib.hid (evict_now T)
  have HNE:=Lib.hid (fun g (hg : g ∈ (evictT T).gs)=>HNO.out g ((evict_sub T).subset hg))
  have HEX:=Lib.hid (show ∀ N oA oc,SP w0 wc ((addT (evictT T) N h oA oc).its++R)->True from fun _ _ _ _=>trivial)
  obtain ⟨E,hE⟩ : ∃ E,evictT T=E:=⟨_,rfl⟩
  have X4:=Lib.hid hcut
  rw [hE] at X4 HIE HEN HNE
  have HE:=Lib.hid hE
  have hTB : E.TB=T.TB:=HEN.out.2.1
  clear hcut X3 HEX hE
  have k2 : wc.cell? ⟨T.TB,2,none⟩=some (.int .i64 E.now):=by rw [<- hTB];exact its_cell X4.out 2 _ rfl
  obtain ⟨w6,rfl⟩ : ∃ w6 : World,w6=wc:=⟨_,rfl⟩
  have KS:=Lib.hid (fun W' (hs : SP w0 W' (E.its++(.blk KB 85 #[.int .u32 h.src,.int .u32 h.dst,.int .u8 h.proto,.int .u16 h.id]::.blk HB 34 (h.cells (.slice hA hn hc))::R)))=>(show W'.cell? ⟨T.TB,2,none⟩=some (.int .i64 E.now)∧BLOCK W' KB 85 #[.int .u32 h.src,.int .u32 h.dst,.int .u8 h.proto,.int .u16 h.id] from ⟨by rw [<- HEN.out.2.1];exact its_cell hs 2 _ rfl,hs.right.blk 0 rfl⟩))
  clear hTB k2
  go_upto_region 7 with fail
  go_cut [8] (fun s8 wx=>∃ N : Nat,s8 = .pointer (some ⟨N,0,none⟩)∧SP w0 wx (.blk N 88 (newM N E.now h).cells::(E.its++(.blk KB 85 #[.int .u32 h.src,.int .u32 h.dst,.int .u8 h.proto,.int .u16 h.id]::.blk HB 34 (h.cells (.slice hA hn hc))::R))))
  case first =>
   have ZD:=Lib.hid X4.out.drew
   refine wp_region_noPanic ?_
   refine wp_region_held_drew (S:=fun W'=>W'.cell? ⟨T.TB,2,none⟩=some (.int .i64 E.now)∧BLOCK W' KB 85 #[.int .u32 h.src,.int .u32 h.dst,.int .u8 h.proto,.int .u16 h.id]) (by kernel_rfl) (by exact KS.out _ ZD.out) (fun hHeld=>?_)
   generalize w6.drew=v1 at ZD hHeld ⊢
   refine' take_lit (i:=0) (v:=.agg (#[.int .u32 h.src,.int .u32 h.dst,.int .u8 h.proto,.int .u16 h.id])) rfl (by kernel_rfl) (by kernel_rfl) (by kernel_rfl) (fun _ _ _ h=>h) (Or.inl ⟨by rfl,?yy23⟩) (by assumption) ?rr23
   case yy23=>intro w' hSw;exact exec_load_row 85 _ rfl KB rfl 85 (#[.int .u32 h.src,.int .u32 h.dst,.int .u8 h.proto,.int .u16 h.id]) (0,0) _ (hSw.2) Tryz.underlying85 rfl (by kernel_rfl)
   try simp only [Act.put,jA,jB,jC]
   refine' tk (i:=1) rfl ?U24 ?V24
   case U24=>intro w' hSw;obtain ⟨hs1,hs2⟩:=hSw;go_simp;try (with_reducible rfl)
   try simp only [Act.put,jA,jB,jC]
   refine' tk (i:=2) rfl ?U25 ?V25
   case U25=>intro w' hSw;obtain ⟨hs1,hs2⟩:=hSw;go_simp;try (with_reducible rfl)
   try simp only [Act.put,jA,jB,jC]
   refine' tk (i:=3) rfl ?U26 ?V26
   case U26=>intro w' hSw;obtain ⟨hs1,hs2⟩:=hSw;go_simp;try (with_reducible rfl)
   try simp only [Act.put,jA,jB,jC]
   refine' tk (i:=4) rfl ?U27 ?V27
   case U27=>intro w' hSw;obtain ⟨hs1,hs2⟩:=hSw;go_simp;try (with_reducible rfl)
   try simp only [Act.put,jA,jB,jC]
   refine' tk (i:=5) rfl ?U28 ?V28
   case U28=>intro w' hSw;obtain ⟨hs1,hs2⟩:=hSw;go_simp;try (with_reducible rfl)
   try simp only [Act.put,jA,jB,jC]
   refine rdy [6] ?_
   refine cons_lit rfl (fun K hK=>?ss6x29) AllReadyH.nil
   case ss6x29 =>
    go_simp
    refine nameK (fun v2 hv2=>?_)
    have Y:=Lib.hid (show SP w0 v2 (.blk v1.heap.size 88 (newM v1.heap.size E.now h).cells::(E.its++(.blk KB 85 #[.int .u32 h.src,.int .u32 h.dst,.int .u8 h.proto,.int .u16 h.id]::.blk HB 34 (h.cells (.slice hA hn hc))::R))) by rw [hv2];exact (ZD.out.alloc' 88 #[.int .u32 h.src,.int .u32 h.dst,.int .u8 h.proto,.int .u16 h.id,.int .i64 E.now,.int .i64 (-1),.bool false,.int .u8 0,.int .u16 0,.bool false,.bool false,.int .i64 0,.int .u8 0,.int .u8 0,.int .u32 0,.int .u32 0,.slice none 0 0,.slice none 0 0] rfl).rot)
    clear hv2
    refine hK.out _ _ (by exact KS.out _ Y.out.tail) (fun hHeld=>?_)
    clear hK K
    try simp only [Act.put,jA,jB,jC]
    refine' tk (i:=7) rfl ?U30 ?V30
    case U30=>intro w' hSw;obtain ⟨hs1,hs2⟩:=hSw;go_simp;try (with_reducible rfl)
    try simp only [Act.put,jA,jB,jC]
    refine wpAnyH_done (by kernel_rfl) ?_ _
    refine NoPanic.normal ?_
    go_wp2_with fail
    go_meet
    exact ⟨v1.heap.size,rfl,Y.out⟩
  case rest =>
  obtain ⟨N,rfl,hS⟩:=hcut
  have X5:=Lib.hid hS
  clear hS X4
  obtain ⟨w7,rfl⟩ : ∃ w7 : World,w7=wc:=⟨_,rfl⟩
  have KT:=Lib.hid (fun W' (es : Array MapEntry) (cl : Nat) (hs : SP w0 W' (.blk N 88 (newM N E.now h).cells::(({ E with es:=es,clock:=cl } : TM).its++(.blk KB 85 #[.int .u32 h.src,.int .u32 h.dst,.int .u8 h.proto,.int .u16 h.id]::.blk HB 34 (h.cells (.slice hA hn hc))::R))))=>(show W'.cell? ⟨T.TB,3,none⟩=some (.map (some E.M))∧BLOCK W' KB 85 #[.int .u32 h.src,.int .u32 h.dst,.int .u8 h.proto,.int .u16 h.id] from ⟨by rw [<- HEN.out.2.1];exact its_cell hs.tail 3 _ rfl,hs.tail.right.blk 0 rfl⟩))
  have HPUT:=Lib.hid (fun W' (hs : W'.heap[E.M]?=some (.map E.es E.clock))=>put_new (w:=W') (r:=E.M) hs HIE.out.1.ent HIE.out.1.gk HKO.out HNE.out (pv N))
  go_upto_region 8 with fail
  go_cut [] (fun wx=>SP w0 wx (.blk N 88 (newM N E.now h).cells::(({ E with es:=E.es.push { key:=hkey h,val:=pv N,born:=E.clock },clock:=E.clock + 1 } : TM).its++(.blk KB 85 #[.int .u32 h.src,.int .u32 h.dst,.int .u8 h.proto,.int .u16 h.id]::.blk HB 34 (h.cells (.slice hA hn hc))::R))))
  case first =>
   have ZD:=Lib.hid X5.out.drew
   refine wp_region_noPanic ?_
   refine wp_region_held_drew (S:=fun W'=>W'.cell? ⟨T.TB,3,none⟩=some (.map (some E.M))∧BLOCK W' KB 85 #[.int .u32 h.src,.int .u32 h.dst,.int .u8 h.proto,.int .u16 h.id]) (by kernel_rfl) (by exact KT.out _ _ _ ZD.out) (fun hHeld=>?_)
   generalize w7.drew=v1 at ZD hHeld ⊢
   refine' tk (i:=0) rfl ?U31 ?V31
   case U31=>intro w' hSw;obtain ⟨hs1,hs2⟩:=hSw;go_simp;try (with_reducible rfl)
   try simp only [Act.put,jA,jB,jC]
   refine' tk (i:=1) rfl ?U32 ?V32
   case U32=>intro w' hSw;obtain ⟨hs1,hs2⟩:=hSw;go_simp;try (with_reducible rfl)
   try simp only [Act.put,jA,jB,jC]
   refine' tk (i:=2) rfl ?U33 ?V33
   case U33=>intro w' hSw;obtain ⟨hs1,hs2⟩:=hSw;go_simp;try (with_reducible rfl)
   try simp only [Act.put,jA,jB,jC]
   refine' tk (i:=3) rfl ?U34 ?V34
   case U34=>intro w' hSw;obtain ⟨hs1,hs2⟩:=hSw;go_simp;try (with_reducible rfl)
   try simp only [Act.put,jA,jB,jC]
   refine' take_lit (i:=4) (v:=.agg (#[.int .u32 h.src,.int .u32 h.dst,.int .u8 h.proto,.int .u16 h.id])) rfl (by kernel_rfl) (by kernel_rfl) (by kernel_rfl) (fun _ _ _ h=>h) (Or.inl ⟨by rfl,?yy35⟩) (by assumption) ?rr35
   case yy35=>intro w' hSw;exact exec_load_row 85 _ rfl KB rfl 85 (#[.int .u32 h.src,.int .u32 h.dst,.int .u8 h.proto,.int .u16 h.id]) (0,0) _ (hSw.2) Tryz.underlying85 rfl (by kernel_rfl)
   try simp only [Act.put,jA,jB,jC]
   refine' tk (i:=5) rfl ?U36 ?V36
   case U36=>intro w' hSw;obtain ⟨hs1,hs2⟩:=hSw;go_simp;try (with_reducible rfl)
   try simp only [Act.put,jA,jB,jC]
   refine rdy [6] ?_
   refine cons_lit rfl (fun K hK=>?ss6x37) AllReadyH.nil
   case ss6x37 =>
    refine want_none (by rfl) (run_update_op (by rfl) (by rfl) (by rfl) (by rfl) (HPUT.out _ (ZD.out.obj 2 rfl)) ?_)
    refine nameK (fun v2 hv2=>?_)
    have Y:=Lib.hid (show SP w0 v2 (.blk N 88 (newM N E.now h).cells::(({ E with es:=E.es.push { key:=hkey h,val:=pv N,born:=E.clock },clock:=E.clock + 1 } : TM).its++(.blk KB 85 #[.int .u32 h.src,.int .u32 h.dst,.int .u8 h.proto,.int .u16 h.id]::.blk HB 34 (h.cells (.slice hA hn hc))::R))) by rw [hv2];exact ZD.out.turn 2 rfl _ (grownBy_putObj' _ _ _) (World.putObj_heap_same (ZD.out.all 2 _ rfl |>.lt rfl).2))
    clear hv2
    refine hK.out _ _ (by exact KT.out _ _ _ Y.out) (fun hHeld=>?_)
    clear hK K
    try simp only [Act.put,jA,jB,jC]
    refine wpAnyH_done (by kernel_rfl) ?_ _
    refine NoPanic.normal ?_
    go_wp2_with fail
    go_meet
    exact Y.out
  case rest =>
  have X6:=Lib.hid hcut
  clear hcut X5 KT HPUT
  obtain ⟨w8,rfl⟩ : ∃ w8 : World,w8=wc:=⟨_,rfl⟩
  obtain ⟨i0,hi0,hz0,hz1,hz2⟩:=info_parts (show (Tryz.prog.info? 82).map (fun i=>(i.zero,i.size,i.bytes))=some (some (.pointer none),1,8) by kernel_rfl)
  have k4 : w8.cell? ⟨T.TB,4,none⟩=some (.slice E.oA E.on E.oc):=by rw [<- HEN.out.2.1];exact X6.out.cell 1 rfl 4 rfl
  have hon : E.on<=100000:=by
   have h1:=(its_row X6.out.tail).1.1
   have h2:=HIE.out.1.len
   have h3:=HIE.out.1.lim
   rw [List.length_map] at h1
   have h4 : E.gs.length=E.on:=h1
   omega
  have X7:=Lib.hid (X6.out.next ((Below.refl _ w8).alloc (Nat.le_refl _) (.cells #[.pointer (some ⟨N,0,none⟩)] 82)))
  have KF:=Lib.hid (fun A' n' c' W' (vs : List Value) (hs : SP w0 W' (.blk N 88 (newM N E.now h).cells::.blk E.TB 44 E.cells::.obj E.M (.map (E.es.push { key:=hkey h,val:=pv N,born:=E.clock }) (E.clock + 1))::.row 82 1 A' n' c' vs::(gits E.gs++(.blk KB 85 #[.int .u32 h.src,.int .u32 h.dst,.int .u8 h.proto,.int .u16 h.id]::.blk HB 34 (h.cells (.slice hA hn hc))::R))))=>(show W'.cell? ⟨T.TB,4,none⟩=some (.slice E.oA E.on E.oc)∧W'.frozen? ⟨T.TB,4,none⟩=false from ⟨by rw [<- HEN.out.2.1];exact hs.cell 1 rfl 4 rfl,by rw [<- HEN.out.2.1];exact hs.free 1 rfl 4⟩))
  go_upto_region 9 with fail
  go_wp2_with (refine wpList_append_row1 _ rfl _ _ 42 rfl w0.heap.size 82 i0 _ 1 8 Tryz.underlying42 hi0 hz0 hz1 hz2 (by rfl) (by decide) E.oA E.on E.oc (pvs E.gs) rfl (X7.out.row 3 rfl) ⟨w8.heap.size,0,none⟩ 1 1 [.pointer (some ⟨N,0,none⟩)] rfl rfl (one_new w8 82 _) (by intro z hz;simp at hz;subst hz;rfl) (by simp only [maxLen];omega) (by omega) X7.out.size ?_;intro A9 c9 w9 hrow hgrow hat;have X8:=Lib.hid (show SP w0 w9 (.blk N 88 (newM N E.now h).cells::.blk E.TB 44 E.cells::.obj E.M (.map (E.es.push { key:=hkey h,val:=pv N,born:=E.clock }) (E.clock + 1))::.row 82 1 A9 (E.on + 1) c9 (pvs E.gs++[pv N])::(gits E.gs++(.blk KB 85 #[.int .u32 h.src,.int .u32 h.dst,.int .u8 h.proto,.int .u16 h.id]::.blk HB 34 (h.cells (.slice hA hn hc))::R))) by have:=X7.out.appRow 3 rfl hrow hgrow hat;unfold TM.its TM.hd at this;exact this);have kk4:=(KF.out _ _ _ _ _ X8.out).1;have kf4:=(KF.out _ _ _ _ _ X8.out).2;clear hrow hgrow hat)
  go_ret
  refine .inr ⟨HNO.out,N,A9,c9,rfl,?_⟩
  rw [HE.out]
  rw [<- HEN.out.2.1]
  exact of_end E N h A9 c9 KB HB #[.int .u32 h.src,.int .u32 h.dst,.int .u8 h.proto,.int .u16 h.id] (h.cells (.slice hA hn hc)) (X8.out.setB 1 rfl 4 (.slice A9 (E.on + 1) c9))
def GV (g : AG) : List Value:=[.int .u32 g.src,.int .u32 g.dst,.int .u8 g.proto,.int .u16 g.id,.int .i64 g.begin_,.int .i64 (bytesP g.ps : Int),.bool g.dead]
def GVS (gs : List AG) : List Value:=gs.flatMap GV
theorem many_new (w : World) (t : TypeId) (vs : List Value) (j : Nat) (x : Value) (hx : vs[j]?=some x) : (w.alloc (.cells vs.toArray t)).cell? ((⟨w.heap.size,0,none⟩ : Addr).add j)=some x:=by
 have hb : BLOCK (w.alloc (.cells vs.toArray t)) w.heap.size t vs.toArray:=BLOCK.new' w t _ rfl
 rw [Addr.add_mid,hb.cell,Nat.zero_add]
 simpa using hx
def GROUPS (w0 : World) (T : TM) (R : List IT) (e : Ending) (w' : World) : Prop :=
 ∃ A c,e = .returned (.slice A T.gs.length c)∧SP w0 w' (.row 94 7 A T.gs.length c (GVS (T.gs.map GM.a))::(T.its++R))
set_option maxHeartbeats 1000000 in
set_option maxRecDepth 100000 in
theorem groups_any {w0 w : World} {R : List IT} (T : TM) (H : SP w0 w (T.its++R)) (hi : TINV T) :
 Calls Tryz.prog 12 #[.pointer (some ⟨T.TB,0,none⟩)] w (GROUPS w0 T R):=by
 have HN:=Lib.hid (none_no T.TB T.limit w (its_cell H 0 _ rfl) hi.lim.1)
 have HI:=Lib.hid hi
 have k4 : w.cell? ⟨T.TB,4,none⟩=some (.slice T.oA T.on T.oc):=its_cell H 4 _ rfl
 have hpl : T.gs.length=T.on:=by have:=(its_row H).1.1;rw [List.length_map] at this;exact this
 have hon : T.on<=64:=by have h1:=hi.len;have h2:=hi.lim;omega
 have HPL:=Lib.hid hpl
 obtain ⟨i0,hi0,hz0,hz1,hz2⟩:=info_parts (show (Tryz.prog.info? 94).map (fun i=>(i.zero,i.size,i.bytes))=some (some (.agg #[.int .u32 0,.int .u32 0,.int .u8 0,.int .u16 0,.int .i64 0,.int .i64 0,.bool false]),7,40) by kernel_rfl)
 obtain ⟨TB,hTB⟩ : ∃ b,T.TB=b:=⟨_,rfl⟩
 have X0:=Lib.hid (show SP w0 w (.row 94 7 none 0 0 (GVS (([] : List GM).map GM.a))::(T.its++R)) from (H.pushRow 94 7).rot)
 have HTB:=Lib.hid hTB
 rw [hTB] at HN k4 ⊢
 obtain ⟨on,hon'⟩ : ∃ n,T.on=n:=⟨_,rfl⟩
 obtain ⟨oA,hoA'⟩ : ∃ a,T.oA=a:=⟨_,rfl⟩
 have HOA:=Lib.hid (show 0 < on->∃ g0,oA=some ⟨g0,0,none⟩ from fun h0=>by
  obtain ⟨g0,h1,_⟩:=(its_row H).1.2 (by rw [hon'];exact h0)
  exact ⟨g0,by rw [<- hoA',h1]⟩)
 have HOE:=Lib.hid hoA'
 rw [hon'] at k4 hon hpl
 rw [hoA'] at k4
 clear H hi hTB hon' hoA'
 go_enter Tryz.func12,Tryz.ntmps12
 go_wp2_with fail
 refine HN.out.mono ?_
 rintro e w1 ⟨rfl,hw⟩
 obtain rfl:=hw
 go_upto_region 5 with fail
 clear k4
 go_loopw [3,13] (fun s3 s13 wr=>∃ (k : Nat) (A : Option Addr) (c : Nat),k<=on∧s3 = .slice A k c∧s13 = .int .i64 (k : Int)∧SP w0 wr (.row 94 7 A k c (GVS ((T.gs.take k).map GM.a))::(T.its++R))) (fun _ s13 _=>on - (intOf s13).toNat)
 case atStart=>exact ⟨0,none,0,by omega,rfl,rfl,by rw [List.take_zero];exact X0.out⟩
 case round =>
  obtain ⟨k,A,c,hk,rfl,rfl,Y0⟩:=hrel
  have Y:=Lib.hid Y0
  clear Y0 X0
  by_cases hlt : k < on
  ·have t1 : (k : Int) < (on : Int):=by omega
   have t0 : (0 : Int)<=(k : Int):=by omega
   obtain ⟨g,hg⟩ : ∃ g,T.gs[k]?=some g:=⟨_,List.getElem?_eq_getElem (by omega)⟩
   obtain ⟨hp,_⟩:=its_row (w:=wr) (w0:=w0) (T:=T) (R:=R) Y.out.tail
   obtain ⟨gA,rfl⟩:=HOA.out (by omega)
   obtain ⟨g0,hoA,_,hcells⟩:=hp.2 (by have:=HPL.out;omega)
   obtain rfl : gA=g0:=by have:=HOE.out.symm.trans hoA;simpa using this
   have kp : wr.cell? ⟨gA,k,none⟩=some (.pointer (some ⟨g.N,0,none⟩)):=by
    rw [hcells k (by have:=HPL.out;omega),List.getElem?_map,hg];rfl
   obtain ⟨gs0,hgs0⟩ : ∃ gs0,T.gs.take k=gs0:=⟨_,rfl⟩
   have HGS:=Lib.hid hgs0
   rw [hgs0] at Y
   have HG:=Lib.hid hg
   obtain ⟨GN,hGN⟩ : ∃ b,g.N=b:=⟨_,rfl⟩
   have HGN:=Lib.hid hGN
   rw [hGN] at kp
   have KS:=Lib.hid (fun W' {A : Option Addr} {n c : Nat} {vs : List Value} (hs : SP w0 W' (.row 94 7 A n c vs::(T.its++R)))=>(show W'.cell? ⟨GN,0,none⟩=some (.int .u32 g.q.src)∧W'.cell? ⟨GN,1,none⟩=some (.int .u32 g.q.dst)∧W'.cell? ⟨GN,2,none⟩=some (.int .u8 g.q.proto)∧W'.cell? ⟨GN,3,none⟩=some (.int .u16 g.q.id)∧W'.cell? ⟨GN,4,none⟩=some (.int .i64 g.q.begin_)∧W'.cell? ⟨GN,6,none⟩=some (.bool g.q.dead) from by
    have hb:=its_g hs.tail (List.mem_of_getElem? HG.out)
    rw [HGN.out] at hb
    exact ⟨hb.cell 0,hb.cell 1,hb.cell 2,hb.cell 3,hb.cell 4,hb.cell 6⟩))
   have HBY:=Lib.hid (fun W' (hs : SP w0 W' (.row 94 7 A k c (GVS (gs0.map GM.a))::(T.its++R)))=>(show Calls Tryz.prog 41 #[.pointer (some ⟨GN,0,none⟩)] W' (fun e w'=>e = .returned (.int .i64 (bytesP g.a.ps : Int))∧SP w0 w' (.row 94 7 A k c (GVS (gs0.map GM.a))::(T.its++R))) by
    have hp1:=gits_split T.gs k g HG.out
    have h1 : SP w0 W' (g.its++(.row 94 7 A k c (GVS (gs0.map GM.a))::(T.hd++(gits (T.gs.eraseIdx k)++R)))):=by
     refine hs.perm ?_
     have e1 : (T.its++R).Perm (T.hd++((g.its++gits (T.gs.eraseIdx k))++R)):=by
      unfold TM.its;rw [List.append_assoc];exact (hp1.append_right R).append_left _
     refine (e1.cons _).trans ?_
     rw [List.append_assoc]
     refine List.Perm.trans ?_ List.perm_middle.symm
     refine List.Perm.cons _ ?_
     rw [<- List.append_assoc,<- List.append_assoc g.its]
     exact List.perm_append_comm.append_right _
    rw [<- HGN.out]
    refine (bytesG_any h1 (HI.out.ok g (List.mem_of_getElem? HG.out))).mono ?_
    rintro e w' ⟨rfl,h2⟩
    refine ⟨rfl,h2.perm ?_⟩
    have e1 : (T.its++R).Perm (T.hd++((g.its++gits (T.gs.eraseIdx k))++R)):=by
     unfold TM.its;rw [List.append_assoc];exact (hp1.append_right R).append_left _
    refine List.Perm.trans ?_ (e1.cons _).symm
    rw [List.append_assoc]
    refine List.perm_middle.trans ?_
    refine List.Perm.cons _ ?_
    rw [<- List.append_assoc,<- List.append_assoc T.hd]
    exact List.perm_append_comm.append_right _))
   have k11 : (0 : Nat) + k=k:=Nat.zero_add k
   clear hcells hp hg hgs0 hGN k11
   clear hoA
   go_upto_region 7 with fail
   obtain ⟨v0,rfl⟩ : ∃ v0 : World,v0=wr:=⟨_,rfl⟩
   have ZD:=Lib.hid Y.out.drew
   refine wp_region_noPanic ?_
   refine wp_region_held_drew (S:=fun W'=>W'.cell? ⟨GN,0,none⟩=some (.int .u32 g.q.src)∧W'.cell? ⟨GN,1,none⟩=some (.int .u32 g.q.dst)∧W'.cell? ⟨GN,2,none⟩=some (.int .u8 g.q.proto)∧W'.cell? ⟨GN,3,none⟩=some (.int .u16 g.q.id)∧W'.cell? ⟨GN,4,none⟩=some (.int .i64 g.q.begin_)∧W'.cell? ⟨GN,6,none⟩=some (.bool g.q.dead)) (by kernel_rfl) (by exact KS.out _ ZD.out) (fun hHeld=>?_)
   generalize v0.drew=v1 at ZD hHeld ⊢
   refine' tk (i:=0) rfl ?U1 ?V1
   case U1=>intro w' hSw;obtain ⟨hs1,hs2,hs3,hs4,hs5,hs6⟩:=hSw;go_simp;try (with_reducible rfl)
   try simp only [Act.put,jA,jB,jC]
   refine' tk (i:=1) rfl ?U2 ?V2
   case U2=>intro w' hSw;obtain ⟨hs1,hs2,hs3,hs4,hs5,hs6⟩:=hSw;go_simp;try (with_reducible rfl)
   try simp only [Act.put,jA,jB,jC]
   refine' tk (i:=2) rfl ?U3 ?V3
   case U3=>intro w' hSw;obtain ⟨hs1,hs2,hs3,hs4,hs5,hs6⟩:=hSw;go_simp;try (with_reducible rfl)
   try simp only [Act.put,jA,jB,jC]
   refine' tk (i:=3) rfl ?U4 ?V4
   case U4=>intro w' hSw;obtain ⟨hs1,hs2,hs3,hs4,hs5,hs6⟩:=hSw;go_simp;try (with_reducible rfl)
   try simp only [Act.put,jA,jB,jC]
   refine' tk (i:=4) rfl ?U5 ?V5
   case U5=>intro w' hSw;obtain ⟨hs1,hs2,hs3,hs4,hs5,hs6⟩:=hSw;go_simp;try (with_reducible rfl)
   try simp only [Act.put,jA,jB,jC]
   refine' tk (i:=5) rfl ?U6 ?V6
   case U6=>intro w' hSw;obtain ⟨hs1,hs2,hs3,hs4,hs5,hs6⟩:=hSw;go_simp;try (with_reducible rfl)
   try simp only [Act.put,jA,jB,jC]
   refine' tk (i:=6) rfl ?U7 ?V7
   case U7=>intro w' hSw;obtain ⟨hs1,hs2,hs3,hs4,hs5,hs6⟩:=hSw;go_simp;try (with_reducible rfl)
   try simp only [Act.put,jA,jB,jC]
   refine' tk (i:=7) rfl ?U8 ?V8
   case U8=>intro w' hSw;obtain ⟨hs1,hs2,hs3,hs4,hs5,hs6⟩:=hSw;go_simp;try (with_reducible rfl)
   try simp only [Act.put,jA,jB,jC]
   refine' tk (i:=8) rfl ?U9 ?V9
   case U9=>intro w' hSw;obtain ⟨hs1,hs2,hs3,hs4,hs5,hs6⟩:=hSw;go_simp;try (with_reducible rfl)
   try simp only [Act.put,jA,jB,jC]
   refine' tk (i:=9) rfl ?U10 ?V10
   case U10=>intro w' hSw;obtain ⟨hs1,hs2,hs3,hs4,hs5,hs6⟩:=hSw;go_simp;try (with_reducible rfl)
   try simp only [Act.put,jA,jB,jC]
   refine' tk (i:=10) rfl ?U11 ?V11
   case U11=>intro w' hSw;obtain ⟨hs1,hs2,hs3,hs4,hs5,hs6⟩:=hSw;go_simp;try (with_reducible rfl)
   try simp only [Act.put,jA,jB,jC]
   refine' tk (i:=11) rfl ?U12 ?V12
   case U12=>intro w' hSw;obtain ⟨hs1,hs2,hs3,hs4,hs5,hs6⟩:=hSw;go_simp;try (with_reducible rfl)
   try simp only [Act.put,jA,jB,jC]
   refine' tk (i:=12) rfl ?U13 ?V13
   case U13=>intro w' hSw;obtain ⟨hs1,hs2,hs3,hs4,hs5,hs6⟩:=hSw;go_simp;try (with_reducible rfl)
   try simp only [Act.put,jA,jB,jC]
   refine' tk (i:=13) rfl ?U14 ?V14
   case U14=>intro w' hSw;obtain ⟨hs1,hs2,hs3,hs4,hs5,hs6⟩:=hSw;go_simp;try (with_reducible rfl)
   try simp only [Act.put,jA,jB,jC]
   refine' tk (i:=14) rfl ?U15 ?V15
   case U15=>intro w' hSw;obtain ⟨hs1,hs2,hs3,hs4,hs5,hs6⟩:=hSw;go_simp;try (with_reducible rfl)
   try simp only [Act.put,jA,jB,jC]
   refine' tk (i:=15) rfl ?U16 ?V16
   case U16=>intro w' hSw;obtain ⟨hs1,hs2,hs3,hs4,hs5,hs6⟩:=hSw;go_simp;try (with_reducible rfl)
   try simp only [Act.put,jA,jB,jC]
   refine' tk (i:=16) rfl ?U17 ?V17
   case U17=>intro w' hSw;obtain ⟨hs1,hs2,hs3,hs4,hs5,hs6⟩:=hSw;go_simp;try (with_reducible rfl)
   try simp only [Act.put,jA,jB,jC]
   refine' tk (i:=17) rfl ?U18 ?V18
   case U18=>intro w' hSw;obtain ⟨hs1,hs2,hs3,hs4,hs5,hs6⟩:=hSw;go_simp;try (with_reducible rfl)
   try simp only [Act.put,jA,jB,jC]
   refine' tk (i:=18) rfl ?U19 ?V19
   case U19=>intro w' hSw;obtain ⟨hs1,hs2,hs3,hs4,hs5,hs6⟩:=hSw;go_simp;try (with_reducible rfl)
   try simp only [Act.put,jA,jB,jC]
   refine' tk (i:=19) rfl ?U20 ?V20
   case U20=>intro w' hSw;obtain ⟨hs1,hs2,hs3,hs4,hs5,hs6⟩:=hSw;go_simp;try (with_reducible rfl)
   try simp only [Act.put,jA,jB,jC]
   refine' tk (i:=20) rfl ?U21 ?V21
   case U21=>intro w' hSw;obtain ⟨hs1,hs2,hs3,hs4,hs5,hs6⟩:=hSw;go_simp;try (with_reducible rfl)
   try simp only [Act.put,jA,jB,jC]
   refine' tk (i:=21) rfl ?U22 ?V22
   case U22=>intro w' hSw;obtain ⟨hs1,hs2,hs3,hs4,hs5,hs6⟩:=hSw;go_simp;try (with_reducible rfl)
   try simp only [Act.put,jA,jB,jC]
   refine' tk (i:=22) rfl ?U23 ?V23
   case U23=>intro w' hSw;obtain ⟨hs1,hs2,hs3,hs4,hs5,hs6⟩:=hSw;go_simp;try (with_reducible rfl)
   try simp only [Act.put,jA,jB,jC]
   refine' tk (i:=23) rfl ?U24 ?V24
   case U24=>intro w' hSw;obtain ⟨hs1,hs2,hs3,hs4,hs5,hs6⟩:=hSw;go_simp;try (with_reducible rfl)
   try simp only [Act.put,jA,jB,jC]
   refine' tk (i:=24) rfl ?U25 ?V25
   case U25=>intro w' hSw;obtain ⟨hs1,hs2,hs3,hs4,hs5,hs6⟩:=hSw;go_simp;try (with_reducible rfl)
   try simp only [Act.put,jA,jB,jC]
   refine' tk (i:=25) rfl ?U26 ?V26
   case U26=>intro w' hSw;obtain ⟨hs1,hs2,hs3,hs4,hs5,hs6⟩:=hSw;go_simp;try (with_reducible rfl)
   try simp only [Act.put,jA,jB,jC]
   refine' tk (i:=27) rfl ?U27 ?V27
   case U27=>intro w' hSw;obtain ⟨hs1,hs2,hs3,hs4,hs5,hs6⟩:=hSw;go_simp;try (with_reducible rfl)
   try simp only [Act.put,jA,jB,jC]
   refine' tk (i:=28) rfl ?U28 ?V28
   case U28=>intro w' hSw;obtain ⟨hs1,hs2,hs3,hs4,hs5,hs6⟩:=hSw;go_simp;try (with_reducible rfl)
   try simp only [Act.put,jA,jB,jC]
   refine' tk (i:=29) rfl ?U29 ?V29
   case U29=>intro w' hSw;obtain ⟨hs1,hs2,hs3,hs4,hs5,hs6⟩:=hSw;go_simp;try (with_reducible rfl)
   try simp only [Act.put,jA,jB,jC]
   refine' tk (i:=30) rfl ?U30 ?V30
   case U30=>intro w' hSw;obtain ⟨hs1,hs2,hs3,hs4,hs5,hs6⟩:=hSw;go_simp;try (with_reducible rfl)
   try simp only [Act.put,jA,jB,jC]
   refine rdy [26] ?_
   refine cons_lit rfl (fun K hK=>?ss26x31) AllReadyH.nil
   case ss26x31 =>
    go_simp
    refine (HBY.out v1 ZD.out).mono ?_
    rintro e v2 ⟨rfl,hS⟩
    have Y1:=Lib.hid hS
    clear hS ZD
    try simp only [Oper.upon_returned]
    refine hK.out _ _ (by exact KS.out _ Y1.out) (fun hHeld=>?_)
    clear hK K
    try simp only [Act.put,jA,jB,jC]
    refine' tk (i:=31) rfl ?U32 ?V32
    case U32=>intro w' hSw;obtain ⟨hs1,hs2,hs3,hs4,hs5,hs6⟩:=hSw;go_simp;try (with_reducible rfl)
    try simp only [Act.put,jA,jB,jC]
    refine rdy [32] ?_
    refine cons_lit rfl (fun K hK=>?ss32x33) AllReadyH.nil
    case ss32x33 =>
     go_simp
     refine nameK (fun v3 hv3=>?_)
     have Y2:=Lib.hid (show SP w0 v3 (.row 94 7 A k c (GVS (gs0.map GM.a))::(T.its++R)) by rw [hv3];exact Y1.out.next ((Below.refl _ v2).alloc (Nat.le_refl _) _))
     have HN2:=Lib.hid (show ∀ j x,(GV g.a)[j]?=some x->v3.cell? ((⟨v2.heap.size,0,none⟩ : Addr).add j)=some x by rw [hv3];exact fun j x hx=>many_new v2 94 _ j x hx)
     clear hv3 Y1
     refine hK.out _ _ (by exact KS.out _ Y2.out) (fun hHeld=>?_)
     clear hK K
     try simp only [Act.put,jA,jB,jC]
     refine rdy [33] ?_
     refine cons_lit rfl (fun K hK=>?ss33x34) AllReadyH.nil
     case ss33x34 =>
      refine step_append_row _ (by rfl) _ _ 49 (by rfl) w0.heap.size 94 i0 _ 7 40 Tryz.underlying49 hi0 hz0 hz1 hz2 (by rfl) (by decide) A k c (GVS (gs0.map GM.a)) (by rfl) (Y2.out.row 0 rfl) ⟨v2.heap.size,0,none⟩ 1 1 (GV g.a) (by rfl) rfl HN2.out (by intro z hz;unfold GV at hz;simp at hz;rcases hz with rfl | rfl | rfl | rfl | rfl | rfl | rfl <;> rfl) (by simp only [maxLen];omega) (by omega) Y2.out.size ?_
      intro A5 c5 v4 hrow hgrow hat
      have Y3:=Lib.hid (show SP w0 v4 (.row 94 7 A5 (k + 1) c5 (GVS (gs0.map GM.a)++GV g.a)::(T.its++R)) from Y2.out.appRow 0 rfl hrow hgrow hat)
      clear hrow hgrow hat HN2 Y2
      refine hK.out _ _ (by exact KS.out _ Y3.out) (fun hHeld=>?_)
      clear hK K
      try simp only [Act.put,jA,jB,jC]
      refine' tk (i:=34) rfl ?U35 ?V35
      case U35=>intro w' hSw;obtain ⟨hs1,hs2,hs3,hs4,hs5,hs6⟩:=hSw;go_simp;try (with_reducible rfl)
      try simp only [Act.put,jA,jB,jC]
      refine wpAnyH_done (by kernel_rfl) ?_ _
      refine NoPanic.normal ?_
      have e6 : IntKind.i64.wrap ((k : Int) + 1)=(k : Int) + 1:=IntWalk.i64_in _ (by omega)
      go_wp2_with fail
      go_roundw
      case rel =>
       refine ⟨k + 1,A5,c5,by omega,rfl,by go_num,?_⟩
       rw [List.take_add_one,HG.out,HGS.out,List.map_append]
       have e1 : GVS (gs0.map GM.a++(some g).toList.map GM.a)=GVS (gs0.map GM.a)++GV g.a:=by unfold GVS;simp
       rw [e1];exact Y3.out
      case measure=>simp [intOf];omega
  ·have t1 : ¬ (k : Int) < (on : Int):=by omega
   obtain rfl : k=on:=by omega
   go_wp2_with fail
   go_ret
   refine ⟨A,c,by rw [hpl];rfl,?_⟩
   have e1 : T.gs.take k=T.gs:=List.take_of_length_le (by rw [hpl];exact Nat.le_refl _)
   rw [e1] at Y
   rw [hpl];exact Y.out
end Go.Proofs.YtljbfnabnkkfeaaGreat
