import Derived.Laws.EntriesVeiled
import Derived.BigRegion
import Derived.Test.YtljbfnabnkkfeaaGreatSL05
set_option linter.unusedVariables false
set_option linter.unusedSimpArgs false
/- Joined by program: WIpRead, WIpWrite, WIpHop, Dag. -/
namespace Go.Proofs.YtljbfnabnkkfeaaGreat
open Go.RowKit
def ReadP (w : World) (zs : List Int) (e : Ending) (w' : World) : Prop :=
 ∃ A n c,e = .returned (.tuple #[(hdR zs).val (.slice A n c),.int .i64 (fromR zs),.int .i64 (toR zs),.int .i64 (ipE zs)])∧OWN .u8 5 w' w.heap.size A n c (optsR zs)∧Below w.heap.size w w'
theorem results_cell_tmp3 {P : Program} {fn : Func} {p u1 u2 u3 : Tmp} {ty : TypeId} (h : fn.results = #[.cell p ty,.tmp u1,.tmp u2,.tmp u3]) (tmps : Array Value) (w : World) (g : Nat) (t : TypeId) (cs : Array Value) (fr : Nat × Nat) (d : TypeDesc)
 (hp : tmps.getD p undef = .pointer (some ⟨g,0,none⟩)) (hg : w.heap[g]?=some (.cells cs t fr))
 (hu : P.underlying ty=some d) (hd : (match d with | .struct _ | .array _ _=>true | _=>false)=true) (hi : (P.info? ty).map (·.size)=some cs.size) :
 (results fn tmps).run P w = .ok (.tuple #[.agg cs,tmps.getD u1 undef,tmps.getD u2 undef,tmps.getD u3 undef]) w:=by
 have hp' : tmps[p]?.getD undef = .pointer (some ⟨g,0,none⟩):=by simpa using hp
 simp [results,h,hp',asAddr,run_loadVar_row w g t ty cs fr d hg hu hd hi]
def EXC (w : World) (M : Nat) (w' : World) : Prop:=∀ b,b≠M->b < w.heap.size->w'.heap[b]?=w.heap[b]?
theorem EXC.refl (w : World) (M : Nat) : EXC w M w:=fun _ _ _=>rfl
theorem EXC.drew {w w' : World} {M : Nat} (h : EXC w M w') : EXC w M w'.drew:=h
theorem EXC.setCell {w w' : World} {M : Nat} (h : EXC w M w') {p : Addr} (hp : p.block=M) (v : Value) : EXC w M (w'.setCell p v):=fun b h1 h2=>(heap_setCell_other _ _ _ _ (by omega)).trans (h b h1 h2)
theorem EXC.block {w w' : World} {M b : Nat} {t : TypeId} {cs : Array Value} (h : EXC w M w') (hb : BLOCK w b t cs) (hne : b≠M) : BLOCK w' b t cs:=(h b hne hb.lt).trans hb
theorem fault_ge1 {zs : List Int} (h : 1<=faultR zs) : 20<=zs.length:=by
 unfold faultR at h;repeat' split at h
 all_goals omega
theorem fault_ge2 {zs : List Int} (h : 2<=faultR zs) : byteAt zs 0 / 16=4:=by
 unfold faultR at h;repeat' split at h
 all_goals omega
theorem fault_ge3 {zs : List Int} (h : 3<=faultR zs) : 20<=sizeR zs∧sizeR zs<=zs.length:=by
 unfold faultR at h;repeat' split at h
 all_goals omega
theorem fault_ge4 {zs : List Int} (h : 4<=faultR zs) : sizeR zs<=totalR zs∧totalR zs<=zs.length:=by
 unfold faultR at h;repeat' split at h
 all_goals omega
theorem fault_ge5 {zs : List Int} (h : 5<=faultR zs) : sumOf (zs.take (sizeR zs))=65535:=by
 unfold faultR at h;repeat' split at h
 all_goals omega
theorem fault_ge6 {zs : List Int} (h : 6<=faultR zs) : wordAt zs 6 < 32768:=by
 unfold faultR at h;repeat' split at h
 all_goals omega
theorem fault_ge7 {zs : List Int} (h : 7<=faultR zs) : rightB (hdOf zs).off (hdOf zs).mf (sizeR zs - 20) ((totalR zs : Int) - sizeR zs)=true:=by
 unfold faultR at h;repeat' split at h
 all_goals first | omega | simp_all
theorem fault_0 {zs : List Int} (h : faultR zs=0) : zs.length < 20:=by
 unfold faultR at h;repeat' split at h
 all_goals omega
theorem fault_1 {zs : List Int} (h : faultR zs=1) : byteAt zs 0 / 16≠4:=by
 unfold faultR at h;repeat' split at h
 all_goals omega
theorem fault_2 {zs : List Int} (h : faultR zs=2) : sizeR zs < 20∨zs.length < sizeR zs:=by
 unfold faultR at h;repeat' split at h
 all_goals omega
theorem fault_3 {zs : List Int} (h : faultR zs=3) : totalR zs < sizeR zs∨zs.length < totalR zs:=by
 unfold faultR at h;repeat' split at h
 all_goals omega
theorem fault_4 {zs : List Int} (h : faultR zs=4) : sumOf (zs.take (sizeR zs))≠65535:=by
 unfold faultR at h;repeat' split at h
 all_goals omega
theorem fault_5 {zs : List Int} (h : faultR zs=5) : 32768<=wordAt zs 6:=by
 unfold faultR at h;repeat' split at h
 all_goals omega
theorem fault_6 {zs : List Int} (h : faultR zs=6) : rightB (hdOf zs).off (hdOf zs).mf (sizeR zs - 20) ((totalR zs : Int) - sizeR zs)=false:=by
 unfold faultR at h;repeat' split at h
 all_goals first | omega | simp_all
theorem totalR_le {zs : List Int} (hz : BD 255 zs) : totalR zs<=65535:=by
 have:=wordAt_bd hz 2
 unfold totalR;omega
def STK (w0 : World) (N : Nat) (A : Option Addr) (n c : Nat) (zs : List Int) (k : Nat) (w : World) : Prop :=
 (k < 7->ST w0 N A n c zs (if k<=2 then 0 else sizeR zs) (if k<=3 then 0 else totalR zs) (HD.zero.cells (.slice none 0 0)) w) ∧
 (k=7->∃ A1 n1 c1,ST w0 N A n c zs (sizeR zs) (totalR zs) ((hdOf zs).cells (.slice A1 n1 c1)) w∧OWN .u8 5 w (N + 5) A1 n1 c1 (optsOf zs))
structure RES (w0 : World) (N : Nat) (w : World) : Prop where
 r : BLOCK w (N + 1) 34 (HD.zero.cells (.slice none 0 0))
 bel : Below N w0 w
theorem ST.res {w0 w : World} {N : Nat} {A : Option Addr} {n c : Nat} {zs : List Int} {sz tot : Int} {H : Array Value} (h : ST w0 N A n c zs sz tot H w) : RES w0 N w:=⟨h.r,h.bel⟩
theorem read_fail {w0 w' : World} {zs : List Int} {N : Nat} (hN : N=w0.heap.size) (hf : faultR zs≠7) (h : Below N w0 w') (v : Value)
 (hv : v = .tuple #[.agg (HD.zero.cells (.slice none 0 0)),.int .i64 0,.int .i64 0,.int .i64 (50 + faultR zs)]) : ReadP w0 zs (.returned v) w':=by
 subst hN hv
 refine ⟨none,0,0,?_,?_,h⟩
 ·unfold hdR fromR toR ipE
  rw [if_neg hf,if_neg hf,if_neg hf,if_neg hf]
  rfl
 ·unfold optsR
  rw [if_neg hf]
  exact OWN.nil
def ARR (N : Nat) : Value:=.agg #[.func (.func 57) #[] #[.pointer (some ⟨N,0,none⟩)],.int .i64 50,.func (.func 58) #[] #[.pointer (some ⟨N,0,none⟩)],.int .i64 51,.func (.func 59) #[] #[.pointer (some ⟨N,0,none⟩),.pointer (some ⟨N + 3,0,none⟩)],.int .i64 52,.func (.func 60) #[] #[.pointer (some ⟨N,0,none⟩),.pointer (some ⟨N + 4,0,none⟩),.pointer (some ⟨N + 3,0,none⟩)],.int .i64 53,.func (.func 62) #[] #[.pointer (some ⟨N,0,none⟩),.pointer (some ⟨N + 3,0,none⟩)],.int .i64 54,.func (.func 64) #[] #[.pointer (some ⟨N,0,none⟩)],.int .i64 55,.func (.func 65) #[] #[.pointer (some ⟨N,0,none⟩),.pointer (some ⟨N + 3,0,none⟩),.pointer (some ⟨N + 2,0,none⟩),.pointer (some ⟨N + 4,0,none⟩)],.int .i64 56]
theorem arr_0 (N : Nat) (W : World) : (Instr.index 137 (ARR N) (.int .i64 0)).run Tryz.prog W = .ok (.agg #[.func (.func 57) #[] #[.pointer (some ⟨N,0,none⟩)],.int .i64 50]) W:=by kernel_rfl
theorem arr_1 (N : Nat) (W : World) : (Instr.index 137 (ARR N) (.int .i64 1)).run Tryz.prog W = .ok (.agg #[.func (.func 58) #[] #[.pointer (some ⟨N,0,none⟩)],.int .i64 51]) W:=by kernel_rfl
theorem arr_2 (N : Nat) (W : World) : (Instr.index 137 (ARR N) (.int .i64 2)).run Tryz.prog W = .ok (.agg #[.func (.func 59) #[] #[.pointer (some ⟨N,0,none⟩),.pointer (some ⟨N + 3,0,none⟩)],.int .i64 52]) W:=by kernel_rfl
theorem arr_3 (N : Nat) (W : World) : (Instr.index 137 (ARR N) (.int .i64 3)).run Tryz.prog W = .ok (.agg #[.func (.func 60) #[] #[.pointer (some ⟨N,0,none⟩),.pointer (some ⟨N + 4,0,none⟩),.pointer (some ⟨N + 3,0,none⟩)],.int .i64 53]) W:=by kernel_rfl
theorem arr_4 (N : Nat) (W : World) : (Instr.index 137 (ARR N) (.int .i64 4)).run Tryz.prog W = .ok (.agg #[.func (.func 62) #[] #[.pointer (some ⟨N,0,none⟩),.pointer (some ⟨N + 3,0,none⟩)],.int .i64 54]) W:=by kernel_rfl
theorem arr_5 (N : Nat) (W : World) : (Instr.index 137 (ARR N) (.int .i64 5)).run Tryz.prog W = .ok (.agg #[.func (.func 64) #[] #[.pointer (some ⟨N,0,none⟩)],.int .i64 55]) W:=by kernel_rfl
theorem arr_6 (N : Nat) (W : World) : (Instr.index 137 (ARR N) (.int .i64 6)).run Tryz.prog W = .ok (.agg #[.func (.func 65) #[] #[.pointer (some ⟨N,0,none⟩),.pointer (some ⟨N + 3,0,none⟩),.pointer (some ⟨N + 2,0,none⟩),.pointer (some ⟨N + 4,0,none⟩)],.int .i64 56]) W:=by kernel_rfl
set_option maxHeartbeats 8000000 in
set_option maxRecDepth 100000 in
theorem read_any (A : Option Addr) (n c : Nat) (zs : List Int) (w : World) (h : RD .u8 w w.heap.size A n zs) (hz : BD 255 zs) (hn : n<=c) (hc : n<=140737488351232) :
 Calls Tryz.prog 34 #[.slice A n c] w (ReadP w zs):=by
 have HL:=Lib.hid h.1
 go_enter Tryz.func34,Tryz.ntmps34
 go_wp2_with fail
 rw [show w.heap.size + 1 + 1 + 1 + 1=w.heap.size + 4 from rfl,show w.heap.size + 1 + 1 + 1=w.heap.size + 3 from rfl,show w.heap.size + 1 + 1=w.heap.size + 2 from rfl]
 rw [show Value.agg #[.func (.func 57) #[] #[.pointer (some ⟨w.heap.size,0,none⟩)],.int .i64 50,.func (.func 58) #[] #[.pointer (some ⟨w.heap.size,0,none⟩)],.int .i64 51,.func (.func 59) #[] #[.pointer (some ⟨w.heap.size,0,none⟩),.pointer (some ⟨w.heap.size + 3,0,none⟩)],.int .i64 52,.func (.func 60) #[] #[.pointer (some ⟨w.heap.size,0,none⟩),.pointer (some ⟨w.heap.size + 4,0,none⟩),.pointer (some ⟨w.heap.size + 3,0,none⟩)],.int .i64 53,.func (.func 62) #[] #[.pointer (some ⟨w.heap.size,0,none⟩),.pointer (some ⟨w.heap.size + 3,0,none⟩)],.int .i64 54,.func (.func 64) #[] #[.pointer (some ⟨w.heap.size,0,none⟩)],.int .i64 55,.func (.func 65) #[] #[.pointer (some ⟨w.heap.size,0,none⟩),.pointer (some ⟨w.heap.size + 3,0,none⟩),.pointer (some ⟨w.heap.size + 2,0,none⟩),.pointer (some ⟨w.heap.size + 4,0,none⟩)],.int .i64 56]=ARR w.heap.size from rfl]
 have hst : ST w w.heap.size A n c zs 0 0 (HD.zero.cells (.slice none 0 0)) (((((w.alloc (.cells #[.slice A n c] 22)).alloc (.cells (HD.zero.cells (.slice none 0 0)) 34)).alloc (.cells (HD.zero.cells (.slice none 0 0)) 34)).alloc (.cells #[.int .i64 0] 3)).alloc (.cells #[.int .i64 0] 3)) :=
  ⟨(
   (((BLOCK.new w _ _).alloc _).alloc _).alloc _).alloc _,(((BLOCK.new' _ _ _ (by simp)).alloc _).alloc _).alloc _,((BLOCK.new' _ _ _ (by simp)).alloc _).alloc _,(BLOCK.new' _ _ _ (by simp)).alloc _,BLOCK.new' _ _ _ (by simp),
   (((((Below.refl _ w).alloc (Nat.le_refl _) _).alloc (by simp) _).alloc (by simp;omega) _).alloc (by simp;omega) _).alloc (by simp;omega) _,
   ((((h.alloc (Nat.le_refl _) _).alloc (by simp) _).alloc (by simp;omega) _).alloc (by simp;omega) _).alloc (by simp;omega) _⟩
 rw [show ((((w.alloc (.cells #[.slice A n c] 22)).alloc (.cells #[.int .u8 0,.int .u16 0,.bool false,.bool false,.int .i64 0,.int .u8 0,.int .u8 0,.int .u32 0,.int .u32 0,.slice none 0 0] 34)).alloc (.cells #[.int .u8 0,.int .u16 0,.bool false,.bool false,.int .i64 0,.int .u8 0,.int .u8 0,.int .u32 0,.int .u32 0,.slice none 0 0] 34)).alloc (.cells #[.int .i64 0] 3)).alloc (.cells #[.int .i64 0] 3)=(((((w.alloc (.cells #[.slice A n c] 22)).alloc (.cells (HD.zero.cells (.slice none 0 0)) 34)).alloc (.cells (HD.zero.cells (.slice none 0 0)) 34)).alloc (.cells #[.int .i64 0] 3)).alloc (.cells #[.int .i64 0] 3)) from rfl]
 generalize (((((w.alloc (.cells #[.slice A n c] 22)).alloc (.cells (HD.zero.cells (.slice none 0 0)) 34)).alloc (.cells (HD.zero.cells (.slice none 0 0)) 34)).alloc (.cells #[.int .i64 0] 3)).alloc (.cells #[.int .i64 0] 3))=w1 at hst ⊢
 obtain ⟨N,hN⟩ : ∃ N,N=w.heap.size:=⟨_,rfl⟩
 rw [<- hN] at hst ⊢
 have HN:=Lib.hid hN
 have HF:=Lib.hid (faultR_le zs)
 clear hN h
 have a0:=arr_0 N
 have a1:=arr_1 N
 have a2:=arr_2 N
 have a3:=arr_3 N
 have a4:=arr_4 N
 have a5:=arr_5 N
 have a6:=arr_6 N
 generalize ARR N=arr at a0 a1 a2 a3 a4 a5 a6 ⊢
 go_loopw [26] (fun i wr=>∃ k : Nat,k<=7∧Hid (k<=faultR zs)∧i = .int .i64 k∧Hid (STK w N A n c zs k wr)) (fun i _=>7 - (intOf i).toNat)
 case atStart=>exact ⟨0,by omega,Lib.hid (Nat.zero_le _),rfl,Lib.hid ⟨fun _=>hst,fun h=>by omega⟩⟩
 case round =>
  obtain ⟨k,hk,HK,rfl,HS⟩:=hrel
  clear hst
  obtain ⟨wo,rfl⟩ : ∃ wo : World,wo=wr:=⟨_,rfl⟩
  rcases (show k=0∨k=1∨k=2∨k=3∨k=4∨k=5∨k=6∨k=7 by omega) with rfl | rfl | rfl | rfl | rfl | rfl | rfl | rfl
  ·have hst : ST w N A n c zs 0 0 (HD.zero.cells (.slice none 0 0)) wo:=HS.out.1 (by omega)
   have HX:=hst.next (((Below.refl _ wo).alloc (Nat.le_refl _) (.cells #[.func (.func 57) #[] #[.pointer (some ⟨N,0,none⟩)],.int .i64 50] 133)))
   have XB : BLOCK (wo.alloc (.cells #[.func (.func 57) #[] #[.pointer (some ⟨N,0,none⟩)],.int .i64 50] 133)) wo.heap.size 133 #[.func (.func 57) #[] #[.pointer (some ⟨N,0,none⟩)],.int .i64 50]:=BLOCK.new wo _ _
   have hsz:=hst.siz
   have HXX:=Lib.hid HX
   have a:=a0
   clear a0 a1 a2 a3 a4 a5 a6
   by_cases hf : faultR zs=0
   ·have hB : decide (n < 20)=true:=decide_eq_true (by have:=fault_0 hf;have:=HL.out;first | assumption | omega)
    have HBB:=Lib.hid hB
    have HFF:=Lib.hid hf
    have XBB:=Lib.hid XB
    clear hB hf HX XB hst
    go_wp2_with fail
    refine (f1_any w N A n c zs 0 0 _ _ true (by exact HXX.out) (by omega) HBB.out).mono ?_
    rintro e w2 ⟨rfl,hw⟩;have ST2 : ST w N A n c zs 0 0 (HD.zero.cells (.slice none 0 0)) w2:=hw ▸ HXX.out;have O2 : OLD N (wo.alloc (.cells #[.func (.func 57) #[] #[.pointer (some ⟨N,0,none⟩)],.int .i64 50] 133)) w2:=hw ▸ OLD.refl N _;clear hw
    have xb : BLOCK w2 wo.heap.size 133 #[.func (.func 57) #[] #[.pointer (some ⟨N,0,none⟩)],.int .i64 50]:=(O2 _ hsz (by simp)).trans XBB.out
    have rr:=ST2.res
    have xc : w2.cell? ⟨wo.heap.size,1,none⟩=some (.int .i64 50):=xb.cell 1
    have hne : wo.heap.size≠N + 1:=by omega
    have hrr:=rr.r
    have f0:=hrr.cell 0
    have f1:=hrr.cell 1
    have f2:=hrr.cell 2
    have f3:=hrr.cell 3
    have f4:=hrr.cell 4
    have f5:=hrr.cell 5
    have f6:=hrr.cell 6
    have f7:=hrr.cell 7
    have f8:=hrr.cell 8
    have f9:=hrr.cell 9
    have g0:=hrr.free 0
    have g1:=hrr.free 1
    have g2:=hrr.free 2
    have g3:=hrr.free 3
    have g4:=hrr.free 4
    have g5:=hrr.free 5
    have g6:=hrr.free 6
    have g7:=hrr.free 7
    have g8:=hrr.free 8
    have g9:=hrr.free 9
    simp only [HD.cells,HD.zero,List.getElem?_toArray,List.getElem?_cons_zero,List.getElem?_cons_succ] at f0 f1 f2 f3 f4 f5 f6 f7 f8 f9
    have HKK:=Lib.hid (fun (W' : World) (he : EXC w2 (N + 1) W')=>(show EXC w2 (N + 1) W'∧W'.cell? ⟨wo.heap.size,1,none⟩=some (.int .i64 50) from ⟨he,(he.block xb hne).cell 1⟩))
    have RR:=Lib.hid rr
    have hlt2 : N + 1 < w2.heap.size:=hrr.lt
    clear ST2 O2 XBB xb rr hrr HXX
    go_wp2_with fail
    go_region_held3 (fun W'=>EXC w2 (N + 1) W'∧W'.cell? ⟨wo.heap.size,1,none⟩=some (.int .i64 50)) ((with_reducible refine HKK.out _ ?_;(repeat' (first | (with_reducible exact EXC.refl _ _) | (with_reducible refine EXC.drew ?_) | (with_reducible refine EXC.setCell ?_ (by rfl) _))))) (fail)
    go_wp2_with fail
    clear f0 f1 f2 f3 f4 f5 f6 f7 f8 f9 g0 g1 g2 g3 g4 g5 g6 g7 g8 g9
    have hblk:=set10_block (.int .u8 0) (.int .u16 0) (.bool false) (.bool false) (.int .i64 0) (.int .u8 0) (.int .u8 0) (.int .u32 0) (.int .u32 0) (.slice none 0 0) RR.out.r rfl
    refine bodyPost_ret (results_cell_tmp3 rfl _ _ (N + 1) 34 _ _ _ rfl hblk.drew Tryz.underlying34 rfl (by kernel_rfl)) rfl (read_fail HN.out (by rw [HFF.out];omega) (set10_below _ _ _ _ _ _ _ _ _ _ RR.out.bel (by omega)).drew _ (by rw [HFF.out];rfl))
   ·have hB : decide (n < 20)=false:=decide_eq_false (by have:=fault_ge1 (zs:=zs) (by have:=HK.out;omega);have:=HL.out;first | omega | simp_all)
    have HBB:=Lib.hid hB
    have HFF:=Lib.hid hf
    clear hB hf HX XB hst
    go_wp2_with fail
    refine (f1_any w N A n c zs 0 0 _ _ false (by exact HXX.out) (by omega) HBB.out).mono ?_
    rintro e w2 ⟨rfl,hw⟩;have ST2 : ST w N A n c zs 0 0 (HD.zero.cells (.slice none 0 0)) w2:=hw ▸ HXX.out;have O2 : OLD N (wo.alloc (.cells #[.func (.func 57) #[] #[.pointer (some ⟨N,0,none⟩)],.int .i64 50] 133)) w2:=hw ▸ OLD.refl N _;clear hw
    clear O2 HXX
    go_wp2_with fail
    go_roundw
    case rel=>exact ⟨1,by omega,Lib.hid (by have:=HK.out;have:=HFF.out;omega),rfl,Lib.hid ⟨fun _=>ST2,fun h=>by omega⟩⟩
    case measure=>simp [intOf]
  ·have hst : ST w N A n c zs 0 0 (HD.zero.cells (.slice none 0 0)) wo:=HS.out.1 (by omega)
   have q1 : 20<=n:=by have:=fault_ge1 (zs:=zs) (by have:=HK.out;omega);have:=HL.out;omega
   have HX:=hst.next (((Below.refl _ wo).alloc (Nat.le_refl _) (.cells #[.func (.func 58) #[] #[.pointer (some ⟨N,0,none⟩)],.int .i64 51] 133)))
   have XB : BLOCK (wo.alloc (.cells #[.func (.func 58) #[] #[.pointer (some ⟨N,0,none⟩)],.int .i64 51] 133)) wo.heap.size 133 #[.func (.func 58) #[] #[.pointer (some ⟨N,0,none⟩)],.int .i64 51]:=BLOCK.new wo _ _
   have hsz:=hst.siz
   have HXX:=Lib.hid HX
   have a:=a1
   clear a0 a1 a2 a3 a4 a5 a6
   by_cases hf : faultR zs=1
   ·have hB : decide (byteAt zs 0 / 16≠4)=true:=decide_eq_true (by have:=fault_1 hf;have:=HL.out;first | assumption | omega)
    have HBB:=Lib.hid hB
    have HFF:=Lib.hid hf
    have XBB:=Lib.hid XB
    clear hB hf HX XB hst
    go_wp2_with fail
    refine (f2_any w N A n c zs 0 0 _ _ true (by exact HXX.out) (by omega) q1 hz HBB.out).mono ?_
    rintro e w2 ⟨rfl,hw⟩;have ST2 : ST w N A n c zs 0 0 (HD.zero.cells (.slice none 0 0)) w2:=hw ▸ HXX.out;have O2 : OLD N (wo.alloc (.cells #[.func (.func 58) #[] #[.pointer (some ⟨N,0,none⟩)],.int .i64 51] 133)) w2:=hw ▸ OLD.refl N _;clear hw
    have xb : BLOCK w2 wo.heap.size 133 #[.func (.func 58) #[] #[.pointer (some ⟨N,0,none⟩)],.int .i64 51]:=(O2 _ hsz (by simp)).trans XBB.out
    have rr:=ST2.res
    have xc : w2.cell? ⟨wo.heap.size,1,none⟩=some (.int .i64 51):=xb.cell 1
    have hne : wo.heap.size≠N + 1:=by omega
    have hrr:=rr.r
    have f0:=hrr.cell 0
    have f1:=hrr.cell 1
    have f2:=hrr.cell 2
    have f3:=hrr.cell 3
    have f4:=hrr.cell 4
    have f5:=hrr.cell 5
    have f6:=hrr.cell 6
    have f7:=hrr.cell 7
    have f8:=hrr.cell 8
    have f9:=hrr.cell 9
    have g0:=hrr.free 0
    have g1:=hrr.free 1
    have g2:=hrr.free 2
    have g3:=hrr.free 3
    have g4:=hrr.free 4
    have g5:=hrr.free 5
    have g6:=hrr.free 6
    have g7:=hrr.free 7
    have g8:=hrr.free 8
    have g9:=hrr.free 9
    simp only [HD.cells,HD.zero,List.getElem?_toArray,List.getElem?_cons_zero,List.getElem?_cons_succ] at f0 f1 f2 f3 f4 f5 f6 f7 f8 f9
    have HKK:=Lib.hid (fun (W' : World) (he : EXC w2 (N + 1) W')=>(show EXC w2 (N + 1) W'∧W'.cell? ⟨wo.heap.size,1,none⟩=some (.int .i64 51) from ⟨he,(he.block xb hne).cell 1⟩))
    have RR:=Lib.hid rr
    have hlt2 : N + 1 < w2.heap.size:=hrr.lt
    clear ST2 O2 XBB xb rr hrr HXX
    go_wp2_with fail
    go_region_held3 (fun W'=>EXC w2 (N + 1) W'∧W'.cell? ⟨wo.heap.size,1,none⟩=some (.int .i64 51)) ((with_reducible refine HKK.out _ ?_;(repeat' (first | (with_reducible exact EXC.refl _ _) | (with_reducible refine EXC.drew ?_) | (with_reducible refine EXC.setCell ?_ (by rfl) _))))) (fail)
    go_wp2_with fail
    clear f0 f1 f2 f3 f4 f5 f6 f7 f8 f9 g0 g1 g2 g3 g4 g5 g6 g7 g8 g9
    have hblk:=set10_block (.int .u8 0) (.int .u16 0) (.bool false) (.bool false) (.int .i64 0) (.int .u8 0) (.int .u8 0) (.int .u32 0) (.int .u32 0) (.slice none 0 0) RR.out.r rfl
    refine bodyPost_ret (results_cell_tmp3 rfl _ _ (N + 1) 34 _ _ _ rfl hblk.drew Tryz.underlying34 rfl (by kernel_rfl)) rfl (read_fail HN.out (by rw [HFF.out];omega) (set10_below _ _ _ _ _ _ _ _ _ _ RR.out.bel (by omega)).drew _ (by rw [HFF.out];rfl))
   ·have hB : decide (byteAt zs 0 / 16≠4)=false:=decide_eq_false (by have:=fault_ge2 (zs:=zs) (by have:=HK.out;omega);have:=HL.out;first | omega | simp_all)
    have HBB:=Lib.hid hB
    have HFF:=Lib.hid hf
    clear hB hf HX XB hst
    go_wp2_with fail
    refine (f2_any w N A n c zs 0 0 _ _ false (by exact HXX.out) (by omega) q1 hz HBB.out).mono ?_
    rintro e w2 ⟨rfl,hw⟩;have ST2 : ST w N A n c zs 0 0 (HD.zero.cells (.slice none 0 0)) w2:=hw ▸ HXX.out;have O2 : OLD N (wo.alloc (.cells #[.func (.func 58) #[] #[.pointer (some ⟨N,0,none⟩)],.int .i64 51] 133)) w2:=hw ▸ OLD.refl N _;clear hw
    clear O2 HXX
    go_wp2_with fail
    go_roundw
    case rel=>exact ⟨2,by omega,Lib.hid (by have:=HK.out;have:=HFF.out;omega),rfl,Lib.hid ⟨fun _=>ST2,fun h=>by omega⟩⟩
    case measure=>simp [intOf]
  ·have hst : ST w N A n c zs 0 0 (HD.zero.cells (.slice none 0 0)) wo:=HS.out.1 (by omega)
   have q1 : 20<=n:=by have:=fault_ge1 (zs:=zs) (by have:=HK.out;omega);have:=HL.out;omega
   have HX:=hst.next (((Below.refl _ wo).alloc (Nat.le_refl _) (.cells #[.func (.func 59) #[] #[.pointer (some ⟨N,0,none⟩),.pointer (some ⟨N + 3,0,none⟩)],.int .i64 52] 133)))
   have XB : BLOCK (wo.alloc (.cells #[.func (.func 59) #[] #[.pointer (some ⟨N,0,none⟩),.pointer (some ⟨N + 3,0,none⟩)],.int .i64 52] 133)) wo.heap.size 133 #[.func (.func 59) #[] #[.pointer (some ⟨N,0,none⟩),.pointer (some ⟨N + 3,0,none⟩)],.int .i64 52]:=BLOCK.new wo _ _
   have hsz:=hst.siz
   have HXX:=Lib.hid HX
   have a:=a2
   clear a0 a1 a2 a3 a4 a5 a6
   by_cases hf : faultR zs=2
   ·have hB : decide (sizeR zs < 20∨n < sizeR zs)=true:=decide_eq_true (by have:=fault_2 hf;have:=HL.out;first | assumption | omega)
    have HBB:=Lib.hid hB
    have HFF:=Lib.hid hf
    have XBB:=Lib.hid XB
    clear hB hf HX XB hst
    go_wp2_with fail
    refine (f3_any w N A n c zs 0 0 _ _ true (by exact HXX.out) (by omega) q1 hz HBB.out).mono ?_
    rintro e w2 ⟨rfl,ST2,O2⟩
    have xb : BLOCK w2 wo.heap.size 133 #[.func (.func 59) #[] #[.pointer (some ⟨N,0,none⟩),.pointer (some ⟨N + 3,0,none⟩)],.int .i64 52]:=(O2 _ hsz (by simp)).trans XBB.out
    have rr:=ST2.res
    have xc : w2.cell? ⟨wo.heap.size,1,none⟩=some (.int .i64 52):=xb.cell 1
    have hne : wo.heap.size≠N + 1:=by omega
    have hrr:=rr.r
    have f0:=hrr.cell 0
    have f1:=hrr.cell 1
    have f2:=hrr.cell 2
    have f3:=hrr.cell 3
    have f4:=hrr.cell 4
    have f5:=hrr.cell 5
    have f6:=hrr.cell 6
    have f7:=hrr.cell 7
    have f8:=hrr.cell 8
    have f9:=hrr.cell 9
    have g0:=hrr.free 0
    have g1:=hrr.free 1
    have g2:=hrr.free 2
    have g3:=hrr.free 3
    have g4:=hrr.free 4
    have g5:=hrr.free 5
    have g6:=hrr.free 6
    have g7:=hrr.free 7
    have g8:=hrr.free 8
    have g9:=hrr.free 9
    simp only [HD.cells,HD.zero,List.getElem?_toArray,List.getElem?_cons_zero,List.getElem?_cons_succ] at f0 f1 f2 f3 f4 f5 f6 f7 f8 f9
    have HKK:=Lib.hid (fun (W' : World) (he : EXC w2 (N + 1) W')=>(show EXC w2 (N + 1) W'∧W'.cell? ⟨wo.heap.size,1,none⟩=some (.int .i64 52) from ⟨he,(he.block xb hne).cell 1⟩))
    have RR:=Lib.hid rr
    have hlt2 : N + 1 < w2.heap.size:=hrr.lt
    clear ST2 O2 XBB xb rr hrr HXX
    go_wp2_with fail
    go_region_held3 (fun W'=>EXC w2 (N + 1) W'∧W'.cell? ⟨wo.heap.size,1,none⟩=some (.int .i64 52)) ((with_reducible refine HKK.out _ ?_;(repeat' (first | (with_reducible exact EXC.refl _ _) | (with_reducible refine EXC.drew ?_) | (with_reducible refine EXC.setCell ?_ (by rfl) _))))) (fail)
    go_wp2_with fail
    clear f0 f1 f2 f3 f4 f5 f6 f7 f8 f9 g0 g1 g2 g3 g4 g5 g6 g7 g8 g9
    have hblk:=set10_block (.int .u8 0) (.int .u16 0) (.bool false) (.bool false) (.int .i64 0) (.int .u8 0) (.int .u8 0) (.int .u32 0) (.int .u32 0) (.slice none 0 0) RR.out.r rfl
    refine bodyPost_ret (results_cell_tmp3 rfl _ _ (N + 1) 34 _ _ _ rfl hblk.drew Tryz.underlying34 rfl (by kernel_rfl)) rfl (read_fail HN.out (by rw [HFF.out];omega) (set10_below _ _ _ _ _ _ _ _ _ _ RR.out.bel (by omega)).drew _ (by rw [HFF.out];rfl))
   ·have hB : decide (sizeR zs < 20∨n < sizeR zs)=false:=decide_eq_false (by have:=fault_ge3 (zs:=zs) (by have:=HK.out;omega);have:=HL.out;first | omega | simp_all)
    have HBB:=Lib.hid hB
    have HFF:=Lib.hid hf
    clear hB hf HX XB hst
    go_wp2_with fail
    refine (f3_any w N A n c zs 0 0 _ _ false (by exact HXX.out) (by omega) q1 hz HBB.out).mono ?_
    rintro e w2 ⟨rfl,ST2,O2⟩
    clear O2 HXX
    go_wp2_with fail
    go_roundw
    case rel=>exact ⟨3,by omega,Lib.hid (by have:=HK.out;have:=HFF.out;omega),rfl,Lib.hid ⟨fun _=>ST2,fun h=>by omega⟩⟩
    case measure=>simp [intOf]
  ·have hst : ST w N A n c zs (sizeR zs) 0 (HD.zero.cells (.slice none 0 0)) wo:=HS.out.1 (by omega)
   have q1 : 20<=n:=by have:=fault_ge1 (zs:=zs) (by have:=HK.out;omega);have:=HL.out;omega
   have q3 : 20<=sizeR zs∧sizeR zs<=n:=by have:=fault_ge3 (zs:=zs) (by have:=HK.out;omega);have:=HL.out;omega
   have HX:=hst.next (((Below.refl _ wo).alloc (Nat.le_refl _) (.cells #[.func (.func 60) #[] #[.pointer (some ⟨N,0,none⟩),.pointer (some ⟨N + 4,0,none⟩),.pointer (some ⟨N + 3,0,none⟩)],.int .i64 53] 133)))
   have XB : BLOCK (wo.alloc (.cells #[.func (.func 60) #[] #[.pointer (some ⟨N,0,none⟩),.pointer (some ⟨N + 4,0,none⟩),.pointer (some ⟨N + 3,0,none⟩)],.int .i64 53] 133)) wo.heap.size 133 #[.func (.func 60) #[] #[.pointer (some ⟨N,0,none⟩),.pointer (some ⟨N + 4,0,none⟩),.pointer (some ⟨N + 3,0,none⟩)],.int .i64 53]:=BLOCK.new wo _ _
   have hsz:=hst.siz
   have HXX:=Lib.hid HX
   have a:=a3
   clear a0 a1 a2 a3 a4 a5 a6
   by_cases hf : faultR zs=3
   ·have hB : decide (totalR zs < sizeR zs∨n < totalR zs)=true:=decide_eq_true (by have:=fault_3 hf;have:=HL.out;first | assumption | omega)
    have HBB:=Lib.hid hB
    have HFF:=Lib.hid hf
    have XBB:=Lib.hid XB
    clear hB hf HX XB hst
    go_wp2_with fail
    refine (f4_any w N A n c zs (sizeR zs) 0 _ _ true (by exact HXX.out) (by omega) q1 hz HBB.out).mono ?_
    rintro e w2 ⟨rfl,ST2,O2⟩
    have xb : BLOCK w2 wo.heap.size 133 #[.func (.func 60) #[] #[.pointer (some ⟨N,0,none⟩),.pointer (some ⟨N + 4,0,none⟩),.pointer (some ⟨N + 3,0,none⟩)],.int .i64 53]:=(O2 _ hsz (by simp)).trans XBB.out
    have rr:=ST2.res
    have xc : w2.cell? ⟨wo.heap.size,1,none⟩=some (.int .i64 53):=xb.cell 1
    have hne : wo.heap.size≠N + 1:=by omega
    have hrr:=rr.r
    have f0:=hrr.cell 0
    have f1:=hrr.cell 1
    have f2:=hrr.cell 2
    have f3:=hrr.cell 3
    have f4:=hrr.cell 4
    have f5:=hrr.cell 5
    have f6:=hrr.cell 6
    have f7:=hrr.cell 7
    have f8:=hrr.cell 8
    have f9:=hrr.cell 9
    have g0:=hrr.free 0
    have g1:=hrr.free 1
    have g2:=hrr.free 2
    have g3:=hrr.free 3
    have g4:=hrr.free 4
    have g5:=hrr.free 5
    have g6:=hrr.free 6
    have g7:=hrr.free 7
    have g8:=hrr.free 8
    have g9:=hrr.free 9
    simp only [HD.cells,HD.zero,List.getElem?_toArray,List.getElem?_cons_zero,List.getElem?_cons_succ] at f0 f1 f2 f3 f4 f5 f6 f7 f8 f9
    have HKK:=Lib.hid (fun (W' : World) (he : EXC w2 (N + 1) W')=>(show EXC w2 (N + 1) W'∧W'.cell? ⟨wo.heap.size,1,none⟩=some (.int .i64 53) from ⟨he,(he.block xb hne).cell 1⟩))
    have RR:=Lib.hid rr
    have hlt2 : N + 1 < w2.heap.size:=hrr.lt
    clear ST2 O2 XBB xb rr hrr HXX
    go_wp2_with fail
    go_region_held3 (fun W'=>EXC w2 (N + 1) W'∧W'.cell? ⟨wo.heap.size,1,none⟩=some (.int .i64 53)) ((with_reducible refine HKK.out _ ?_;(repeat' (first | (with_reducible exact EXC.refl _ _) | (with_reducible refine EXC.drew ?_) | (with_reducible refine EXC.setCell ?_ (by rfl) _))))) (fail)
    go_wp2_with fail
    clear f0 f1 f2 f3 f4 f5 f6 f7 f8 f9 g0 g1 g2 g3 g4 g5 g6 g7 g8 g9
    have hblk:=set10_block (.int .u8 0) (.int .u16 0) (.bool false) (.bool false) (.int .i64 0) (.int .u8 0) (.int .u8 0) (.int .u32 0) (.int .u32 0) (.slice none 0 0) RR.out.r rfl
    refine bodyPost_ret (results_cell_tmp3 rfl _ _ (N + 1) 34 _ _ _ rfl hblk.drew Tryz.underlying34 rfl (by kernel_rfl)) rfl (read_fail HN.out (by rw [HFF.out];omega) (set10_below _ _ _ _ _ _ _ _ _ _ RR.out.bel (by omega)).drew _ (by rw [HFF.out];rfl))
   ·have hB : decide (totalR zs < sizeR zs∨n < totalR zs)=false:=decide_eq_false (by have:=fault_ge4 (zs:=zs) (by have:=HK.out;omega);have:=HL.out;first | omega | simp_all)
    have HBB:=Lib.hid hB
    have HFF:=Lib.hid hf
    clear hB hf HX XB hst
    go_wp2_with fail
    refine (f4_any w N A n c zs (sizeR zs) 0 _ _ false (by exact HXX.out) (by omega) q1 hz HBB.out).mono ?_
    rintro e w2 ⟨rfl,ST2,O2⟩
    clear O2 HXX
    go_wp2_with fail
    go_roundw
    case rel=>exact ⟨4,by omega,Lib.hid (by have:=HK.out;have:=HFF.out;omega),rfl,Lib.hid ⟨fun _=>ST2,fun h=>by omega⟩⟩
    case measure=>simp [intOf]
  ·have hst : ST w N A n c zs (sizeR zs) (totalR zs) (HD.zero.cells (.slice none 0 0)) wo:=HS.out.1 (by omega)
   have q1 : 20<=n:=by have:=fault_ge1 (zs:=zs) (by have:=HK.out;omega);have:=HL.out;omega
   have q3 : 20<=sizeR zs∧sizeR zs<=n:=by have:=fault_ge3 (zs:=zs) (by have:=HK.out;omega);have:=HL.out;omega
   have q4 : sizeR zs<=totalR zs∧totalR zs<=n:=by have:=fault_ge4 (zs:=zs) (by have:=HK.out;omega);have:=HL.out;omega
   have HX:=hst.next (((Below.refl _ wo).alloc (Nat.le_refl _) (.cells #[.func (.func 62) #[] #[.pointer (some ⟨N,0,none⟩),.pointer (some ⟨N + 3,0,none⟩)],.int .i64 54] 133)))
   have XB : BLOCK (wo.alloc (.cells #[.func (.func 62) #[] #[.pointer (some ⟨N,0,none⟩),.pointer (some ⟨N + 3,0,none⟩)],.int .i64 54] 133)) wo.heap.size 133 #[.func (.func 62) #[] #[.pointer (some ⟨N,0,none⟩),.pointer (some ⟨N + 3,0,none⟩)],.int .i64 54]:=BLOCK.new wo _ _
   have hsz:=hst.siz
   have HXX:=Lib.hid HX
   have a:=a4
   clear a0 a1 a2 a3 a4 a5 a6
   by_cases hf : faultR zs=4
   ·have hB : decide (sumOf (zs.take (sizeR zs))≠65535)=true:=decide_eq_true (by have:=fault_4 hf;have:=HL.out;first | assumption | omega)
    have HBB:=Lib.hid hB
    have HFF:=Lib.hid hf
    have XBB:=Lib.hid XB
    clear hB hf HX XB hst
    go_wp2_with fail
    refine (f5_any w N A n c zs (sizeR zs) (totalR zs) _ _ true (by exact HXX.out) hn (by omega) q3.2 hz HBB.out).mono ?_
    rintro e w2 ⟨rfl,ST2,O2⟩
    have xb : BLOCK w2 wo.heap.size 133 #[.func (.func 62) #[] #[.pointer (some ⟨N,0,none⟩),.pointer (some ⟨N + 3,0,none⟩)],.int .i64 54]:=(O2 _ hsz (by simp)).trans XBB.out
    have rr:=ST2.res
    have xc : w2.cell? ⟨wo.heap.size,1,none⟩=some (.int .i64 54):=xb.cell 1
    have hne : wo.heap.size≠N + 1:=by omega
    have hrr:=rr.r
    have f0:=hrr.cell 0
    have f1:=hrr.cell 1
    have f2:=hrr.cell 2
    have f3:=hrr.cell 3
    have f4:=hrr.cell 4
    have f5:=hrr.cell 5
    have f6:=hrr.cell 6
    have f7:=hrr.cell 7
    have f8:=hrr.cell 8
    have f9:=hrr.cell 9
    have g0:=hrr.free 0
    have g1:=hrr.free 1
    have g2:=hrr.free 2
    have g3:=hrr.free 3
    have g4:=hrr.free 4
    have g5:=hrr.free 5
    have g6:=hrr.free 6
    have g7:=hrr.free 7
    have g8:=hrr.free 8
    have g9:=hrr.free 9
    simp only [HD.cells,HD.zero,List.getElem?_toArray,List.getElem?_cons_zero,List.getElem?_cons_succ] at f0 f1 f2 f3 f4 f5 f6 f7 f8 f9
    have HKK:=Lib.hid (fun (W' : World) (he : EXC w2 (N + 1) W')=>(show EXC w2 (N + 1) W'∧W'.cell? ⟨wo.heap.size,1,none⟩=some (.int .i64 54) from ⟨he,(he.block xb hne).cell 1⟩))
    have RR:=Lib.hid rr
    have hlt2 : N + 1 < w2.heap.size:=hrr.lt
    clear ST2 O2 XBB xb rr hrr HXX
    go_wp2_with fail
    go_region_held3 (fun W'=>EXC w2 (N + 1) W'∧W'.cell? ⟨wo.heap.size,1,none⟩=some (.int .i64 54)) ((with_reducible refine HKK.out _ ?_;(repeat' (first | (with_reducible exact EXC.refl _ _) | (with_reducible refine EXC.drew ?_) | (with_reducible refine EXC.setCell ?_ (by rfl) _))))) (fail)
    go_wp2_with fail
    clear f0 f1 f2 f3 f4 f5 f6 f7 f8 f9 g0 g1 g2 g3 g4 g5 g6 g7 g8 g9
    have hblk:=set10_block (.int .u8 0) (.int .u16 0) (.bool false) (.bool false) (.int .i64 0) (.int .u8 0) (.int .u8 0) (.int .u32 0) (.int .u32 0) (.slice none 0 0) RR.out.r rfl
    refine bodyPost_ret (results_cell_tmp3 rfl _ _ (N + 1) 34 _ _ _ rfl hblk.drew Tryz.underlying34 rfl (by kernel_rfl)) rfl (read_fail HN.out (by rw [HFF.out];omega) (set10_below _ _ _ _ _ _ _ _ _ _ RR.out.bel (by omega)).drew _ (by rw [HFF.out];rfl))
   ·have hB : decide (sumOf (zs.take (sizeR zs))≠65535)=false:=decide_eq_false (by have:=fault_ge5 (zs:=zs) (by have:=HK.out;omega);have:=HL.out;first | omega | simp_all)
    have HBB:=Lib.hid hB
    have HFF:=Lib.hid hf
    clear hB hf HX XB hst
    go_wp2_with fail
    refine (f5_any w N A n c zs (sizeR zs) (totalR zs) _ _ false (by exact HXX.out) hn (by omega) q3.2 hz HBB.out).mono ?_
    rintro e w2 ⟨rfl,ST2,O2⟩
    clear O2 HXX
    go_wp2_with fail
    go_roundw
    case rel=>exact ⟨5,by omega,Lib.hid (by have:=HK.out;have:=HFF.out;omega),rfl,Lib.hid ⟨fun _=>ST2,fun h=>by omega⟩⟩
    case measure=>simp [intOf]
  ·have hst : ST w N A n c zs (sizeR zs) (totalR zs) (HD.zero.cells (.slice none 0 0)) wo:=HS.out.1 (by omega)
   have q1 : 20<=n:=by have:=fault_ge1 (zs:=zs) (by have:=HK.out;omega);have:=HL.out;omega
   have q3 : 20<=sizeR zs∧sizeR zs<=n:=by have:=fault_ge3 (zs:=zs) (by have:=HK.out;omega);have:=HL.out;omega
   have q4 : sizeR zs<=totalR zs∧totalR zs<=n:=by have:=fault_ge4 (zs:=zs) (by have:=HK.out;omega);have:=HL.out;omega
   have HX:=hst.next (((Below.refl _ wo).alloc (Nat.le_refl _) (.cells #[.func (.func 64) #[] #[.pointer (some ⟨N,0,none⟩)],.int .i64 55] 133)))
   have XB : BLOCK (wo.alloc (.cells #[.func (.func 64) #[] #[.pointer (some ⟨N,0,none⟩)],.int .i64 55] 133)) wo.heap.size 133 #[.func (.func 64) #[] #[.pointer (some ⟨N,0,none⟩)],.int .i64 55]:=BLOCK.new wo _ _
   have hsz:=hst.siz
   have HXX:=Lib.hid HX
   have a:=a5
   clear a0 a1 a2 a3 a4 a5 a6
   by_cases hf : faultR zs=5
   ·have hB : decide (32768<=wordAt zs 6)=true:=decide_eq_true (by have:=fault_5 hf;have:=HL.out;first | assumption | omega)
    have HBB:=Lib.hid hB
    have HFF:=Lib.hid hf
    have XBB:=Lib.hid XB
    clear hB hf HX XB hst
    go_wp2_with fail
    refine (f6_any w N A n c zs (sizeR zs) (totalR zs) _ _ true (by exact HXX.out) (by omega) q1 hz HBB.out).mono ?_
    rintro e w2 ⟨rfl,ST2,O2⟩
    have xb : BLOCK w2 wo.heap.size 133 #[.func (.func 64) #[] #[.pointer (some ⟨N,0,none⟩)],.int .i64 55]:=(O2 _ hsz (by simp)).trans XBB.out
    have rr:=ST2.res
    have xc : w2.cell? ⟨wo.heap.size,1,none⟩=some (.int .i64 55):=xb.cell 1
    have hne : wo.heap.size≠N + 1:=by omega
    have hrr:=rr.r
    have f0:=hrr.cell 0
    have f1:=hrr.cell 1
    have f2:=hrr.cell 2
    have f3:=hrr.cell 3
    have f4:=hrr.cell 4
    have f5:=hrr.cell 5
    have f6:=hrr.cell 6
    have f7:=hrr.cell 7
    have f8:=hrr.cell 8
    have f9:=hrr.cell 9
    have g0:=hrr.free 0
    have g1:=hrr.free 1
    have g2:=hrr.free 2
    have g3:=hrr.free 3
    have g4:=hrr.free 4
    have g5:=hrr.free 5
    have g6:=hrr.free 6
    have g7:=hrr.free 7
    have g8:=hrr.free 8
    have g9:=hrr.free 9
    simp only [HD.cells,HD.zero,List.getElem?_toArray,List.getElem?_cons_zero,List.getElem?_cons_succ] at f0 f1 f2 f3 f4 f5 f6 f7 f8 f9
    have HKK:=Lib.hid (fun (W' : World) (he : EXC w2 (N + 1) W')=>(show EXC w2 (N + 1) W'∧W'.cell? ⟨wo.heap.size,1,none⟩=some (.int .i64 55) from ⟨he,(he.block xb hne).cell 1⟩))
    have RR:=Lib.hid rr
    have hlt2 : N + 1 < w2.heap.size:=hrr.lt
    clear ST2 O2 XBB xb rr hrr HXX
    go_wp2_with fail
    go_region_held3 (fun W'=>EXC w2 (N + 1) W'∧W'.cell? ⟨wo.heap.size,1,none⟩=some (.int .i64 55)) ((with_reducible refine HKK.out _ ?_;(repeat' (first | (with_reducible exact EXC.refl _ _) | (with_reducible refine EXC.drew ?_) | (with_reducible refine EXC.setCell ?_ (by rfl) _))))) (fail)
    go_wp2_with fail
    clear f0 f1 f2 f3 f4 f5 f6 f7 f8 f9 g0 g1 g2 g3 g4 g5 g6 g7 g8 g9
    have hblk:=set10_block (.int .u8 0) (.int .u16 0) (.bool false) (.bool false) (.int .i64 0) (.int .u8 0) (.int .u8 0) (.int .u32 0) (.int .u32 0) (.slice none 0 0) RR.out.r rfl
    refine bodyPost_ret (results_cell_tmp3 rfl _ _ (N + 1) 34 _ _ _ rfl hblk.drew Tryz.underlying34 rfl (by kernel_rfl)) rfl (read_fail HN.out (by rw [HFF.out];omega) (set10_below _ _ _ _ _ _ _ _ _ _ RR.out.bel (by omega)).drew _ (by rw [HFF.out];rfl))
   ·have hB : decide (32768<=wordAt zs 6)=false:=decide_eq_false (by have:=fault_ge6 (zs:=zs) (by have:=HK.out;omega);have:=HL.out;first | omega | simp_all)
    have HBB:=Lib.hid hB
    have HFF:=Lib.hid hf
    clear hB hf HX XB hst
    go_wp2_with fail
    refine (f6_any w N A n c zs (sizeR zs) (totalR zs) _ _ false (by exact HXX.out) (by omega) q1 hz HBB.out).mono ?_
    rintro e w2 ⟨rfl,ST2,O2⟩
    clear O2 HXX
    go_wp2_with fail
    go_roundw
    case rel=>exact ⟨6,by omega,Lib.hid (by have:=HK.out;have:=HFF.out;omega),rfl,Lib.hid ⟨fun _=>ST2,fun h=>by omega⟩⟩
    case measure=>simp [intOf]
  ·have hst : ST w N A n c zs (sizeR zs) (totalR zs) (HD.zero.cells (.slice none 0 0)) wo:=HS.out.1 (by omega)
   have q1 : 20<=n:=by have:=fault_ge1 (zs:=zs) (by have:=HK.out;omega);have:=HL.out;omega
   have q3 : 20<=sizeR zs∧sizeR zs<=n:=by have:=fault_ge3 (zs:=zs) (by have:=HK.out;omega);have:=HL.out;omega
   have q4 : sizeR zs<=totalR zs∧totalR zs<=n:=by have:=fault_ge4 (zs:=zs) (by have:=HK.out;omega);have:=HL.out;omega
   have HX:=hst.next (((Below.refl _ wo).alloc (Nat.le_refl _) (.cells #[.func (.func 65) #[] #[.pointer (some ⟨N,0,none⟩),.pointer (some ⟨N + 3,0,none⟩),.pointer (some ⟨N + 2,0,none⟩),.pointer (some ⟨N + 4,0,none⟩)],.int .i64 56] 133)))
   have XB : BLOCK (wo.alloc (.cells #[.func (.func 65) #[] #[.pointer (some ⟨N,0,none⟩),.pointer (some ⟨N + 3,0,none⟩),.pointer (some ⟨N + 2,0,none⟩),.pointer (some ⟨N + 4,0,none⟩)],.int .i64 56] 133)) wo.heap.size 133 #[.func (.func 65) #[] #[.pointer (some ⟨N,0,none⟩),.pointer (some ⟨N + 3,0,none⟩),.pointer (some ⟨N + 2,0,none⟩),.pointer (some ⟨N + 4,0,none⟩)],.int .i64 56]:=BLOCK.new wo _ _
   have hsz:=hst.siz
   have HXX:=Lib.hid HX
   have a:=a6
   clear a0 a1 a2 a3 a4 a5 a6
   by_cases hf : faultR zs=6
   ·have hB : decide (rightB (hdOf zs).off (hdOf zs).mf (sizeR zs - 20) ((totalR zs : Int) - sizeR zs)=false)=true:=decide_eq_true (by have:=fault_6 hf;have:=HL.out;first | assumption | omega)
    have HBB:=Lib.hid hB
    have HFF:=Lib.hid hf
    have XBB:=Lib.hid XB
    clear hB hf HX XB hst
    go_wp2_with fail
    refine (f7_any w N A n c zs (totalR zs) _ true (by exact HXX.out) hn hc q3.1 q3.2 q4.1 (totalR_le hz) hz HBB.out).mono ?_
    rintro e w2 ⟨O2,A1,n1,c1,rfl,ST2,own2⟩
    have xb : BLOCK w2 wo.heap.size 133 #[.func (.func 65) #[] #[.pointer (some ⟨N,0,none⟩),.pointer (some ⟨N + 3,0,none⟩),.pointer (some ⟨N + 2,0,none⟩),.pointer (some ⟨N + 4,0,none⟩)],.int .i64 56]:=(O2 _ hsz (by simp)).trans XBB.out
    have rr:=ST2.res
    have xc : w2.cell? ⟨wo.heap.size,1,none⟩=some (.int .i64 56):=xb.cell 1
    have hne : wo.heap.size≠N + 1:=by omega
    have hrr:=rr.r
    have f0:=hrr.cell 0
    have f1:=hrr.cell 1
    have f2:=hrr.cell 2
    have f3:=hrr.cell 3
    have f4:=hrr.cell 4
    have f5:=hrr.cell 5
    have f6:=hrr.cell 6
    have f7:=hrr.cell 7
    have f8:=hrr.cell 8
    have f9:=hrr.cell 9
    have g0:=hrr.free 0
    have g1:=hrr.free 1
    have g2:=hrr.free 2
    have g3:=hrr.free 3
    have g4:=hrr.free 4
    have g5:=hrr.free 5
    have g6:=hrr.free 6
    have g7:=hrr.free 7
    have g8:=hrr.free 8
    have g9:=hrr.free 9
    simp only [HD.cells,HD.zero,List.getElem?_toArray,List.getElem?_cons_zero,List.getElem?_cons_succ] at f0 f1 f2 f3 f4 f5 f6 f7 f8 f9
    have HKK:=Lib.hid (fun (W' : World) (he : EXC w2 (N + 1) W')=>(show EXC w2 (N + 1) W'∧W'.cell? ⟨wo.heap.size,1,none⟩=some (.int .i64 56) from ⟨he,(he.block xb hne).cell 1⟩))
    have RR:=Lib.hid rr
    have hlt2 : N + 1 < w2.heap.size:=hrr.lt
    clear ST2 O2 XBB xb rr hrr HXX
    go_wp2_with fail
    go_region_held3 (fun W'=>EXC w2 (N + 1) W'∧W'.cell? ⟨wo.heap.size,1,none⟩=some (.int .i64 56)) ((with_reducible refine HKK.out _ ?_;(repeat' (first | (with_reducible exact EXC.refl _ _) | (with_reducible refine EXC.drew ?_) | (with_reducible refine EXC.setCell ?_ (by rfl) _))))) (fail)
    go_wp2_with fail
    clear f0 f1 f2 f3 f4 f5 f6 f7 f8 f9 g0 g1 g2 g3 g4 g5 g6 g7 g8 g9
    have hblk:=set10_block (.int .u8 0) (.int .u16 0) (.bool false) (.bool false) (.int .i64 0) (.int .u8 0) (.int .u8 0) (.int .u32 0) (.int .u32 0) (.slice none 0 0) RR.out.r rfl
    refine bodyPost_ret (results_cell_tmp3 rfl _ _ (N + 1) 34 _ _ _ rfl hblk.drew Tryz.underlying34 rfl (by kernel_rfl)) rfl (read_fail HN.out (by rw [HFF.out];omega) (set10_below _ _ _ _ _ _ _ _ _ _ RR.out.bel (by omega)).drew _ (by rw [HFF.out];rfl))
   ·have hB : decide (rightB (hdOf zs).off (hdOf zs).mf (sizeR zs - 20) ((totalR zs : Int) - sizeR zs)=false)=false:=decide_eq_false (by have:=fault_ge7 (zs:=zs) (by have:=HK.out;omega);have:=HL.out;first | omega | simp_all)
    have HBB:=Lib.hid hB
    have HFF:=Lib.hid hf
    clear hB hf HX XB hst
    go_wp2_with fail
    refine (f7_any w N A n c zs (totalR zs) _ false (by exact HXX.out) hn hc q3.1 q3.2 q4.1 (totalR_le hz) hz HBB.out).mono ?_
    rintro e w2 ⟨O2,A1,n1,c1,rfl,ST2,own2⟩
    clear O2 HXX
    go_wp2_with fail
    go_roundw
    case rel=>exact ⟨7,by omega,Lib.hid (by have:=HK.out;have:=HFF.out;omega),rfl,Lib.hid ⟨fun h=>by omega,fun _=>⟨A1,n1,c1,ST2,own2⟩⟩⟩
    case measure=>simp [intOf]
  ·obtain ⟨A1,n1,c1,hst,own⟩:=HS.out.2 rfl
   have hf : faultR zs=7:=by have:=HK.out;have:=HF.out;omega
   clear a0 a1 a2 a3 a4 a5 a6
   have HST:=Lib.hid hst
   have HOW:=Lib.hid own
   have HFF:=Lib.hid hf
   have p0 : wo.cell? ⟨N + 3,0,none⟩=some (.int .i64 (sizeR zs)):=hst.s.cell 0
   have p1 : wo.cell? ⟨N + 4,0,none⟩=some (.int .i64 (totalR zs)):=hst.t.cell 0
   have hrr:=hst.r
   have f0:=hrr.cell 0
   have f1:=hrr.cell 1
   have f2:=hrr.cell 2
   have f3:=hrr.cell 3
   have f4:=hrr.cell 4
   have f5:=hrr.cell 5
   have f6:=hrr.cell 6
   have f7:=hrr.cell 7
   have f8:=hrr.cell 8
   have f9:=hrr.cell 9
   have g0:=hrr.free 0
   have g1:=hrr.free 1
   have g2:=hrr.free 2
   have g3:=hrr.free 3
   have g4:=hrr.free 4
   have g5:=hrr.free 5
   have g6:=hrr.free 6
   have g7:=hrr.free 7
   have g8:=hrr.free 8
   have g9:=hrr.free 9
   simp only [HD.cells,HD.zero,List.getElem?_toArray,List.getElem?_cons_zero,List.getElem?_cons_succ] at f0 f1 f2 f3 f4 f5 f6 f7 f8 f9
   have HKK:=Lib.hid (fun (W' : World) (he : EXC wo (N + 1) W')=>(show EXC wo (N + 1) W'∧(W'.cell? ⟨N + 3,0,none⟩=some (.int .i64 (sizeR zs))∧W'.cell? ⟨N + 4,0,none⟩=some (.int .i64 (totalR zs))) ∧
    (W'.cell? ⟨N + 2,0,none⟩=some (.int .u8 (hdOf zs).tos)∧W'.cell? ⟨N + 2,1,none⟩=some (.int .u16 (hdOf zs).id)∧W'.cell? ⟨N + 2,2,none⟩=some (.bool (hdOf zs).df)∧W'.cell? ⟨N + 2,3,none⟩=some (.bool (hdOf zs).mf)∧W'.cell? ⟨N + 2,4,none⟩=some (.int .i64 (hdOf zs).off)∧W'.cell? ⟨N + 2,5,none⟩=some (.int .u8 (hdOf zs).ttl)∧W'.cell? ⟨N + 2,6,none⟩=some (.int .u8 (hdOf zs).proto)∧W'.cell? ⟨N + 2,7,none⟩=some (.int .u32 (hdOf zs).src)∧W'.cell? ⟨N + 2,8,none⟩=some (.int .u32 (hdOf zs).dst)∧W'.cell? ⟨N + 2,9,none⟩=some (.slice A1 n1 c1))
    from ⟨he,⟨(he.block hst.s (by omega)).cell 0,(he.block hst.t (by omega)).cell 0⟩,(he.block hst.h (by omega)).cell 0,(he.block hst.h (by omega)).cell 1,(he.block hst.h (by omega)).cell 2,(he.block hst.h (by omega)).cell 3,(he.block hst.h (by omega)).cell 4,(he.block hst.h (by omega)).cell 5,(he.block hst.h (by omega)).cell 6,(he.block hst.h (by omega)).cell 7,(he.block hst.h (by omega)).cell 8,(he.block hst.h (by omega)).cell 9⟩))
   clear hst own hf hrr HS
   go_wp2_with fail
   go_region_held3 (fun W'=>EXC wo (N + 1) W'∧(W'.cell? ⟨N + 3,0,none⟩=some (.int .i64 (sizeR zs))∧W'.cell? ⟨N + 4,0,none⟩=some (.int .i64 (totalR zs))) ∧
    (W'.cell? ⟨N + 2,0,none⟩=some (.int .u8 (hdOf zs).tos)∧W'.cell? ⟨N + 2,1,none⟩=some (.int .u16 (hdOf zs).id)∧W'.cell? ⟨N + 2,2,none⟩=some (.bool (hdOf zs).df)∧W'.cell? ⟨N + 2,3,none⟩=some (.bool (hdOf zs).mf)∧W'.cell? ⟨N + 2,4,none⟩=some (.int .i64 (hdOf zs).off)∧W'.cell? ⟨N + 2,5,none⟩=some (.int .u8 (hdOf zs).ttl)∧W'.cell? ⟨N + 2,6,none⟩=some (.int .u8 (hdOf zs).proto)∧W'.cell? ⟨N + 2,7,none⟩=some (.int .u32 (hdOf zs).src)∧W'.cell? ⟨N + 2,8,none⟩=some (.int .u32 (hdOf zs).dst)∧W'.cell? ⟨N + 2,9,none⟩=some (.slice A1 n1 c1)))
    ((with_reducible refine HKK.out _ ?_;(repeat' (first | (with_reducible exact EXC.refl _ _) | (with_reducible refine EXC.drew ?_) | (with_reducible refine EXC.setCell ?_ (by rfl) _))))) (fail)
   go_wp2_with fail
   clear f0 f1 f2 f3 f4 f5 f6 f7 f8 f9 g0 g1 g2 g3 g4 g5 g6 g7 g8 g9
   have hblk:=set10_block (.int .u8 (hdOf zs).tos) (.int .u16 (hdOf zs).id) (.bool (hdOf zs).df) (.bool (hdOf zs).mf) (.int .i64 (hdOf zs).off) (.int .u8 (hdOf zs).ttl) (.int .u8 (hdOf zs).proto) (.int .u32 (hdOf zs).src) (.int .u32 (hdOf zs).dst) (.slice A1 n1 c1) HST.out.r rfl
   refine bodyPost_ret (results_cell_tmp3 rfl _ _ (N + 1) 34 _ _ _ rfl hblk.drew Tryz.underlying34 rfl (by kernel_rfl)) rfl ⟨A1,n1,c1,?_,?_,?_⟩
   ·unfold hdR fromR toR ipE
    rw [if_pos HFF.out,if_pos HFF.out,if_pos HFF.out,if_pos HFF.out]
    rfl
   ·unfold optsR
    rw [if_pos HFF.out]
    refine OWN.drewN (set10_own _ _ _ _ _ _ _ _ _ _ (HOW.out.mono (by have:=HN.out;omega)) (fun g hg=>?_)) 1
    have h1:=(HOW.out.lt g hg).1
    omega
   ·have hb:=HST.out.bel
    rw [HN.out] at hb
    exact (set10_below _ _ _ _ _ _ _ _ _ _ hb (by have:=HN.out;omega)).drew
set_option maxHeartbeats 1000000 in
set_option maxRecDepth 100000 in
theorem write_no (h : HD) (A : Option Addr) (n c : Nat) (Ad : Option Addr) (dn dc : Nat) (w : World) (h64 : -9223372036854775808<=h.off∧h.off<=9223372036854775807) (hn : n<=140737488355328) (hdn : dn<=140737488355328) (hr : ¬ Rightly h.off h.mf n dn) :
 Calls Tryz.prog 7 #[h.val (.slice A n c),.slice Ad dn dc] w fun e w'=>e = .returned (.tuple #[.slice none 0 0,.int .i64 2])∧Below w.heap.size w w':=by
 unfold HD.val HD.cells
 go_enter Tryz.func7,Tryz.ntmps7
 go_wp2_with fail
 refine (right_no h A n c dn _ h64 (by omega) hn hr).mono ?_
 rintro e w1 ⟨rfl,hb⟩
 go_wp2_with fail
 go_ret2
 exact ⟨rfl,((Below.refl _ w).alloc (Nat.le_refl _) _).trans (hb.mono (by simp))⟩
structure WS (w0 : World) (N G : Nat) (h : HD) (A : Option Addr) (n c : Nat) (opts : List Int) (Ad : Option Addr) (dn : Nat) (data : List Int) (zs : List Int) (w : World) : Prop where
 own : OWN .u8 5 w G (some ⟨G,0,none⟩) (20 + n) (20 + n + dn) zs
 hd : BLOCK w N 34 (h.cells (.slice A n c))
 bel : Below N w0 w
 ro : RD .u8 w N A n opts
 rd : RD .u8 w N Ad dn data
 lt : N < G
theorem WS.next {w0 w w' : World} {N G : Nat} {h : HD} {A : Option Addr} {n c : Nat} {opts : List Int} {Ad : Option Addr} {dn : Nat} {data zs zs' : List Int} (H : WS w0 N G h A n c opts Ad dn data zs w)
 (ho : OWN .u8 5 w' G (some ⟨G,0,none⟩) (20 + n) (20 + n + dn) zs') (hb : Below G w w') : WS w0 N G h A n c opts Ad dn data zs' w' :=
 ⟨ho,H.hd.below hb H.lt,H.bel.trans (hb.mono (Nat.le_of_lt H.lt)),H.ro.below (hb.mono (Nat.le_of_lt H.lt)),H.rd.below (hb.mono (Nat.le_of_lt H.lt)),H.lt⟩
theorem WS.more {w0 w : World} {N G : Nat} {h : HD} {A : Option Addr} {n c : Nat} {opts : List Int} {Ad : Option Addr} {dn : Nat} {data zs : List Int} (H : WS w0 N G h A n c opts Ad dn data zs w) : N<=w.heap.size:=Nat.le_of_lt H.hd.lt
set_option maxHeartbeats 4000000 in
set_option maxRecDepth 100000 in
theorem write_yes (h : HD) (A : Option Addr) (n c : Nat) (opts : List Int) (Ad : Option Addr) (dn dc : Nat) (data : List Int) (w : World) (hwf : h.WF) (ro : RD .u8 w w.heap.size A n opts) (bo : BD 255 opts) (rd : RD .u8 w w.heap.size Ad dn data) (hr : Rightly h.off h.mf n dn) :
 Calls Tryz.prog 7 #[h.val (.slice A n c),.slice Ad dn dc] w (Fixed w (pktB h opts data)):=by
 obtain ⟨i0,hi,hz0,hz1,hz2⟩:=info_parts infoU8
 have RL:=Lib.hid ro.len
 have DL:=Lib.hid rd.len
 have hq:=hr
 obtain ⟨r1,r2,r3,r4,r5,r6,r7,r8,r9⟩:=hr
 have hb0 : Below w.heap.size w (w.alloc (.cells (h.cells (.slice A n c)) 34)):=(Below.refl _ w).alloc (Nat.le_refl _) _
 have hB0 : BLOCK (w.alloc (.cells (h.cells (.slice A n c)) 34)) w.heap.size 34 (h.cells (.slice A n c)):=BLOCK.new w _ _
 have hs0 : (w.alloc (.cells (h.cells (.slice A n c)) 34)).heap.size=w.heap.size + 1:=by simp
 unfold HD.val
 go_enter Tryz.func7,Tryz.ntmps7
 unfold HD.cells
 go_wp2_with fail
 refine (right_yes h A n c dn _ hq).mono ?_
 rintro e w1 ⟨rfl,hb⟩
 have hB1 : BLOCK w1 w.heap.size 34 (h.cells (.slice A n c)):=hB0.next hb
 have hb1 : Below w.heap.size w w1:=hb0.trans (hb.mono hb0.size)
 have hs1 : w.heap.size + 1<=w1.heap.size:=hB1.lt
 clear hb hb0 hB0 hs0
 have f9 : w1.cell? ⟨w.heap.size,9,none⟩=some (.slice A n c):=hB1.cell 9
 have f0 : w1.cell? ⟨w.heap.size,0,none⟩=some (.int .u8 h.tos):=hB1.cell 0
 have f5 : w1.cell? ⟨w.heap.size,5,none⟩=some (.int .u8 h.ttl):=hB1.cell 5
 have f6 : w1.cell? ⟨w.heap.size,6,none⟩=some (.int .u8 h.proto):=hB1.cell 6
 obtain ⟨w2,hrun,own2,hb2,hs2⟩:=run_make_cap (P:=Tryz.prog) (k:=.u8) w1 22 i0 Tryz.underlying22 hi hz0 hz1 (by omega) (20 + (n : Int)) (20 + (n : Int) + (dn : Int)) (20 + n) (20 + n + dn) (by omega) (by omega) (by omega) (by omega)
 have hN:=hs1
 generalize hG : w1.heap.size=G at *
 have hB2 : BLOCK w2 w.heap.size 34 (h.cells (.slice A n c)):=hB1.below hb2 (by omega)
 have HBel : Below w.heap.size w w2:=hb1.trans (hb2.mono (by omega))
 go_wp2_with fail
 clear hrun f9 f0 f5 f6
 have f0 : w2.cell? ⟨w.heap.size,0,none⟩=some (.int .u8 h.tos):=hB2.cell 0
 have f5 : w2.cell? ⟨w.heap.size,5,none⟩=some (.int .u8 h.ttl):=hB2.cell 5
 have f6 : w2.cell? ⟨w.heap.size,6,none⟩=some (.int .u8 h.proto):=hB2.cell 6
 have y0:=own2.cell (i:=0) (by omega)
 have y1:=own2.cell (i:=1) (by omega)
 have y8:=own2.cell (i:=8) (by omega)
 have y9:=own2.cell (i:=9) (by omega)
 have z0:=own2.frozen 0
 have z1:=own2.frozen 1
 have z8:=own2.frozen 8
 have z9:=own2.frozen 9
 obtain ⟨q,hq4⟩ : ∃ q : Nat,n + 20=4 * q:=⟨(n + 20) / 4,by omega⟩
 have m1 : (20 + (n : Int)).tdiv 4=(q : Int):=by rw [Int.tdiv_eq_ediv_of_nonneg (by omega)];omega
 have m2 : IntKind.i64.wrap (q : Int)=(q : Int):=IntWalk.i64_in _ (by omega)
 have m3 : bits .or .i64 64 (q : Int)=64 + (q : Int):=i64_or_64 _ (by omega) (by omega)
 have m4 : IntKind.u8.wrap (64 + (q : Int))=64 + (q : Int):=u8_in _ (by omega) (by omega)
 have i0 : (0 : Int) < 20 + (n : Int):=by omega
 have i1 : (1 : Int) < 20 + (n : Int):=by omega
 have i8 : (8 : Int) < 20 + (n : Int):=by omega
 have i9 : (9 : Int) < 20 + (n : Int):=by omega
 have HKK:=Lib.hid (fun (W' : World) (he : EXC w2 G W')=>(show EXC w2 G W'∧W'.cell? ⟨w.heap.size,0,none⟩=some (.int .u8 h.tos)∧W'.cell? ⟨w.heap.size,5,none⟩=some (.int .u8 h.ttl)∧W'.cell? ⟨w.heap.size,6,none⟩=some (.int .u8 h.proto) from
  ⟨he,(he.block hB2 (by omega)).cell 0,(he.block hB2 (by omega)).cell 5,(he.block hB2 (by omega)).cell 6⟩))
 have HQ:=Lib.hid hq4
 have HQ2:=Lib.hid hq
 clear hq4 hq r1 r5
 go_region_held3 (fun W'=>EXC w2 G W'∧W'.cell? ⟨w.heap.size,0,none⟩=some (.int .u8 h.tos)∧W'.cell? ⟨w.heap.size,5,none⟩=some (.int .u8 h.ttl)∧W'.cell? ⟨w.heap.size,6,none⟩=some (.int .u8 h.proto))
  ((with_reducible refine HKK.out _ ?_;(repeat' (first | (with_reducible exact EXC.refl _ _) | (with_reducible refine EXC.drew ?_) | (with_reducible refine EXC.setCell ?_ (by rfl) _))))) (fail)
 clear f0 f5 f6 y0 y1 y8 y9 z0 z1 z8 z9 m1 m2 m3 m4 i0 i1 i8 i9
 have hws : WS w w.heap.size G h A n c opts Ad dn data ((((List.replicate (20 + n) 0).set 0 (64 + (q : Int))).set 1 h.tos).set 8 h.ttl |>.set 9 h.proto) (((((w2.setCell ⟨G,0,none⟩ (.int .u8 (64 + (q : Int)))).setCell ⟨G,1,none⟩ (.int .u8 h.tos)).setCell ⟨G,8,none⟩ (.int .u8 h.ttl)).setCell ⟨G,9,none⟩ (.int .u8 h.proto)).drew):=by
  have hws0 : WS w w.heap.size G h A n c opts Ad dn data (List.replicate (20 + n) 0) w2:=⟨own2,hB2,HBel,ro.below HBel,rd.below HBel,hN⟩
  refine hws0.next (((((own2.stored 0 _).stored 1 _).stored 8 _).stored 9 _).drewN 1) ?_
  exact (((((Below.refl G w2).setCell (p:=⟨G,0,none⟩) (Nat.le_refl _) _).setCell (p:=⟨G,1,none⟩) (Nat.le_refl _) _).setCell (p:=⟨G,8,none⟩) (Nat.le_refl _) _).setCell (p:=⟨G,9,none⟩) (Nat.le_refl _) _).drew
 clear own2 hB2 HBel HKK hb1 hB1 hs1 hb2 hs2 ro rd
 have u1 : IntKind.u32.wrap (20 + (n : Int) + (dn : Int))=20 + (n : Int) + (dn : Int):=u32_in _ (by omega) (by omega)
 have id1:=hwf.id
 have sr1:=hwf.src
 have ds1:=hwf.dst
 have fl:=flagsW_bd HQ2.out
 go_wp2_with fail
 refine (put_any G _ _ G _ 2 2 _ _ _ _ hws.own (by omega) rfl rfl (by omega) (by omega) (by omega)).mono ?_
 rintro e w4 ⟨rfl,own4,hb4⟩
 replace hws:=hws.next own4 hb4
 clear own4 hb4
 have f1 : w4.cell? ⟨w.heap.size,1,none⟩=some (.int .u16 h.id):=hws.hd.cell 1
 have u2 : IntKind.u32.wrap h.id=h.id:=u32_in _ (by omega) (by omega)
 go_wp2_with fail
 refine (put_any G _ _ G _ 4 2 _ _ _ _ hws.own (by omega) rfl rfl (by omega) (by omega) (by omega)).mono ?_
 rintro e w5 ⟨rfl,own4,hb4⟩
 replace hws:=hws.next own4 hb4
 clear own4 hb4 f1 u2
 have f2 : w5.cell? ⟨w.heap.size,2,none⟩=some (.bool h.df):=hws.hd.cell 2
 have f3 : w5.cell? ⟨w.heap.size,3,none⟩=some (.bool h.mf):=hws.hd.cell 3
 have f4 : w5.cell? ⟨w.heap.size,4,none⟩=some (.int .i64 h.off):=hws.hd.cell 4
 have u2 : IntKind.u32.wrap (h.off / 8)=h.off / 8:=u32_in _ (by omega) (by omega)
 have u3 : bits .or .u32 (h.off / 8) 16384=h.off / 8 + 16384:=u32_or_df _ (by omega) (by omega)
 go_upto_if 63 with fail
 go_cut [9] (fun s9 wx=>wx=w5∧s9 = .int .u32 (h.off / 8 + if h.df then 16384 else 0))
 case first =>
  go_wp2_with fail
  all_goals
   go_meet
   exact ⟨rfl,by first | (have e : h.df=true:=(by assumption);rw [e];simp;done) | (have e : h.df=false:=(by (first | assumption | simpa using ‹¬ h.df=true›));rw [e];simp)⟩
 case rest =>
  obtain ⟨rfl,rfl⟩:=hcut
  have u5:=u32_or_mf (h.off / 8) (by omega) (by omega) h.df
  clear u3
  go_upto_if 67 with fail
  go_cut [9] (fun s9 wx=>wx=wc∧s9 = .int .u32 (flagsW h))
  case first =>
   have hfl : flagsW h=h.off / 8 + (if h.df then 16384 else 0) + (if h.mf then 8192 else 0):=rfl
   have HFL:=Lib.hid hfl
   clear hfl
   generalize h.off / 8 + (if h.df then 16384 else 0)=v at *
   go_wp2_with fail
   all_goals
    go_meet
    exact ⟨rfl,by first | (have e : h.mf=true:=(by assumption);rw [HFL.out,e];simp;done) | (have e : h.mf=false:=(by (first | assumption | simpa using ‹¬ h.mf=true›));rw [HFL.out,e];simp)⟩
  obtain ⟨rfl,rfl⟩:=hcut
  clear f2 f3 f4 u2 u5
  go_wp2_with fail
  refine (put_any G _ _ G _ 6 2 _ _ _ _ hws.own (by omega) rfl rfl (by omega) (by omega) (by omega)).mono ?_
  rintro e w6 ⟨rfl,own4,hb4⟩
  replace hws:=hws.next own4 hb4
  clear own4 hb4
  have f7 : w6.cell? ⟨w.heap.size,7,none⟩=some (.int .u32 h.src):=hws.hd.cell 7
  go_wp2_with fail
  refine (put_any G _ _ G _ 12 4 _ _ _ _ hws.own (by omega) rfl rfl (by omega) (by omega) (by omega)).mono ?_
  rintro e w7 ⟨rfl,own4,hb4⟩
  replace hws:=hws.next own4 hb4
  clear own4 hb4 f7
  have f8 : w7.cell? ⟨w.heap.size,8,none⟩=some (.int .u32 h.dst):=hws.hd.cell 8
  go_wp2_with fail
  refine (put_any G _ _ G _ 16 4 _ _ _ _ hws.own (by omega) rfl rfl (by omega) (by omega) (by omega)).mono ?_
  rintro e w8 ⟨rfl,own4,hb4⟩
  replace hws:=hws.next own4 hb4
  clear own4 hb4 f8
  have f9 : w8.cell? ⟨w.heap.size,9,none⟩=some (.slice A n c):=hws.hd.cell 9
  have hwd : WS w w.heap.size G h A n c opts Ad dn data _ w8.drew:=hws.next (hws.own.drewN 1) (Below.refl _ _).drew
  have s1:=fun W=>run_slice_lo (P:=Tryz.prog) W Tryz.underlying22 hi hz1 (some ⟨G,0,none⟩) (20 + n) (20 + n + dn) 20 20 rfl (by omega)
  have hsz1 : (Tryz.prog.info? 5).map (·.size)=some 1:=by rw [hi];exact congrArg some hz1
  go_wp2_with fail
  go_region_held3 (fun W'=>W'.cell? ⟨w.heap.size,9,none⟩=some (.slice A n c)) (first | assumption | exact hws9.hd.cell 9)
   ((refine step_copy_rd rfl (.tmp 82) (.tmp 84) 22 22 rfl Tryz.underlying22 hsz1 hwd.own (lo:=20) (by omega) (by rfl) (by omega) (by rfl) hwd.ro (by omega) ?_;intro w9 own9 hb9;have hws9:=hwd.next own9 hb9;clear own9 hb9))
  have ro_len:=RL.out
  have rd_len:=DL.out
  have e20 : (((20 + n : Nat) : Int))=20 + (n : Int):=by omega
  have hq' : (20 + (n : Int)) / 4=(q : Int):=by have:=HQ.out;omega
  have hz9 : spliceZ (putB (putB (putB (putB (putB (((((List.replicate (20 + n) 0).set 0 (64 + (q : Int))).set 1 h.tos).set 8 h.ttl).set 9 h.proto) 2 2 (20 + (n : Int) + (dn : Int))) 4 2 h.id) 6 2 (flagsW h)) 12 4 h.src) 16 4 h.dst) 20 opts=headB h opts data.length:=by
   rw [<- made20_eq,ro_len,rd_len]
   unfold made20
   rw [e20,hq']
  rw [hz9] at hws9
  have HD9:=Lib.hid hws9
  have own9:=hws9.own
  have hbd9:=headB_bd (L:=data.length) hwf bo (by rw [ro_len];exact r4)
  have hsz9:=hws9.more
  clear hz9 e20 hq' hws hwd hws9 s1 f9
  go_wp2_with fail
  refine (fix_any _ (20 + n) (20 + n + dn) (headB h opts data.length) 10 10 _ own9.rd hbd9 (by omega) rfl rfl (by omega)).mono ?_
  rintro e w10 ⟨A1,n1,c1,rfl,own1,hb1⟩
  have hB10 : Below w.heap.size w w10:=HD9.out.bel.trans (hb1.mono hsz9)
  have rd10 : RD .u8 w10 w.heap.size Ad dn data:=HD9.out.rd.below (hb1.mono hsz9)
  have hl1:=own1.len
  rw [fixOf_len,headB_len,ro_len] at hl1
  subst hl1
  replace own1:=own1.mono (base':=w.heap.size) hsz9
  have hc1:=own1.le
  go_wp2_with (at_builtin;refine wpList_append_rd _ rfl _ _ _ rfl .u8 w.heap.size 5 i0 1 Tryz.underlying22 hi hz0 hz1 hz2 A1 (20 + n) c1 (fixOf (headB h opts data.length) 10) rfl own1 w.heap.size Ad dn dc data rfl rd10 (by simp only [maxLen];omega) (by omega) hB10.size ?_;intro A2 c2 w11 happ)
  go_ret2
  exact ⟨A2,_,c2,rfl,happ.own,hB10.trans (happ.keepBelow (fun g hg=>by
   rcases own1.cases with ⟨rfl,_⟩ | ⟨g',rfl,hg',_⟩
   ·simp at hg
   ·simp at hg;subst hg;exact hg') hB10.size)⟩
def wrE (h : HD) (ol dl : Nat) : Int:=if Rightly h.off h.mf ol dl then 0 else 2
def wrB (h : HD) (opts data : List Int) : List Int:=if Rightly h.off h.mf opts.length data.length then pktB h opts data else []
def WroteP (w : World) (zs : List Int) (er : Int) (e : Ending) (w' : World) : Prop :=
 ∃ A n c,e = .returned (.tuple #[.slice A n c,.int .i64 er])∧OWN .u8 5 w' w.heap.size A n c zs∧Below w.heap.size w w'
theorem write_any (h : HD) (A : Option Addr) (n c : Nat) (opts : List Int) (Ad : Option Addr) (dn dc : Nat) (data : List Int) (w : World) (hwf : h.WF) (ro : RD .u8 w w.heap.size A n opts) (bo : BD 255 opts) (rd : RD .u8 w w.heap.size Ad dn data) (hn : n<=140737488355328) (hdn : dn<=140737488355328) :
 Calls Tryz.prog 7 #[h.val (.slice A n c),.slice Ad dn dc] w (WroteP w (wrB h opts data) (wrE h n dn)):=by
 have h1:=ro.len
 have h2:=rd.len
 by_cases hr : Rightly h.off h.mf n dn
 ·refine (write_yes h A n c opts Ad dn dc data w hwf ro bo rd hr).mono ?_
  rintro e w' ⟨A',n',c',rfl,ho,hb⟩
  exact ⟨A',n',c',by rw [wrE,if_pos hr],by rw [wrB,h1,h2,if_pos hr];exact ho,hb⟩
 ·refine (write_no h A n c Ad dn dc w hwf.off hn hdn hr).mono ?_
  rintro e w' ⟨rfl,hb⟩
  exact ⟨none,0,0,by rw [wrE,if_neg hr],by rw [wrB,h1,h2,if_neg hr];exact OWN.nil,hb⟩
set_option maxHeartbeats 400000 in
theorem ipRight_any (h : HD) (A : Option Addr) (n c : Nat) (q : Int) (w : World) (h64 : -9223372036854775808<=h.off∧h.off<=9223372036854775807) (hq : -9223372036854775808<=q∧q<=9223372036854775807) (hn : n<=140737488355328) :
 Calls Tryz.prog 70 #[h.val (.slice A n c),.int .i64 q] w fun e w'=>e = .returned (.bool (rightB h.off h.mf n q))∧Below w.heap.size w w':=by
 unfold HD.val HD.cells
 go_enter Tryz.func70,Tryz.ntmps70
 go_wp2_with fail
 refine (right_any5 h A n c q _ h64 hq hn).mono ?_
 rintro e w' ⟨rfl,hb⟩
 go_wp2_with fail
 go_ret
 exact ⟨rfl,((Below.refl _ w).alloc (Nat.le_refl _) _).trans (hb.mono (by simp))⟩
def regOps (k : Nat) : Code->Option (Array Oper)
 | .region id ops _=>if id == k then some ops else none
 | .seq a b=>match regOps k a with
   | some o=>some o
   | none=>regOps k b
 | .cond _ a b=>match regOps k a with
   | some o=>some o
   | none=>regOps k b
 | .block _ c=>regOps k c
 | .loop c=>regOps k c
 | .scope c=>regOps k c
 | .rangeFunc _ _ a b=>match regOps k a with
   | some o=>some o
   | none=>regOps k b
 | _=>none
noncomputable def opsAt (f : Func) (k : Nat) : Array Oper:=(f.body.bind (regOps k)).getD #[]
theorem nameW' {K : Act->World->Prop} {a : Act} {W : World} (h : ∀ W',W'=W->K a W') : K a W:=h W rfl
end Go.Proofs.YtljbfnabnkkfeaaGreat
