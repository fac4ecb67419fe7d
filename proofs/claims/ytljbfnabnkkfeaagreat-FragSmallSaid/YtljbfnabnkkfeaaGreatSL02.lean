import Derived.Shelf.Abstract
import Derived.Shelf.RegionOpen
import Derived.OwnWalkIn
import Derived.TacticsInMore
import Derived.LoopNIn
import Derived.LoopIn
import Derived.WalkSpells
import Derived.Deep.QuietTactic
import Derived.BigQuiet
import Derived.Test.YtljbfnabnkkfeaaGreatSL01
set_option linter.unusedVariables false
set_option linter.unusedSimpArgs false
/- Joined by program: WBase, WRow. -/
namespace Go.Proofs.YtljbfnabnkkfeaaGreat
open Go.RowKit
set_option maxHeartbeats 400000 in
theorem join_any (A : Option Addr) (n c : Nat) (zs : List Int) (w : World) (h : RD .u16 w w.heap.size A n zs) (hb : BD 65535 zs) (hn : n<=9223372036854775807) :
 Calls Tryz.prog 109 #[.slice A n c] w fun e w'=>e = .returned (.int .u16 (foldJ 0 zs))∧w=w':=by
 go_enter Tryz.func109,Tryz.ntmps109
 go_wp2
 go_loop [3,8] (fun s i=>∃ k : Nat,k<=n∧i = .int .i64 k∧s = .int .u32 (foldJ 0 (zs.take k))) (fun _ i=>n - (intOf i).toNat)
 case atStart=>exact ⟨0,Nat.zero_le _,rfl,rfl⟩
 case round =>
  obtain ⟨k,hk,rfl,rfl⟩:=hrel
  by_cases hlt : k < n
  ·obtain ⟨b,off,rfl,hB,hc⟩:=h.2 (by omega)
   have hcell:=hc k hlt
   have hz:=hb.get (by omega) k
   have hf:=foldJ_bd (zs.take k) (s:=0) (by omega) (by omega) (fun x hx=>hb x (List.mem_of_mem_take hx))
   obtain ⟨hz1,hz2⟩:=hz
   obtain ⟨hf1,hf2⟩:=hf
   go_wp2
   go_round
   case rel =>
    refine ⟨k + 1,by omega,by go_num,?_⟩
    have hl:=h.1
    rw [u32_and_ffff _ (by omega) (by omega),foldJ_take_succ _ _ _ (by omega)]
    congr 1
    unfold stepJ
    omega
   case measure=>simp [intOf];omega
  ·have hf:=foldJ_bd (zs.take k) (s:=0) (by omega) (by omega) (fun x hx=>hb x (List.mem_of_mem_take hx))
   obtain ⟨hf1,hf2⟩:=hf
   have hz:=h.1
   have HT : Hid (zs.take k=zs):=List.take_of_length_le (by omega)
   clear hz
   go_wp2
   go_ret
   refine ⟨?_,rfl⟩
   rw [HT.out]
   rfl
open Go.RowKit Go.Shelf
attribute [local go_sem] Oper.semAt_some
def KeepB (n₀ Bs : Nat) (W W' : World) : Prop:=Below n₀ W W'∧W'.heap[Bs]?=W.heap[Bs]?
theorem KeepB.refl (n₀ Bs : Nat) (W : World) : KeepB n₀ Bs W W:=⟨Below.refl _ _,rfl⟩
theorem KeepB.trans {n₀ Bs : Nat} {A B C : World} (h : KeepB n₀ Bs A B) (k : KeepB n₀ Bs B C) : KeepB n₀ Bs A C:=⟨h.1.trans k.1,k.2.trans h.2⟩
theorem KeepB.book {n₀ Bs : Nat} {w : World} (hn : n₀<=w.heap.size) (hBs : Bs < w.heap.size) (W : World) (l : Nat) (o o' : Obj) (hl : w.heap.size<=l) (h : W.heap[l]?=some o) (h1 : o.isCells=false) (h2 : o.isWalk=false) : KeepB n₀ Bs W (W.putObj l o') :=
 ⟨belowK_b hn W l o o' hl h h1 h2,(grownBy_putObj' W l o').block Bs (by have:=(Array.getElem?_eq_some_iff.1 h).1;omega) (by simp;omega)⟩
theorem KeepB.cell {n₀ Bs : Nat} {W W' : World} (h : KeepB n₀ Bs W W') (o : Nat) : W'.cell? ⟨Bs,o,none⟩=W.cell? ⟨Bs,o,none⟩:=World.cell?_of_block h.2
set_option maxRecDepth 100000 in
set_option maxHeartbeats 2000000 in
theorem wordsc_in (F : Fence) (n : Nat) (h7 : F.fn 110) (hro : F.round=none) (hn : 1<=n) (l Bs n₀ len cap : Nat) (A : Option Addr) (zs : List Int) (hz : ∀ x ∈ zs,0<=x∧x<=255) (hreach : len<=140737488355328) (J Jx : List W16->World->Prop)
 (hY : ∀ pre x W,J pre W->pre.length < (len + 1) / 2->YieldAt F (n - 1) Tryz.prog l #[.int .u16 x.1] W fun e W' =>
  (e = .returned (.bool true)∧J (pre++[x]) W'∧KeepB n₀ Bs W W')∨(e = .returned (.bool false)∧Jx (pre++[x]) W'))
 (W : World) (hBs : W.cell? ⟨Bs,0,none⟩=some (.slice A len cap)) (hc : RD .u8 W n₀ A len zs) (h0 : J [] W) :
 CallsIn F n Tryz.prog 110 #[.func (.yield l) #[] #[],.pointer (some ⟨Bs,0,none⟩)] W fun e W'=>(∃ v,e = .returned v) ∧
  ((∃ ys,ys=upto (fun j=>wordW zs hz (2 * j)) ((len + 1) / 2)∧J ys W')∨(∃ pre,True∧Jx pre W')):=by
 refine callsIn_of_wp Tryz.func110 rfl h7 ?_ hro
 simp only [Tryz.ntmps110,List.size_toArray,List.length_cons,List.length_nil,Nat.reduceAdd,Nat.reduceSub,Array.replicate_succ,Array.replicate_zero,List.push_toArray,List.append_toArray,List.nil_append,List.cons_append]
 gi_wp2
 gi_loopw [3] (fun i wr=>∃ k : Nat,2 * k<=len + 1∧i = .int .i64 (2 * k : Nat)∧J (upto (fun j=>wordW zs hz (2 * j)) k) wr∧KeepB n₀ Bs W wr)
  (fun i _=>len + 2 - (intOf i).toNat)
 case atStart=>exact ⟨0,Nat.zero_le _,rfl,h0,KeepB.refl _ _ _⟩
 case round =>
  obtain ⟨k,hk,rfl,hJs,hnx⟩:=hrel
  have hBs' : wr.cell? ⟨Bs,0,none⟩=some (.slice A len cap):=(hnx.cell 0).trans hBs
  by_cases hlt : 2 * k < len
  ·obtain ⟨b,off,rfl,hb,hcc⟩:=(hc.below hnx.1).2 (by omega)
   have hc1:=hcc (2 * k) hlt
   obtain ⟨hz1,hz2⟩:=byte_bd zs hz (2 * k)
   obtain ⟨hz3,hz4⟩:=byte_bd zs hz (2 * k + 1)
   obtain ⟨fn,tmps,assign,body,hy,hR⟩:=hY _ (wordW zs hz (2 * k)) wr hJs (by rw [upto_length];omega)
   by_cases hl2 : 2 * k + 1 < len
   ·have hc2:=hcc (2 * k + 1) hl2
    have e : (wordW zs hz (2 * k)).val=bits .or .u16 (zs[2 * k]?.getD 0 * 256) (zs[2 * k + 1]?.getD 0):=(u16_or_low _ _ hz1 hz2 hz3 hz4).symm
    rw [e] at hy
    clear hcc hc hBs e
    gi_wp2
    refine hR.mono ?_
    rintro e W3 (⟨rfl,hJ3,hk3⟩ | ⟨rfl,hJx3⟩)
    ·gi_wp2
     go_roundw
     case rel=>exact ⟨k + 1,by omega,by go_num,by rw [upto_succ];exact hJ3,hnx.trans hk3⟩
     case measure=>simp [intOf];omega
    ·gi_wp2
     refine bodyPost_ret (results_none rfl _ _ _) rfl ?_
     exact ⟨⟨_,rfl⟩,.inr ⟨_,trivial,hJx3⟩⟩
   ·have e : (wordW zs hz (2 * k)).val=zs[2 * k]?.getD 0 * 256:=by
     have hl:=hc.1
     have : zs[2 * k + 1]?=none:=List.getElem?_eq_none (by omega)
     simp [wordW,wordAt,this]
    rw [e] at hy
    clear hcc hc hBs e
    gi_wp2
    refine hR.mono ?_
    rintro e W3 (⟨rfl,hJ3,hk3⟩ | ⟨rfl,hJx3⟩)
    ·gi_wp2
     go_roundw
     case rel=>exact ⟨k + 1,by omega,by go_num,by rw [upto_succ];exact hJ3,hnx.trans hk3⟩
     case measure=>simp [intOf];omega
    ·gi_wp2
     refine bodyPost_ret (results_none rfl _ _ _) rfl ?_
     exact ⟨⟨_,rfl⟩,.inr ⟨_,trivial,hJx3⟩⟩
  ·have HK : Hid (k=(len + 1) / 2):=by show k=(len + 1) / 2;omega
   gi_wp2
   go_end0
   exact ⟨⟨_,rfl⟩,.inl ⟨_,by rw [HK.out],hJs⟩⟩
set_option maxHeartbeats 1000000 in
theorem words_in (F : Fence) (n : Nat) (h5 : F.fn 108) (hro : F.round=none) (a : Option Addr) (len cap : Nat) (w : World) :
 CallsIn F n Tryz.prog 108 #[.slice a len cap] w fun e w'=>e = .returned (.func (.func 110) #[] #[.pointer (some ⟨w.heap.size,0,none⟩)])∧w'=w.alloc (.cells #[.slice a len cap] 22):=by
 refine callsIn_of_wp Tryz.func108 rfl h5 ?_ hro
 simp only [Tryz.ntmps108,List.size_toArray,List.length_cons,List.length_nil,Nat.reduceAdd,Nat.reduceSub,Array.replicate_succ,Array.replicate_zero,List.push_toArray,List.append_toArray,List.nil_append,List.cons_append]
 gi_wp2
 go_ret
 exact ⟨rfl,rfl⟩
theorem words_stops (F : Fence) (n : Nat) (h7 : F.fn 110) (hro : F.round=none) (hn : 1<=n) (Bs n₀ : Nat) (A : Option Addr) (len cap : Nat) (zs : List Int) (hz : ∀ x ∈ zs,0<=x∧x<=255) (hreach : len<=140737488355328) (w : World) (hBs : Bs < w.heap.size) (hn₀ : n₀<=w.heap.size)
 (hc : w.cell? ⟨Bs,0,none⟩=some (.slice A len cap)) (hI : RD .u8 w n₀ A len zs) :
 SeqStopsK F n Tryz.prog 110 #[.pointer (some ⟨Bs,0,none⟩)] (fun x : W16=>#[Value.int .u16 x.1]) (KeepB n₀ Bs) (fun ys=>ys=upto (fun j=>wordW zs hz (2 * j)) ((len + 1) / 2)) (fun _=>True) ((len + 1) / 2) w:=fun l J Jx W hW _ _ hY h0 =>
 wordsc_in F n h7 hro hn l Bs n₀ len cap A zs hz hreach J Jx hY W ((hW.cell (p:=⟨Bs,0,none⟩) hBs).trans hc) (hI.below (hW.mono hn₀)) h0
set_option maxRecDepth 100000 in
set_option maxHeartbeats 2000000 in
theorem sum_in (n : Nat) (hn : 3<=n) (A : Option Addr) (len cap : Nat) (zs : List Int) (hz : ∀ x ∈ zs,0<=x∧x<=255) (hreach : len<=140737488355328) (w : World) (hI : RD .u8 w w.heap.size A len zs) :
 CallsIn Fence.wide n Tryz.prog 90 #[.slice A len cap] w fun e W'=>e = .returned (.int .u16 (sumOf zs))∧Below w.heap.size w W':=by
 have h1 : 1<=n:=by omega
 have hro : Fence.wide.round=none:=rfl
 refine callsIn_of_wp_marks Tryz.func90 rfl trivial ?_ hro
 simp only [Tryz.ntmps90,List.size_toArray,List.length_cons,List.length_nil,Nat.reduceAdd,Nat.reduceSub,Array.replicate_succ,Array.replicate_zero,List.push_toArray,List.append_toArray,List.nil_append,List.cons_append]
 gi_wp2_with (refine ⟨trivial,?_⟩;gi_at_call 108;refine (words_in Fence.wide (n - 1) trivial hro _ _ _ _).mono ?_;rintro e w' ⟨rfl,rfl⟩)
 have bS:=Boxed.new w 31 (.int .u16 0)
 have bN:=Boxed.new (w.alloc (.cells #[.int .u16 0] 31)) 22 (.slice A len cap)
 rw [World.size_alloc] at bN
 have hB0 : Below w.heap.size w ((w.alloc (.cells #[.int .u16 0] 31)).alloc (.cells #[.slice A len cap] 22)):=((Below.refl _ w).alloc (Nat.le_refl _) _).alloc (by simp) _
 refine wpIn_rangeFunc_ownG hro h1 (gf:=110) (lb:=#[.pointer (some ⟨w.heap.size + 1,0,none⟩)]) rfl trivial (enters_of Tryz.func110 (by kernel_rfl) rfl)
  (words_stops Fence.wide (n - 1) trivial hro (by omega) (w.heap.size + 1) w.heap.size A len cap zs hz hreach _ (by simp) (by simp;omega) bN.cell (hI.below hB0)) KeepB.trans (KeepB.book (by simp;omega) (by simp)) (Below.refl _ _) (fun _=>rfl)
  (fun pre W=>(W.cell? ⟨w.heap.size,0,none⟩=some (.int .u16 (sumW pre))∧W.frozen? ⟨w.heap.size,0,none⟩=false)∧Below w.heap.size ((w.alloc (.cells #[.int .u16 0] 31)).alloc (.cells #[.slice A len cap] 22)) W)
  (fun _ _ _=>False)
  (OwnFrom.and (Own.from (fun s A B row hs hg hr=>⟨cell_kept hs.1 hg hr,(frozen_kept hs.1 hg hr).trans hs.2⟩) _) (ownFrom_below (by simp;omega) (by simp;omega)))
  (fun _ _ _ _ _ hs _ _=>hs)
  ⟨⟨(bS.alloc _).cell,(bS.alloc _).frozen⟩,Below.refl _ _⟩
  (fun x=>{ tmps:=#[.slice A len cap,undef,.int .u16 0,.pointer (some ⟨w.heap.size,0,none⟩),.int .u16 x.1,.slice A len cap,.func (.func 110) #[] #[.pointer (some ⟨w.heap.size + 1,0,none⟩)],.int .u16 x.1,undef,undef,undef,undef,undef],defers:=[] }) ?assign ?body ?done ?stop
 case assign =>
  intro l x W K hK
  gi_wp2
  exact hK
 case body =>
  rintro l pre x W ⟨⟨hc,hf⟩,hB⟩ _
  obtain ⟨hs1,hs2⟩:=sumW_bd pre
  have hx:=x.2
  have hz : w.heap.size + 1 < W.heap.size:=by have:=hB.size;simp at this;omega
  have hz0 : w.heap.size < W.heap.size:=by omega
  have HJ : Hid (foldJ 0 [sumW pre,x.1]=stepJ (sumW pre) x.1):=foldJ_two _ _ hs1 hs2
  gi_wp2_with fail
  refine ⟨trivial,(fun h=>by cases h),?_⟩
  refine (CallsIn.inRound l (callsIn_wide.2 (join_any _ 2 _ [sumW pre,x.1] _ (RD.new W .u16 31 [sumW pre,x.1]) (fun y hy=>by simp at hy;omega) (by omega)))).mono ?_
  rintro e w' ⟨rfl,rfl⟩
  have hc1 : (W.alloc (.cells #[.int .u16 (sumW pre),.int .u16 x.1] 31)).cell? ⟨w.heap.size,0,none⟩=some (.int .u16 (sumW pre)):=(World.cell?_alloc_lt W _ ⟨w.heap.size,0,none⟩ (by show w.heap.size < W.heap.size;omega)).trans hc
  rw [HJ.out]
  gi_wp2_with fail
  refine ⟨((KeepsOthers.setCell _ _ _).trans (KeepsOthers.alloc _ _)).from _,⟨((Below.refl w.heap.size W).setCell (p:=⟨w.heap.size,0,none⟩) (Nat.le_refl _) _).alloc (by simp;omega) _,?_⟩,⟨?_,?_⟩,(hB.setCell (p:=⟨w.heap.size,0,none⟩) (Nat.le_refl _) _).alloc (by simp;omega) _⟩
  ·rw [Below.heap_alloc _ _ _ (by simp;omega),Below.heap_setCell _ _ _ _ (by simp)]
  ·rw [World.cell?_alloc_lt _ _ _ (by simp;omega),sumW_snoc]
   exact World.cell?_setCell_same' _ _ _ (by rw [hc];rfl)
  ·simp [go_sem,hf,hz0]
 case done =>
  rintro D ys W hD rfl ⟨⟨hc,_⟩,hB⟩ hK
  gi_wp2
  refine ⟨by simp,.inl ⟨_,_,rfl,run_takeDeferred hK,?_⟩⟩
  have hl:=hI.1
  refine ⟨_,results_tmp rfl _ _ _,?_,hB0.trans (hB.trans (belowK_b (w:=w) (Nat.le_refl _) W D _ _ (by simp at hD;omega) hK rfl rfl))⟩
  rw [<- hl,sumW_upto]
  rfl
 case stop =>
  rintro D c pre W _ _ h _
  exact h.elim
theorem sum_any (A : Option Addr) (n c : Nat) (zs : List Int) (w : World) (h : RD .u8 w w.heap.size A n zs) (hz : BD 255 zs) (hn : n<=140737488355328) :
 Calls Tryz.prog 90 #[.slice A n c] w fun e w'=>e = .returned (.int .u16 (sumOf zs))∧Below w.heap.size w w' :=
 callsIn_wide.1 (sum_in 3 (by omega) A n c zs hz hn w h)
end Go.Proofs.YtljbfnabnkkfeaaGreat
namespace Go.Proofs.YtljbfnabnkkfeaaGreat
open Go.RowKit
set_option maxHeartbeats 400000 in
theorem of_any (A : Option Addr) (n c : Nat) (zs : List Int) (w : World) (h : RD .u8 w w.heap.size A n zs) (hz : BD 255 zs) (hn : n<=140737488355328) :
 Calls Tryz.prog 52 #[.slice A n c] w fun e w'=>e = .returned (.int .u16 (65535 - sumOf zs))∧Below w.heap.size w w':=by
 obtain ⟨hs1,hs2⟩:=sumOf_bd zs hz
 have e1:=u16_not _ hs1 hs2
 have e2:=u16_signed
 go_enter Tryz.func52,Tryz.ntmps52
 go_wp2_with (go_at_call 90;refine (sum_any _ _ _ zs _ h hz hn).mono ?_;rintro e w' ⟨rfl,hb⟩)
 go_ret
 exact ⟨rfl,hb⟩
set_option maxHeartbeats 400000 in
theorem right_any (A : Option Addr) (n c : Nat) (zs : List Int) (w : World) (h : RD .u8 w w.heap.size A n zs) (hz : BD 255 zs) (hn : n<=140737488355328) :
 Calls Tryz.prog 63 #[.slice A n c] w fun e w'=>e = .returned (.bool (sumOf zs == 65535))∧Below w.heap.size w w':=by
 obtain ⟨hs1,hs2⟩:=sumOf_bd zs hz
 have e1 : (65535 - sumOf zs == 0)=(sumOf zs == 65535):=by rw [Bool.eq_iff_iff];simp;omega
 go_enter Tryz.func63,Tryz.ntmps63
 go_wp2_with (go_at_call 52;refine (of_any _ _ _ zs _ h hz hn).mono ?_;rintro e w' ⟨rfl,hb⟩)
 go_ret
 exact ⟨rfl,hb⟩
theorem infoU8 : (Tryz.prog.info? 5).map (fun i=>(i.zero,i.size,i.bytes))=some (some (.int .u8 0),1,1):=by kernel_rfl
def Fresh (w : World) (zs : List Int) (e : Ending) (w' : World) : Prop :=
 ∃ A n c,e = .returned (.slice A n c)∧OWN .u8 5 w' w.heap.size A n c zs∧Below w.heap.size w w'
set_option maxHeartbeats 400000 in
theorem clone_any (A : Option Addr) (n c : Nat) (zs : List Int) (w : World) (h : RD .u8 w w.heap.size A n zs) (hn : n<=140737488355328) :
 Calls Tryz.prog 36 #[.slice A n c] w (Fresh w zs):=by
 have hnn : n=zs.length:=h.1.symm
 subst hnn
 obtain ⟨i0,hi,hz0,hz1,hz2⟩:=info_parts infoU8
 have hnil:=fun (W : World) a l c=>Lib.run_eql_slice_nil (P:=Tryz.prog) W 22 5 a l c 0 0 Tryz.underlying22
 rcases A with _ | ad
 ·have hl : zs.length=0:=by
   rcases Nat.eq_zero_or_pos zs.length with h1 | h1
   ·exact h1
   ·obtain ⟨b,off,h2,_⟩:=h.2 h1
    cases h2
  have hzn : zs=[]:=List.length_eq_zero_iff.1 hl
  subst hzn
  go_enter Tryz.func36,Tryz.ntmps36
  go_wp2_with fail
  go_ret
  exact ⟨none,0,0,rfl,OWN.nil,Below.refl _ _⟩
 ·go_enter Tryz.func36,Tryz.ntmps36
  go_wp2_with (at_builtin;refine wpList_append_rd _ rfl _ _ _ rfl .u8 w.heap.size 5 i0 1 Tryz.underlying22 hi hz0 hz1 hz2 (some ⟨w.heap.size,0,none⟩) 0 0 [] rfl (OWN.lit w .u8 5 w.heap.size [] (Nat.le_refl _) (by simp)) w.heap.size _ _ _ zs rfl (h.alloc (Nat.le_refl _) _) (by simp [maxLen];omega) (by omega) (by simp) ?_;intro A' c' w' happ)
  go_ret
  have hbel : Below w.heap.size w w':=((Below.refl _ w).alloc (Nat.le_refl _) _).trans (happ.keepBelow (fun g hg=>by simp at hg;omega) (by simp))
  have hown:=happ.own
  rw [Nat.zero_add,List.nil_append] at hown
  exact ⟨A',_,c',rfl,hown,hbel⟩
def Fixed (w : World) (zs : List Int) (e : Ending) (w' : World) : Prop :=
 ∃ A n c,e = .returned (.tuple #[.slice A n c,.int .i64 0])∧OWN .u8 5 w' w.heap.size A n c zs∧Below w.heap.size w w'
set_option maxHeartbeats 400000 in
theorem fix_any (A : Option Addr) (n c : Nat) (zs : List Int) (q : Int) (p : Nat) (w : World) (h : RD .u8 w w.heap.size A n zs) (hz : BD 255 zs) (hn : n<=140737488355328) (hq : q=p) (hp : p % 2=0) (hk : p + 2<=n) :
 Calls Tryz.prog 23 #[.slice A n c,.int .i64 q] w (Fixed w (fixOf zs p)):=by
 subst hq
 have hl:=h.1
 have hm' : ((p : Int) % 2 == 1)=false:=by simp;omega
 have h0' : (0 : Int)<=(p : Int):=by omega
 have hl' : ¬ (n : Int) - 2 < (p : Int):=by omega
 go_enter Tryz.func23,Tryz.ntmps23
 go_wp2_with fail
 refine (clone_any A n c zs w h hn).mono ?_
 rintro e w1 ⟨A1,n1,c1,rfl,hown,hb1⟩
 obtain rfl : n=n1:=by have:=hown.len;omega
 clear hl
 obtain ⟨g,rfl,hg1,hg2,hnc,hcm⟩:=hown.form (by omega)
 have x1:=hown.cell (i:=p) (by omega)
 have x2:=hown.cell (i:=p + 1) (by omega)
 have x3:=hown.frozen p
 have x4:=hown.frozen (p + 1)
 go_wp2_with fail
 have own2 : OWN .u8 5 ((w1.setCell ⟨g,p,none⟩ (.int .u8 0)).setCell ⟨g,p + 1,none⟩ (.int .u8 0)) w.heap.size (some ⟨g,0,none⟩) n c1 (fixZ zs p):=hown.two p 0 0
 have hb2 : Below w.heap.size w ((w1.setCell ⟨g,p,none⟩ (.int .u8 0)).setCell ⟨g,p + 1,none⟩ (.int .u8 0)):=(hb1.setCell (p:=⟨g,p,none⟩) hg1 _).setCell (p:=⟨g,p + 1,none⟩) hg1 _
 generalize (w1.setCell ⟨g,p,none⟩ (.int .u8 0)).setCell ⟨g,p + 1,none⟩ (.int .u8 0)=w2 at own2 hb2 ⊢
 have hz2 : BD 255 (fixZ zs p):=put2_bd hz (by omega) (by omega)
 obtain ⟨hc1,hc2⟩:=fixC_bd hz p
 clear x1 x2 x3 x4 hown hb1 hg2
 refine (of_any _ n c1 (fixZ zs p) w2 own2.rd hz2 hn).mono ?_
 rintro e w3 ⟨rfl,hb3⟩
 have hb4 : Below w.heap.size w w3:=hb2.trans (hb3.mono hb2.size)
 have own3:=own2.below hb3
 rw [show 65535 - sumOf (fixZ zs p)=fixC zs p from rfl]
 clear own2 hb2 hb3 hz2
 have x1:=own3.cell (i:=p) (by omega)
 have x2:=own3.cell (i:=p + 1) (by omega)
 have x3:=own3.frozen p
 have x4:=own3.frozen (p + 1)
 have e1:=u8_in (fixC zs p / 256) (by omega) (by omega)
 have e2:=u8_mod (fixC zs p)
 go_wp2_with fail
 go_ret2
 exact ⟨some ⟨g,0,none⟩,_,c1,rfl,(own3.stored p (fixC zs p / 256)).stored (p + 1) (fixC zs p % 256),(hb4.setCell (p:=⟨g,p,none⟩) hg1 _).setCell (p:=⟨g,p + 1,none⟩) hg1 _⟩
theorem below_drewN {B : Nat} {a w : World} (h : Below B a w) (n : Nat) : Below B a (w.drewN n):=⟨h.os,h.tape,h.output,h.size,h.block⟩
theorem RD.drewN {k : IntKind} {w : World} {B : Nat} {A : Option Addr} {n : Nat} {zs : List Int} (h : RD k w B A n zs) (m : Nat) : RD k (w.drewN m) B A n zs:=h
theorem OWN.drewN {k : IntKind} {e : TypeId} {w : World} {B : Nat} {A : Option Addr} {n c : Nat} {zs : List Int} (h : OWN k e w B A n c zs) (m : Nat) : OWN k e (w.drewN m) B A n c zs:=h
theorem take_succ_eq (xs ys : List Int) (k : Nat) (hx : k < xs.length) (hy : k < ys.length) (h : xs.take k=ys.take k) (he : xs[k]?.getD 0=ys[k]?.getD 0) : xs.take (k + 1)=ys.take (k + 1):=by
 rw [List.take_succ_eq_append_getElem hx,List.take_succ_eq_append_getElem hy,h]
 simp [hx,hy] at he
 rw [he]
theorem ne_of_getD (xs ys : List Int) (k : Nat) (he : xs[k]?.getD 0≠ys[k]?.getD 0) : (xs == ys)=false:=by
 rw [beq_eq_false_iff_ne];rintro rfl;exact he rfl
set_option maxHeartbeats 1000000 in
theorem same_any (A1 A2 : Option Addr) (n1 c1 n2 c2 : Nat) (xs ys : List Int) (w : World) (h1 : RD .u8 w w.heap.size A1 n1 xs) (h2 : RD .u8 w w.heap.size A2 n2 ys) (hn1 : n1<=140737488355328) (hn2 : n2<=140737488355328) :
 Calls Tryz.prog 28 #[.slice A1 n1 c1,.slice A2 n2 c2] w fun e w'=>e = .returned (.bool (xs == ys))∧∃ m,w'=w.drewN m:=by
 have hl1:=Lib.hid h1.1
 have hl2:=Lib.hid h2.1
 by_cases hn : n1=n2
 ·subst hn
  have ht : ((n1 : Int) != (n1 : Int))=false:=by simp
  go_enter Tryz.func28,Tryz.ntmps28
  go_wp2
  go_loopw [5] (fun i wr=>∃ k : Nat,k<=n1∧i = .int .i64 k∧xs.take k=ys.take k∧∃ m,wr=w.drewN m) (fun i _=>n1 - (intOf i).toNat)
  case atStart=>exact ⟨0,Nat.zero_le _,rfl,rfl,0,rfl⟩
  case round =>
   obtain ⟨k,hk,rfl,heq,m,rfl⟩:=hrel
   by_cases hlt : k < n1
   ·obtain ⟨b1,o1,rfl,hb1,hc1⟩:=h1.2 (by omega)
    obtain ⟨b2,o2,rfl,hb2,hc2⟩:=h2.2 (by omega)
    have x1:=hc1 k hlt
    have x2:=hc2 k hlt
    have HE:=Lib.hid heq
    clear heq hc1 hc2
    have i1 : (0 : Int)<=(k : Int):=by omega
    have i2 : (k : Int) < (n1 : Int):=by omega
    go_wp2_with fail
    go_quiet (fail)
    by_cases he : xs[k]?.getD 0=ys[k]?.getD 0
    ·have he' : (xs[k]?.getD 0 != ys[k]?.getD 0)=false:=by simp [he]
     have HE2:=Lib.hid (take_succ_eq xs ys k (by rw [hl1.out];exact hlt) (by rw [hl2.out];exact hlt) HE.out he)
     clear he
     go_wp2_with fail
     go_roundw
     case rel=>exact ⟨k + 1,by omega,by go_num,HE2.out,_,rfl⟩
     case measure=>simp [intOf];omega
    ·have he' : (xs[k]?.getD 0 != ys[k]?.getD 0)=true:=by simp [he]
     have HF:=Lib.hid (ne_of_getD xs ys k he)
     clear he
     go_wp2_with fail
     go_ret
     exact ⟨by rw [HF.out];rfl,_,World.drewN_drewN _ _ _⟩
   ·have HF:=Lib.hid (show (xs == ys)=true by
     rw [List.take_of_length_le (by rw [hl1.out];omega),List.take_of_length_le (by rw [hl2.out];omega)] at heq
     rw [heq];simp)
    clear heq
    go_wp2
    go_ret
    exact ⟨by rw [HF.out];rfl,_,rfl⟩
 ·have ht : ((n1 : Int) != (n2 : Int))=true:=by simp;omega
  have HF:=Lib.hid (show (xs == ys)=false by
   rw [beq_eq_false_iff_ne]
   intro h
   apply hn
   rw [<- hl1.out,<- hl2.out,h])
  go_enter Tryz.func28,Tryz.ntmps28
  go_wp2
  go_ret
  exact ⟨by rw [HF.out];rfl,0,rfl⟩
set_option maxHeartbeats 400000 in
theorem rFold_any (s : Int) (w : World) (h0 : 0<=s) (h1 : s<=9223372036854775807) :
 Calls Tryz.prog 88 #[.int .i64 s] w fun e w'=>e = .returned (.int .i64 (foldR s))∧w=w':=by
 by_cases hs : s=0
 ·subst hs
  go_enter Tryz.func88,Tryz.ntmps88
  go_wp2
  go_ret
  exact ⟨rfl,rfl⟩
 ·have hb : (s == 0)=false:=by simp [hs]
  have HF:=Lib.hid (show foldR s=1 + (s - 1) % 65535 by unfold foldR;rw [if_neg hs])
  have h2 : 1<=s:=by omega
  clear hs
  go_enter Tryz.func88,Tryz.ntmps88
  go_wp2
  go_ret
  exact ⟨by rw [HF.out];rfl,rfl⟩
def bsum (zs : List Int) : Nat->Int
 | 0=>0
 | i + 1=>bsum zs i + (if i % 2=0 then 256 * zs[i]?.getD 0 else zs[i]?.getD 0)
theorem bsum_bd {zs : List Int} (h : BD 255 zs) : ∀ i,0<=bsum zs i∧bsum zs i<=65280 * i
 | 0=>by simp [bsum]
 | i + 1=>by
   have ih:=bsum_bd h i
   have hg:=h.get (by omega) i
   simp only [bsum]
   split <;> omega
theorem wsum_take (zs : List Int) (k : Nat) (h : 2 * k < zs.length) : wsum (zs.take (2 * k + 2))=wsum (zs.take (2 * k)) + wordAt zs (2 * k):=by
 unfold wsum
 rw [wordsOf_take_succ zs k h,isum_append]
 simp [isum]
theorem bsum_even (zs : List Int) : ∀ k,2 * k<=zs.length + 1->bsum zs (2 * k)=wsum (zs.take (2 * k))
 | 0,_=>rfl
 | k + 1,h=>by
   rw [show 2 * (k + 1)=2 * k + 1 + 1 from by omega]
   simp only [bsum]
   rw [bsum_even zs k (by omega),if_pos (by omega),if_neg (by omega),wsum_take zs k (by omega)]
   unfold wordAt
   omega
theorem bsum_all (zs : List Int) : bsum zs zs.length=wsum zs:=by
 rcases Nat.mod_two_eq_zero_or_one zs.length with h | h
 ·have:=bsum_even zs (zs.length / 2) (by omega)
  rw [show 2 * (zs.length / 2)=zs.length from by omega,List.take_length] at this
  exact this
 ·have:=bsum_even zs (zs.length / 2 + 1) (by omega)
  rw [show 2 * (zs.length / 2 + 1)=zs.length + 1 from by omega] at this
  simp only [bsum] at this
  rw [List.take_of_length_le (by omega)] at this
  rw [<- this,if_neg (by omega),List.getElem?_eq_none (by omega)]
  simp
set_option maxHeartbeats 800000 in
theorem rSum_any (A : Option Addr) (n c : Nat) (zs : List Int) (w : World) (h : RD .u8 w w.heap.size A n zs) (hz : BD 255 zs) (hn : n<=140737488355328) :
 Calls Tryz.prog 48 #[.slice A n c] w fun e w'=>e = .returned (.int .i64 (sumOf zs))∧w=w':=by
 have HL:=Lib.hid h.1
 go_enter Tryz.func48,Tryz.ntmps48
 go_wp2
 go_loop [3,4] (fun s i=>∃ k : Nat,k<=n∧i = .int .i64 k∧s = .int .i64 (bsum zs k)) (fun _ i=>n - (intOf i).toNat)
 case atStart=>exact ⟨0,Nat.zero_le _,rfl,rfl⟩
 case round =>
  obtain ⟨k,hk,rfl,rfl⟩:=hrel
  obtain ⟨hs1,hs2⟩:=bsum_bd hz k
  by_cases hlt : k < n
  ·obtain ⟨b,off,rfl,hB,hc⟩:=h.2 (by omega)
   have hcell:=hc k hlt
   obtain ⟨hz1,hz2⟩:=hz.get (by omega) k
   clear hc
   rcases Nat.mod_two_eq_zero_or_one k with hm | hm
   ·have hm' : ((k : Int) % 2 == 0)=true:=by simp;omega
    have HS:=Lib.hid (show bsum zs (k + 1)=bsum zs k + 256 * zs[k]?.getD 0 by simp only [bsum];rw [if_pos hm])
    clear hm
    go_wp2_with fail
    go_round
    case rel=>exact ⟨k + 1,by omega,by go_num,by rw [HS.out]⟩
    case measure=>simp [intOf];omega
   ·have hm' : ((k : Int) % 2 == 0)=false:=by simp;omega
    have HS:=Lib.hid (show bsum zs (k + 1)=bsum zs k + zs[k]?.getD 0 by simp only [bsum];rw [if_neg (by omega)])
    clear hm
    go_wp2_with fail
    go_round
    case rel=>exact ⟨k + 1,by omega,by go_num,by rw [HS.out]⟩
    case measure=>simp [intOf];omega
  ·have HK:=Lib.hid (show bsum zs k=wsum zs by rw [<- bsum_all,HL.out,show k=n by omega])
   go_wp2_with fail
   refine (rFold_any _ w hs1 (by omega)).mono ?_
   rintro e w' ⟨rfl,rfl⟩
   rw [HK.out,<- sumOf_eq hz]
   go_wp2_with fail
   go_ret
   exact ⟨rfl,rfl⟩
set_option maxHeartbeats 400000 in
theorem rOf_any (A : Option Addr) (n c : Nat) (zs : List Int) (w : World) (h : RD .u8 w w.heap.size A n zs) (hz : BD 255 zs) (hn : n<=140737488355328) :
 Calls Tryz.prog 89 #[.slice A n c] w fun e w'=>e = .returned (.int .i64 (65535 - sumOf zs))∧w=w':=by
 obtain ⟨hs1,hs2⟩:=sumOf_bd zs hz
 go_enter Tryz.func89,Tryz.ntmps89
 go_wp2_with (go_at_call 48;refine (rSum_any _ _ _ zs _ h hz hn).mono ?_;rintro e w' ⟨rfl,rfl⟩)
 go_ret
 exact ⟨rfl,rfl⟩
theorem SP.appRow {w0 w w' : World} {L : List IT} (H : SP w0 w L) (i : Nat) {e : TypeId} {m : Nat} {A A' : Option Addr} {n c n' c' : Nat} {vs vs' : List Value} (hi : L[i]?=some (.row e m A n c vs))
 (ho : w'.ownsRow w0.heap.size e m (.slice A' n' c') n' vs') (hg : w.grownBy w' (A.map (·.block))) (hat : A'.map (·.block)=A.map (·.block)∨A'.map (·.block)=some w.heap.size) :
 SP w0 w' (L.set i (.row e m A' n' c' vs')):=by
 refine H.upd hi ((Below.refl _ w).grown hg H.size fun k hk=>((H.all i _ hi).lt hk).1) ho ?_ fun b hb hne=>hg.block b hb (fun h=>hne h.symm)
 rcases hat with h | h
 ·exact .inl h
 ·exact .inr fun g hg=>by
   have : some w.heap.size=some g:=h.symm.trans hg
   simp at this;omega
theorem step_append_row {P : Program} (w : World) {ops : Array Oper} {o : Oper} {a : Act} {K : Act->World->Prop} {Q : Exit->Act->World->Prop} {E : Prop} (hgd : o.guard=none) (s x : Operand) (t : TypeId)
 (ho : o.op = .call { callee:=.builtin .append,args:=#[s,x],argTypes:=#[t,t] })
 (base : Nat) (e : TypeId) (i : TypeInfo) (z : Value) (size bytes : Nat) (ht : P.underlying t=some (.slice e)) (hi : P.info? e=some i) (hz : i.zero=some z)
 (hsize : i.size=size) (hby : i.bytes=bytes) (hzs : z.cells.size=size) (hsz : 0 < size)
 (A : Option Addr) (n c : Nat) (xs : List Value) (hs : a.eval s = .slice A n c) (hown : w.ownsRow base e size (.slice A n c) n xs)
 (ad : Addr) (m c2 : Nat) (news : List Value) (hx : a.eval x = .slice (some ad) m c2) (hl : news.length=m * size) (hnews : ∀ j u,news[j]?=some u->w.cell? (ad.add j)=some u) (h1 : ∀ u ∈ news,u.oneCell'=true)
 (h63 : n + m<=maxLen) (hbytes : (n + m) * bytes<=140737488355328) (hbase : base<=w.heap.size)
 (h : ∀ A' c' w',w'.ownsRow base e size (.slice A' (n + m) c') (n + m) (xs++news)->w.grownBy w' (A.map (·.block))->(A'.map (·.block)=A.map (·.block)∨A'.map (·.block)=some w.heap.size)->K (a.put o.dst (.slice A' (n + m) c')) w') :
 if Region.wanted o (yielded ops a.tmps)=true then Oper.wp P o a w K Q else E:=by
 have blk : ∀ (A : Option Addr) (n c : Nat),Value.ownBlock (.slice A n c)=A.map (·.block):=fun A n c=>by cases A <;> rfl
 have hw : Region.wanted o (yielded ops a.tmps)=true:=by simp [Region.wanted,hgd]
 rw [if_pos hw]
 obtain ⟨v',w',hr,h2,h3,h4,h5⟩:=run_append_own_at (P:=P) w base t o.type e i z size bytes ht hi hz hsize hby hzs hsz (.slice A n c) n xs hown ad m c2 news hl hnews h1 h63 hbytes hbase
 obtain ⟨A',c',rfl⟩ : ∃ A' c',v' = .slice A' (n + m) c':=by
  rcases h2.2 with ⟨rfl,e0⟩ | ⟨g,cap,cur,rfl,_⟩
  ·exact ⟨none,0,by rw [e0]⟩
  ·exact ⟨_,_,rfl⟩
 rw [blk] at h3
 rw [blk,blk] at h5
 unfold Oper.wp execOp
 simp only [ho,resolve,invoke,builtin,Sem.run_bind,Sem.run_pure,Result.andThen_ok,List.map_toArray,List.map_cons,List.map_nil,hs,hx,hr]
 exact h A' c' w' h2 h3 h5
end Go.Proofs.YtljbfnabnkkfeaaGreat
