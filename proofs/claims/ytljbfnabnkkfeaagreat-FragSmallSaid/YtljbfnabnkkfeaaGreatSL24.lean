import Derived.Test.YtljbfnabnkkfeaaGreatSL18
import Derived.Test.YtljbfnabnkkfeaaGreatSL23
set_option linter.unusedVariables false
set_option linter.unusedSimpArgs false
/- Joined by program: FgYI, FgYC. -/
namespace Go.Proofs.YtljbfnabnkkfeaaGreat
open Go.RowKit
set_option maxHeartbeats 4000000 in
set_option maxRecDepth 100000 in
theorem r7put_45 {u0 u1 u2 u4 u5 u7 u8 u9 u10 u11 u12 u14 u15 u17 u18 u19 u20 u21 u22 u23 u24 u25 u26 u27 u28 u29 u30 u31 u32 u33 u34 u35 u36 u37 u38 u39 u40 u41 u42 u43 u44 u45 u46 u47 u48 u49 u50 u51 u52 u53 u54 u55 u56 u57 u58 u59 u60 u61 u62 u63 u64 u65 u66 u67 u68 u69 u70 u71 u72 u73 u74 u75 u76 u77 u78 u79 u80 u81 u82 u83 u84 u85 u86 u87 u88 u89 u90 u91 u92 u93 u94 u95 u96 u97 u98 u99 u100 u101 u102 u103 u104 u105 u106 u107 u108 u109 u110 u111 u112 u113 u114 u115 u116 u117 u118 u119 u120 u121 u122 u123 u124 u125 u126 u127 u128 u129 u130 u131 u132 u133 u134 u135 u136 u137 u138 u139 u140 u141 u142 u143 u144 u145 u146 u147 u148 u149 u150 u151 u152 u153 u154 u155 u156 u157 u158 u159 u160 u161 u162 u163 u164 u165 u166 u167 u168 u169 u170 u171 u172 u173 u174 u175 u176 u177 u178 u179 u180 u181 u182 u183 u184 u185 u186 u187 u188 u189 u190 u191 u192 u193 u194 u195 u196 u197 u198 u199 u200 u201 u202 u203 u204 u205 u206 u207 u208 u209 u210 u211 u212 u213 u214 u215 u216 u217 u218 u219 u220 u221 u222 u223 u224 u225 u226 u227 u228 u229 u230 u231 u232 u233 u234 u235 u236 u237 u238 u239 u240 u241 u242 u243 u244 u245 u246 u247 u248 u249 u250 u251 u252 u253 u254 u255 u256 u257 u258 u259 u260 u261 u262 u263 u264 u265 u266 u267 u268 u269 u270 u271 u272 u273 u274 u275 u276 u277 : Value} (w : World) (a : AT) (r : RT) (now : Int) (zs : List Int) (K : Nat) (A : Option Addr) (n : Nat) (l : List EM) (k : Nat) (A3 : Option Addr) (n3 c3 : Nat) (l3 : List EM) (RQ : List IT) (x xm : EM) (gs : List AG) (ag : AG) (lm lf : Int) (TB RB HB XB : Nat) (HC : Array Value)
 (HA : Hid (ADDF w a r now zs K A n l k A3 n3 c3 l3 RQ x xm gs ag lm lf)) (SZ : Nat) (sp fu dd : Bool) (hsz : Hid (sizeF (x.e.fs++[frOf zs])=SZ)) (hsp : Hid (decide (¬ GOODF (x.e.fs++[frOf zs]))=sp)) (hfu : Hid ((!sp && decide ((totF (x.e.fs++[frOf zs])).1=(SZ : Int)))=fu))
 (hdd : Hid ((dd=true->fu=true∧addA gs k (frOf zs)=(gs.set k (deadG ag),[],71)∧RELS (gs.set k (deadG ag)) ((l3.map EM.e).set k (deadE x.e)))∧(dd=false->fu=false))) (w1 : World) (X1 : Hid (SP w w1 ([.blk XB 125 #[.int .u32 x.e.src,.int .u32 x.e.dst,.int .u8 x.e.proto,.int .u16 x.e.id,.int .i64 x.e.begin_,.int .i64 (SZ : Int),.bool dd,.slice xm.fA xm.fn xm.fc],.blk TB 70 #[.int .i64 lm,.int .i64 lf,.int .i64 now,.slice A3 n3 c3],.blk RB 70 #[.int .i64 0,.int .i64 0,.int .i64 0,.slice none 0 0],.blk HB 58 HC]++RQ))) :
 Code.wp Tryz.prog (sufAt Tryz.f27 45) (bodyPost Tryz.prog Tryz.f27 (PUTE a now zs K A n l w)) ⟨List.toArray (u0::u1::u2::.pointer (some ⟨TB,0,none⟩)::u4::u5::.pointer (some ⟨RB,0,none⟩)::u7::u8::u9::u10::u11::u12::.int .i64 (k : Int)::u14::u15::.pointer (some ⟨XB,0,none⟩)::u17::u18::u19::u20::u21::u22::u23::u24::u25::u26::u27::u28::u29::u30::u31::u32::u33::u34::u35::u36::u37::u38::u39::u40::u41::u42::u43::u44::u45::u46::u47::u48::u49::u50::u51::u52::u53::u54::u55::u56::u57::u58::u59::u60::u61::u62::u63::u64::u65::u66::u67::u68::u69::u70::u71::u72::u73::u74::u75::u76::u77::u78::u79::u80::u81::u82::u83::u84::u85::u86::u87::u88::u89::u90::u91::u92::u93::u94::u95::u96::u97::u98::u99::u100::u101::u102::u103::u104::u105::u106::u107::u108::u109::u110::u111::u112::u113::u114::u115::u116::u117::u118::u119::u120::u121::u122::u123::u124::u125::u126::u127::u128::u129::u130::u131::u132::u133::u134::u135::u136::u137::u138::u139::u140::u141::u142::u143::u144::u145::u146::u147::u148::u149::u150::u151::u152::u153::u154::u155::u156::u157::u158::u159::u160::u161::u162::u163::u164::u165::u166::u167::u168::u169::u170::u171::u172::u173::u174::u175::u176::u177::u178::u179::u180::u181::u182::u183::u184::u185::u186::u187::u188::u189::u190::u191::u192::u193::u194::u195::u196::u197::u198::u199::u200::u201::u202::u203::u204::u205::u206::u207::u208::u209::u210::u211::u212::u213::u214::u215::u216::u217::u218::u219::u220::u221::u222::u223::u224::u225::u226::u227::u228::u229::u230::u231::u232::u233::u234::u235::u236::u237::u238::u239::u240::u241::u242::u243::u244::u245::u246::u247::u248::u249::u250::u251::u252::u253::u254::u255::u256::u257::u258::u259::u260::u261::u262::u263::u264::u265::u266::u267::u268::u269::u270::u271::u272::u273::u274::u275::u276::u277::[]),[]⟩ w1:=by
 conv=>arg 2;whnf
 have hk:=HA.out.hk
 have hm3:=HA.out.hm
 have hcap:=HA.out.cap
 have hnK:=HA.out.hn
 have hKK:=HA.out.hK
 have hxfn:=HA.out.xfn
 obtain ⟨FL,hFL⟩ : ∃ v,x.e.fs++[frOf zs]=v:=⟨_,rfl⟩
 have HFL:=Lib.hid hFL
 rw [hFL] at hsz hsp hfu
 clear hFL
 have HSP:=Lib.hid (show ∀ W,SP w W RQ->Calls Tryz.prog 56 #[.slice xm.fA xm.fn xm.fc] W (fun e w'=>e = .returned (.bool sp)∧∃ m,w'=W.drewN m) from fun W h=>by
  have h2:=r7spoilt_any xm.fA xm.fn xm.fc xm.fs W (HA.out.frow W h) (by omega)
  rw [HA.out.xfs,HFL.out,hsp.out] at h2
  exact h2)
 obtain ⟨sd,hsd⟩ : ∃ b,(sp || dd)=b:=⟨_,rfl⟩
 have HSD:=Lib.hid hsd
 clear hsd
 go_upto_region 45 with fail
 go_cut [251] (fun s251 wx=>s251 = .bool sd∧SP w wx ([.blk XB 125 #[.int .u32 x.e.src,.int .u32 x.e.dst,.int .u8 x.e.proto,.int .u16 x.e.id,.int .i64 x.e.begin_,.int .i64 (SZ : Int),.bool dd,.slice xm.fA xm.fn xm.fc],.blk TB 70 #[.int .i64 lm,.int .i64 lf,.int .i64 now,.slice A3 n3 c3],.blk RB 70 #[.int .i64 0,.int .i64 0,.int .i64 0,.slice none 0 0],.blk HB 58 HC]++RQ))
 case first =>
  have x7 : w1.cell? ⟨XB,7,none⟩=some (.slice xm.fA xm.fn xm.fc):=X1.out.cell 0 rfl 7 rfl
  have x6 : w1.cell? ⟨XB,6,none⟩=some (.bool dd):=X1.out.cell 0 rfl 6 rfl
  go_wp2_with fail
  refine (HSP.out _ X1.out.right).mono ?_
  rintro e wa ⟨rfl,m3,rfl⟩
  have X2:=Lib.hid (X1.out.drewN m3)
  cases sp
  ·go_wp2_with fail
   go_meet
   exact ⟨by rw [<- HSD.out];rfl,X2.out⟩
  ·go_wp2_with fail
   go_meet
   exact ⟨by rw [<- HSD.out];rfl,X2.out⟩
 case rest =>
 obtain ⟨rfl,hX⟩:=hcut
 have X3:=Lib.hid hX
 clear hX X1 HSP
 cases sd
 case true =>
  have q6 : wc.frozen? ⟨XB,6,none⟩=false:=X3.out.free 0 rfl 6
  have q5 : wc.frozen? ⟨XB,5,none⟩=false:=X3.out.free 0 rfl 5
  have q7 : wc.frozen? ⟨XB,7,none⟩=false:=X3.out.free 0 rfl 7
  have x6 : wc.cell? ⟨XB,6,none⟩=some (.bool dd):=X3.out.cell 0 rfl 6 rfl
  have x5 : wc.cell? ⟨XB,5,none⟩=some (.int .i64 (SZ : Int)):=X3.out.cell 0 rfl 5 rfl
  have x7 : wc.cell? ⟨XB,7,none⟩=some (.slice xm.fA xm.fn xm.fc):=X3.out.cell 0 rfl 7 rfl
  have X4:=Lib.hid (((X3.out.setB 0 rfl 6 (.bool true)).setB 0 rfl 5 (.int .i64 0)).setB 0 rfl 7 (.slice none 0 0))
  go_upto_region 47 with fail
  have X5:=Lib.hid (show SP w (((wc.setCell ⟨XB,6,none⟩ (.bool true)).setCell ⟨XB,5,none⟩ (.int .i64 0)).setCell ⟨XB,7,none⟩ (.slice none 0 0)) ([.blk XB 125 #[.int .u32 (deadE x.e).src,.int .u32 (deadE x.e).dst,.int .u8 (deadE x.e).proto,.int .u16 (deadE x.e).id,.int .i64 (deadE x.e).begin_,.int .i64 ((deadE x.e).bytes : Int),.bool (deadE x.e).dead,.slice none 0 0],.blk TB 70 #[.int .i64 lm,.int .i64 lf,.int .i64 now,.slice A3 n3 c3],.blk RB 70 #[.int .i64 0,.int .i64 0,.int .i64 0,.slice none 0 0],.blk HB 58 HC]++RQ) from X4.out)
  generalize ((wc.setCell ⟨XB,6,none⟩ (.bool true)).setCell ⟨XB,5,none⟩ (.int .i64 0)).setCell ⟨XB,7,none⟩ (.slice none 0 0)=wd at X5 ⊢
  clear X3 X4 q5 q6 q7 x5 x6 x7
  have Z1:=Lib.hid (show SP w _ ([.blk TB 70 #[.int .i64 lm,.int .i64 lf,.int .i64 now,.slice A3 n3 c3],.blk XB 125 #[.int .u32 (deadE x.e).src,.int .u32 (deadE x.e).dst,.int .u8 (deadE x.e).proto,.int .u16 (deadE x.e).id,.int .i64 (deadE x.e).begin_,.int .i64 ((deadE x.e).bytes : Int),.bool (deadE x.e).dead,.slice none 0 0]]++([.blk RB 70 #[.int .i64 0,.int .i64 0,.int .i64 0,.slice none 0 0],.blk HB 58 HC]++RQ)) from SP.pickT (A:=[_,_,_,_]) (B:=[_,_,_,_]) (C:=RQ) X5.out [1,0,2,3] rfl (by decide))
  refine wp_region_noPanic ?_
  refine wp_region_held_drew (S:=r7zS w TB XB lm lf now A3 n3 c3 l3 k ((deadE x.e)) none 0 0 ([.blk RB 70 #[.int .i64 0,.int .i64 0,.int .i64 0,.slice none 0 0],.blk HB 58 HC]++RQ)) (by kernel_rfl) (Z1.out.drew.blk 1 rfl) (fun hHeld=>?_)
  clear hHeld
  refine r7z_0 (Lib.hid ⟨fun W h=>HA.out.er W h.right,by omega,hcap,hk⟩) (Lib.hid ?_) _ (Lib.hid Z1.out.drew)
  intro y257 y258 y259 y260 y261 y262 y263 y264 y265 y266 y267 y268 y269 y270 y271 y272 g257 A262 c262 g264 A265 c265 A271 c271 w12 hX12
  have Z2:=Lib.hid (SP.pickT (A:=[_,_,_,_,_]) (B:=[.blk TB 70 #[.int .i64 lm,.int .i64 lf,.int .i64 now,.slice A271 (k + 1 + (n3 - (k + 1))) c271],.blk RB 70 #[.int .i64 0,.int .i64 0,.int .i64 0,.slice none 0 0],.row 125 8 A271 (k + 1 + (n3 - (k + 1))) c271 _,.blk XB 125 #[.int .u32 (deadE x.e).src,.int .u32 (deadE x.e).dst,.int .u8 (deadE x.e).proto,.int .u16 (deadE x.e).id,.int .i64 (deadE x.e).begin_,.int .i64 ((deadE x.e).bytes : Int),.bool (deadE x.e).dead,.slice none 0 0]]) (C:=RQ) (show SP w w12 ([_,_,_,_,_]++RQ) from SP.pickT (A:=[_,_,_,_,_]) (B:=[_,_,_,_,_]) (C:=RQ) hX12 [0,1,2,3,4] rfl (by decide)) [0,3,2,1] rfl (by decide))
  clear hX12 Z1 X5
  have z6 : w12.cell? ⟨XB,6,none⟩=some (.bool true):=Z2.out.cell 3 rfl 6 rfl
  go_wp2_with (first
   | (refine wpList_load_row rfl 70 _ rfl TB rfl 70 #[.int .i64 lm,.int .i64 lf,.int .i64 now,.slice A271 (k + 1 + (n3 - (k + 1))) c271] (0,0) _ (Z2.out.blk 0 rfl) Tryz.underlying70 rfl (by kernel_rfl) ?_)
   | (refine wpList_store_row rfl 70 _ _ rfl RB #[.int .i64 lm,.int .i64 lf,.int .i64 now,.slice A271 (k + 1 + (n3 - (k + 1))) c271] rfl rfl 70 #[.int .i64 0,.int .i64 0,.int .i64 0,.slice none 0 0] (Z2.out.blk 1 rfl) (by kernel_rfl) rfl (by simp [Value.oneCell']) ?_))
  have Z3:=Lib.hid (Z2.out.setR 1 rfl #[.int .i64 lm,.int .i64 lf,.int .i64 now,.slice A271 (k + 1 + (n3 - (k + 1))) c271])
  refine bodyPost_ret (results_cell_tmp27 rfl _ _ RB 70 _ (0,0) _ rfl (Z3.out.blk 1 rfl) Tryz.underlying70 rfl (by kernel_rfl)) rfl ?_
  have hRQ:=(show SP w _ (([_,_,_,_] : List IT)++RQ) from Z3.out).right
  have hrow:=Z3.out.row 2 rfl
  have hcells : (l3.take k).flatMap EM.cells++[.int .u32 (deadE x.e).src,.int .u32 (deadE x.e).dst,.int .u8 (deadE x.e).proto,.int .u16 (deadE x.e).id,.int .i64 (deadE x.e).begin_,.int .i64 ((deadE x.e).bytes : Int),.bool (deadE x.e).dead,.slice none 0 0]++(l3.drop (k + 1)).flatMap EM.cells=(l3.take k++[x.dead]++l3.drop (k + 1)).flatMap EM.cells:=by
   rw [List.flatMap_append,List.flatMap_append]
   congr 2
  rw [hcells] at hrow
  have hes:=ems_set (l:=l3) (k:=k) (by rw [HA.out.len];exact hk) (x.dead)
  have hlen : (l3.take k++[x.dead]++l3.drop (k + 1)).length=k + 1 + (n3 - (k + 1)):=by
   rw [List.length_append,List.length_append,List.length_take,List.length_drop,HA.out.len]
   simp only [List.length_cons,List.length_nil]
   omega
  have hok : ∀ y ∈ l3.take k++[x.dead]++l3.drop (k + 1),EMOK _ y:=fun y hy=>by
   rcases set_mem hy with h | rfl
   ·exact (HA.out.er _ hRQ).ok y h
   ·exact em_dead_ok _ _
  have hadd:=(show addA gs k (frOf zs)=(gs.set k (deadG ag),[],71)∧RELS (gs.set k (deadG ag)) ((l3.map EM.e).set k (deadE x.e)) from by
   cases dd
   ·have hs : sp=true:=by have:=HSD.out;simpa using this
    have hG : ¬ GOODF (x.e.fs++[frOf zs]):=of_decide_eq_true (by rw [HFL.out,hsp.out,hs])
    exact addR_spoilt HA.out.rels HA.out.hag HA.out.he HA.out.dead HA.out.ok hG
   ·exact (hdd.out.1 (by first | rfl | trivial)).2)
  refine ⟨_,A271,_,c271,_,none,0,0,?_,HA.out.ended Z3.out.bel hadd.1 (by rw [hes];exact hadd.2) hrow hlen (by omega) hok (fun y hy=>?_) (fun p hp=>?_) RD.nil (fun h=>absurd h (Nat.lt_irrefl 0))⟩
  ·rw [HA.out.val,HA.out.put,hadd.1];rfl
  ·rcases set_mem hy with h | rfl
   ·exact .inl h
   ·exact .inr (.inr rfl)
  ·subst hp
   exact (Z3.out.ltm (x:=.row 125 8 (some p) _ c271 _) (List.mem_of_getElem? (i:=2) rfl) rfl).1
 case false =>
  have hs : sp=false∧dd=false:=by have:=HSD.out;simpa using this
  obtain ⟨rfl,rfl⟩:=hs
  have X5:=Lib.hid (show SP w wc ([.blk XB 125 #[.int .u32 xm.e.src,.int .u32 xm.e.dst,.int .u8 xm.e.proto,.int .u16 xm.e.id,.int .i64 xm.e.begin_,.int .i64 (xm.e.bytes : Int),.bool xm.e.dead,.slice xm.fA xm.fn xm.fc],.blk TB 70 #[.int .i64 lm,.int .i64 lf,.int .i64 now,.slice A3 n3 c3],.blk RB 70 #[.int .i64 0,.int .i64 0,.int .i64 0,.slice none 0 0],.blk HB 58 HC]++RQ) from by
   have h1:=X3.out
   have e1 : xm.e.src=x.e.src:=by rw [HA.out.xe];rfl
   have e2 : xm.e.dst=x.e.dst:=by rw [HA.out.xe];rfl
   have e3 : xm.e.proto=x.e.proto:=by rw [HA.out.xe];rfl
   have e4 : xm.e.id=x.e.id:=by rw [HA.out.xe];rfl
   have e5 : xm.e.begin_=x.e.begin_:=by rw [HA.out.xe];rfl
   have e6 : xm.e.bytes=SZ:=by rw [HA.out.xe,<- hsz.out,<- HFL.out];rfl
   have e7 : xm.e.dead=false:=by rw [HA.out.xe];exact HA.out.dead
   rw [e1,e2,e3,e4,e5,e6,e7]
   exact h1)
  have HDX:=Lib.hid (show xm.e.dead=false by rw [HA.out.xe];exact HA.out.dead)
  clear X3
  go_upto_region 47 with fail
  have Z1:=Lib.hid (show SP w _ ([.blk TB 70 #[.int .i64 lm,.int .i64 lf,.int .i64 now,.slice A3 n3 c3],.blk XB 125 #[.int .u32 xm.e.src,.int .u32 xm.e.dst,.int .u8 xm.e.proto,.int .u16 xm.e.id,.int .i64 xm.e.begin_,.int .i64 (xm.e.bytes : Int),.bool xm.e.dead,.slice xm.fA xm.fn xm.fc]]++([.blk RB 70 #[.int .i64 0,.int .i64 0,.int .i64 0,.slice none 0 0],.blk HB 58 HC]++RQ)) from SP.pickT (A:=[_,_,_,_]) (B:=[_,_,_,_]) (C:=RQ) X5.out [1,0,2,3] rfl (by decide))
  refine wp_region_noPanic ?_
  refine wp_region_held_drew (S:=r7zS w TB XB lm lf now A3 n3 c3 l3 k (xm.e) xm.fA xm.fn xm.fc ([.blk RB 70 #[.int .i64 0,.int .i64 0,.int .i64 0,.slice none 0 0],.blk HB 58 HC]++RQ)) (by kernel_rfl) (Z1.out.drew.blk 1 rfl) (fun hHeld=>?_)
  clear hHeld
  refine r7z_0 (Lib.hid ⟨fun W h=>HA.out.er W h.right,by omega,hcap,hk⟩) (Lib.hid ?_) _ (Lib.hid Z1.out.drew)
  intro y257 y258 y259 y260 y261 y262 y263 y264 y265 y266 y267 y268 y269 y270 y271 y272 g257 A262 c262 g264 A265 c265 A271 c271 w12 hX12
  have Z2:=Lib.hid (SP.pickT (A:=[_,_,_,_,_]) (B:=[.blk TB 70 #[.int .i64 lm,.int .i64 lf,.int .i64 now,.slice A271 (k + 1 + (n3 - (k + 1))) c271],.blk RB 70 #[.int .i64 0,.int .i64 0,.int .i64 0,.slice none 0 0],.row 125 8 A271 (k + 1 + (n3 - (k + 1))) c271 _,.blk XB 125 #[.int .u32 xm.e.src,.int .u32 xm.e.dst,.int .u8 xm.e.proto,.int .u16 xm.e.id,.int .i64 xm.e.begin_,.int .i64 (xm.e.bytes : Int),.bool xm.e.dead,.slice xm.fA xm.fn xm.fc]]) (C:=RQ) (show SP w w12 ([_,_,_,_,_]++RQ) from SP.pickT (A:=[_,_,_,_,_]) (B:=[_,_,_,_,_]) (C:=RQ) hX12 [0,1,2,3,4] rfl (by decide)) [0,3,2,1] rfl (by decide))
  clear hX12 Z1 X5
  have z6 : w12.cell? ⟨XB,6,none⟩=some (.bool false):=by rw [<- HDX.out];exact Z2.out.cell 3 rfl 6 rfl
  go_wp2_with (first
   | (refine wpList_load_row rfl 70 _ rfl TB rfl 70 #[.int .i64 lm,.int .i64 lf,.int .i64 now,.slice A271 (k + 1 + (n3 - (k + 1))) c271] (0,0) _ (Z2.out.blk 0 rfl) Tryz.underlying70 rfl (by kernel_rfl) ?_)
   | (refine wpList_store_row rfl 70 _ _ rfl RB #[.int .i64 lm,.int .i64 lf,.int .i64 now,.slice A271 (k + 1 + (n3 - (k + 1))) c271] rfl rfl 70 #[.int .i64 0,.int .i64 0,.int .i64 0,.slice none 0 0] (Z2.out.blk 1 rfl) (by kernel_rfl) rfl (by simp [Value.oneCell']) ?_))
  have Z3:=Lib.hid (Z2.out.setR 1 rfl #[.int .i64 lm,.int .i64 lf,.int .i64 now,.slice A271 (k + 1 + (n3 - (k + 1))) c271])
  refine bodyPost_ret (results_cell_tmp27 rfl _ _ RB 70 _ (0,0) _ rfl (Z3.out.blk 1 rfl) Tryz.underlying70 rfl (by kernel_rfl)) rfl ?_
  have hRQ:=(show SP w _ (([_,_,_,_] : List IT)++RQ) from Z3.out).right
  have hrow:=Z3.out.row 2 rfl
  have hcells : (l3.take k).flatMap EM.cells++[.int .u32 xm.e.src,.int .u32 xm.e.dst,.int .u8 xm.e.proto,.int .u16 xm.e.id,.int .i64 xm.e.begin_,.int .i64 (xm.e.bytes : Int),.bool xm.e.dead,.slice xm.fA xm.fn xm.fc]++(l3.drop (k + 1)).flatMap EM.cells=(l3.take k++[xm]++l3.drop (k + 1)).flatMap EM.cells:=by
   rw [List.flatMap_append,List.flatMap_append]
   congr 2
  rw [hcells] at hrow
  have hes:=ems_set (l:=l3) (k:=k) (by rw [HA.out.len];exact hk) (xm)
  have hlen : (l3.take k++[xm]++l3.drop (k + 1)).length=k + 1 + (n3 - (k + 1)):=by
   rw [List.length_append,List.length_append,List.length_take,List.length_drop,HA.out.len]
   simp only [List.length_cons,List.length_nil]
   omega
  have hok : ∀ y ∈ l3.take k++[xm]++l3.drop (k + 1),EMOK _ y:=fun y hy=>by
   rcases set_mem hy with h | rfl
   ·exact (HA.out.er _ hRQ).ok y h
   ·exact HA.out.em _ hRQ
  have hadd:=(show addA gs k (frOf zs)=(gs.set k (putG ag (frOf zs)),[],0)∧RELS (gs.set k (putG ag (frOf zs))) ((l3.map EM.e).set k xm.e) from by
   have hG : GOODF (x.e.fs++[frOf zs]):=by
    have h1:=hsp.out
    rw [<- HFL.out] at h1
    exact Classical.not_not.1 (of_decide_eq_false h1)
   have hne : (totF (x.e.fs++[frOf zs])).1≠(sizeF (x.e.fs++[frOf zs]) : Int):=by
    have h1:=hfu.out
    rw [hdd.out.2 (by first | rfl | trivial)] at h1
    have h2 : decide ((totF FL).1=(SZ : Int))=false:=by simpa using h1
    rw [HFL.out,hsz.out]
    exact of_decide_eq_false h2
   rw [HA.out.xe]
   exact addR_more HA.out.rels HA.out.hag HA.out.he HA.out.dead HA.out.ok HA.out.part hG hne)
  refine ⟨_,A271,_,c271,_,none,0,0,?_,HA.out.ended Z3.out.bel hadd.1 (by rw [hes];exact hadd.2) hrow hlen (by omega) hok (fun y hy=>?_) (fun p hp=>?_) RD.nil (fun h=>absurd h (Nat.lt_irrefl 0))⟩
  ·rw [HA.out.val,HA.out.put,hadd.1];rfl
  ·rcases set_mem hy with h | rfl
   ·exact .inl h
   ·exact .inr (.inl rfl)
  ·subst hp
   exact (Z3.out.ltm (x:=.row 125 8 (some p) _ c271 _) (List.mem_of_getElem? (i:=2) rfl) rfl).1
attribute [local go_sem ↓] Go.wp_at_zero Go.wp_at_succ
structure r7yP (w0 : World) (TB : Nat) (limit life now : Int) (A : Option Addr) (n c : Nat) (l : List EM) (k : Nat) (RO : List IT) : Prop where
 er : ∀ W,SP w0 W RO->EROW W A n c l
 hn : n<=100000
 hc : n<=c
 hk : k < n
def r7yS (w0 : World) (TB : Nat) (limit life now : Int) (A : Option Addr) (n c : Nat) (l : List EM) (k : Nat) (RO : List IT) : World->Prop:=fun _=>True
set_option maxRecDepth 100000 in
def r7yF (w0 : World) (TB : Nat) (limit life now : Int) (A : Option Addr) (n c : Nat) (l : List EM) (k : Nat) (RO : List IT) (Fr : Value->Value->Value->Value->Value->Value->Value->Value->Value->Value->Value->Value->Value->Act) : Prop:=∃ u : Nat->Value,∀ y227 y228 y229 y230 y231 y232 y233 y234 y235 y236 y237 y238 y239,Fr y227 y228 y229 y230 y231 y232 y233 y234 y235 y236 y237 y238 y239=⟨List.toArray (u 0::u 1::u 2::.pointer (some ⟨TB,0,none⟩)::u 4::u 5::u 6::u 7::u 8::u 9::u 10::u 11::u 12::.int .i64 (k : Int)::u 14::u 15::u 16::u 17::u 18::u 19::u 20::u 21::u 22::u 23::u 24::u 25::u 26::u 27::u 28::u 29::u 30::u 31::u 32::u 33::u 34::u 35::u 36::u 37::u 38::u 39::u 40::u 41::u 42::u 43::u 44::u 45::u 46::u 47::u 48::u 49::u 50::u 51::u 52::u 53::u 54::u 55::u 56::u 57::u 58::u 59::u 60::u 61::u 62::u 63::u 64::u 65::u 66::u 67::u 68::u 69::u 70::u 71::u 72::u 73::u 74::u 75::u 76::u 77::u 78::u 79::u 80::u 81::u 82::u 83::u 84::u 85::u 86::u 87::u 88::u 89::u 90::u 91::u 92::u 93::u 94::u 95::u 96::u 97::u 98::u 99::u 100::u 101::u 102::u 103::u 104::u 105::u 106::u 107::u 108::u 109::u 110::u 111::u 112::u 113::u 114::u 115::u 116::u 117::u 118::u 119::u 120::u 121::u 122::u 123::u 124::u 125::u 126::u 127::u 128::u 129::u 130::u 131::u 132::u 133::u 134::u 135::u 136::u 137::u 138::u 139::u 140::u 141::u 142::u 143::u 144::u 145::u 146::u 147::u 148::u 149::u 150::u 151::u 152::u 153::u 154::u 155::u 156::u 157::u 158::u 159::u 160::u 161::u 162::u 163::u 164::u 165::u 166::u 167::u 168::u 169::u 170::u 171::u 172::u 173::u 174::u 175::u 176::u 177::u 178::u 179::u 180::u 181::u 182::u 183::u 184::u 185::u 186::u 187::u 188::u 189::u 190::u 191::u 192::u 193::u 194::u 195::u 196::u 197::u 198::u 199::u 200::u 201::u 202::u 203::u 204::u 205::u 206::u 207::u 208::u 209::u 210::u 211::u 212::u 213::u 214::u 215::u 216::u 217::u 218::u 219::u 220::u 221::u 222::u 223::u 224::u 225::u 226::y227::y228::y229::y230::y231::y232::y233::y234::y235::y236::y237::y238::y239::u 240::u 241::u 242::u 243::u 244::u 245::u 246::u 247::u 248::u 249::u 250::u 251::u 252::u 253::u 254::u 255::u 256::u 257::u 258::u 259::u 260::u 261::u 262::u 263::u 264::u 265::u 266::u 267::u 268::u 269::u 270::u 271::u 272::u 273::u 274::u 275::u 276::u 277::[]),[]⟩
def r7yR (w0 : World) (TB : Nat) (limit life now : Int) (A : Option Addr) (n c : Nat) (l : List EM) (k : Nat) (RO : List IT) (Q : Exit->Act->World->Prop) (Fr : Value->Value->Value->Value->Value->Value->Value->Value->Value->Value->Value->Value->Value->Act) : Prop:=∀ (y227 y228 y229 y230 y231 y232 y233 y234 y235 y236 y237 y238 y239 : Value) (g227 : Nat) (A232 : Option Addr) (c232 : Nat) (A238 : Option Addr) (c238 : Nat) (w' : World),SP w0 w' ([.blk TB 70 #[.int .i64 limit,.int .i64 life,.int .i64 now,.slice A238 (k + (n - (k + 1))) c238],.row 125 8 A238 (k + (n - (k + 1))) c238 ((l.take k).flatMap EM.cells++(l.drop (k + 1)).flatMap EM.cells)]++RO)->Q .normal (Fr y227 y228 y229 y230 y231 y232 y233 y234 y235 y236 y237 y238 y239) w'
def r7yH (w0 : World) (TB : Nat) (limit life now : Int) (A : Option Addr) (n c : Nat) (l : List EM) (k : Nat) (RO : List IT) (Q : Exit->Act->World->Prop) (Fr : Value->Value->Value->Value->Value->Value->Value->Value->Value->Value->Value->Value->Value->Act) : Prop:=Hid (r7yP w0 TB limit life now A n c l k RO)∧r7yF w0 TB limit life now A n c l k RO Fr∧Hid (r7yR w0 TB limit life now A n c l k RO Q Fr)
section
variable {Q : Exit->Act->World->Prop} {y227 y228 y229 y230 y231 y232 y233 y234 y235 y236 y237 y238 y239 : Value} {w0 : World} {TB : Nat} {limit life now : Int} {A : Option Addr} {n c : Nat} {l : List EM} {k : Nat} {RO : List IT} {Fr : Value->Value->Value->Value->Value->Value->Value->Value->Value->Value->Value->Value->Value->Act}
set_option maxHeartbeats 1000000 in
set_option maxRecDepth 100000 in
theorem r7ys6 (H0 : r7yH w0 TB limit life now A n c l k RO Q Fr) (g227 : Nat) (A232 : Option Addr) (c232 : Nat) (A238 : Option Addr) (c238 : Nat) (w : World) (X : Hid (SP w0 w ([.blk TB 70 #[.int .i64 limit,.int .i64 life,.int .i64 now,.slice A238 (k + (n - (k + 1))) c238],.row 125 8 A238 (k + (n - (k + 1))) c238 ((l.take k).flatMap EM.cells++(l.drop (k + 1)).flatMap EM.cells)]++RO))) :
 wpAnyH Tryz.prog .any (opsAt Tryz.f27 42) (NoPanic Q) (r7yS w0 TB limit life now A n c l k RO) 0 #[true,true,true,true,true,true,true,true,true,true,true,true,true,true] (Fr y227 y228 y229 y230 y231 y232 y233 y234 y235 y236 y237 y238 y239) w:=by
 have H1:=Lib.hid H0
 obtain ⟨HP,⟨u,hF⟩,HQ⟩:=H0
 rw [hF]
 obtain ⟨i0,hi0,hz0,hz1,hz2⟩:=info_parts info7E
 have hn:=HP.out.hn
 have hc:=HP.out.hc
 have hk:=HP.out.hk
 have g1 : (0 : Int)<=(k : Int):=by omega
 have g2 : (k : Int)<=(c : Int):=by omega
 have e1 : IntKind.i64.wrap ((k : Int) + 1)=(k : Int) + 1:=IntWalk.i64_in _ (by omega)
 have s1:=fun W=>run_slice_loM (P:=Tryz.prog) W Tryz.underlying68 hi0 hz1 A n c ((k : Int) + 1) (k + 1) (by omega) (by omega)
 have hHeld : (r7yS w0 TB limit life now A n c l k RO) w:=by trivial
 refine wpAnyH_done (by kernel_rfl) ?_ _
 refine NoPanic.normal ?_
 rw [<- hF]
 exact HQ.out _ _ _ _ _ _ _ _ _ _ _ _ _ g227 A232 c232 A238 c238 _ X.out
set_option maxHeartbeats 1000000 in
set_option maxRecDepth 100000 in
theorem r7ys5 (H0 : r7yH w0 TB limit life now A n c l k RO Q Fr) (g227 : Nat) (A232 : Option Addr) (c232 : Nat) (A238 : Option Addr) (c238 : Nat) (w : World) (X : Hid (SP w0 w ([.blk TB 70 #[.int .i64 limit,.int .i64 life,.int .i64 now,.slice A n c],.row 125 8 A238 (k + (n - (k + 1))) c238 ((l.take k).flatMap EM.cells++(l.drop (k + 1)).flatMap EM.cells)]++RO))) :
 wpAnyH Tryz.prog .any (opsAt Tryz.f27 42) (NoPanic Q) (r7yS w0 TB limit life now A n c l k RO) 1 #[true,true,true,true,true,true,true,true,true,true,true,true,true,false] (Fr y227 y228 y229 y230 y231 y232 y233 y234 y235 y236 y237 (.slice A238 (k + (n - (k + 1))) c238) (.pointer (some ⟨TB,3,none⟩))) w:=by
 have H1:=Lib.hid H0
 obtain ⟨HP,⟨u,hF⟩,HQ⟩:=H0
 rw [hF]
 obtain ⟨i0,hi0,hz0,hz1,hz2⟩:=info_parts info7E
 have hn:=HP.out.hn
 have hc:=HP.out.hc
 have hk:=HP.out.hk
 have g1 : (0 : Int)<=(k : Int):=by omega
 have g2 : (k : Int)<=(c : Int):=by omega
 have e1 : IntKind.i64.wrap ((k : Int) + 1)=(k : Int) + 1:=IntWalk.i64_in _ (by omega)
 have s1:=fun W=>run_slice_loM (P:=Tryz.prog) W Tryz.underlying68 hi0 hz1 A n c ((k : Int) + 1) (k + 1) (by omega) (by omega)
 have hHeld : (r7yS w0 TB limit life now A n c l k RO) w:=by trivial
 refine rdy [13] ?_
 refine cons_lit rfl (fun K hK=>?ss13x68) AllReadyH.nil
 case ss13x68 =>
  have xc:=X.out.cell 0 rfl 3 rfl
  have xf:=X.out.free 0 rfl 3
  go_simp
  clear xc xf
  refine nameW' (fun v hv=>?_)
  have Y:=Lib.hid (show SP w0 v ([.blk TB 70 #[.int .i64 limit,.int .i64 life,.int .i64 now,.slice A238 (k + (n - (k + 1))) c238],.row 125 8 A238 (k + (n - (k + 1))) c238 ((l.take k).flatMap EM.cells++(l.drop (k + 1)).flatMap EM.cells)]++RO) by rw [hv];exact SP.pickT (A:=[_,_]) (B:=[_,_]) (C:=RO) (X.out.setB 0 rfl 3 (.slice A238 (k + (n - (k + 1))) c238)) [0,1] rfl (by decide))
  clear hv
  refine hK.out _ _ (by trivial) (fun hHeld=>?_)
  clear hK K
  try simp only [Act.put,jA,jB,jC]
  rw [<- hF]
  exact r7ys6 H1.out g227 A232 c232 A238 c238 _ Y
set_option maxHeartbeats 1000000 in
set_option maxRecDepth 100000 in
theorem r7ys4 (H0 : r7yH w0 TB limit life now A n c l k RO Q Fr) (g227 : Nat) (A232 : Option Addr) (c232 : Nat) (w : World) (X : Hid (SP w0 w ([.blk TB 70 #[.int .i64 limit,.int .i64 life,.int .i64 now,.slice A n c],.row 125 8 A232 k c232 ((l.take k).flatMap EM.cells)]++RO))) :
 wpAnyH Tryz.prog .any (opsAt Tryz.f27 42) (NoPanic Q) (r7yS w0 TB limit life now A n c l k RO) 3 #[true,true,true,true,true,true,true,true,true,true,true,false,false,false] (Fr y227 y228 y229 y230 y231 (.slice A232 k c232) y233 y234 y235 y236 (.slice (cutM 8 A c (k + 1)) (n - (k + 1)) (c - (k + 1))) y238 y239) w:=by
 have H1:=Lib.hid H0
 obtain ⟨HP,⟨u,hF⟩,HQ⟩:=H0
 rw [hF]
 obtain ⟨i0,hi0,hz0,hz1,hz2⟩:=info_parts info7E
 have hn:=HP.out.hn
 have hc:=HP.out.hc
 have hk:=HP.out.hk
 have g1 : (0 : Int)<=(k : Int):=by omega
 have g2 : (k : Int)<=(c : Int):=by omega
 have e1 : IntKind.i64.wrap ((k : Int) + 1)=(k : Int) + 1:=IntWalk.i64_in _ (by omega)
 have s1:=fun W=>run_slice_loM (P:=Tryz.prog) W Tryz.underlying68 hi0 hz1 A n c ((k : Int) + 1) (k + 1) (by omega) (by omega)
 have hHeld : (r7yS w0 TB limit life now A n c l k RO) w:=by trivial
 refine rdy [11] ?_
 refine cons_lit rfl (fun K hK=>?ss11x66) AllReadyH.nil
 case ss11x66 =>
  refine step_append_rowO _ (by rfl) _ _ 68 (by rfl) w0.heap.size 125 i0 _ 8 64 Tryz.underlying68 hi0 hz0 hz1 hz2 (by rfl) (by decide) A232 (k) c232 ((l.take k).flatMap EM.cells) (by rfl) (by exact X.out.row 1 rfl) (cutM 8 A c (k + 1)) (n - (k + 1)) (c - (k + 1)) ((l.drop (k + 1)).flatMap EM.cells) (by rfl) (by rw [flat_len EM.cells 8 em_len,((HP.out.er _ X.out.right).drop (lo:=k + 1) (by omega)).len]) (((HP.out.er _ X.out.right).drop (lo:=k + 1) (by omega)).news) (ems_one _) (by simp only [maxLen];omega) (by omega) X.out.size ?_
  intro A238 c238 v hrow hgrow hat
  have Y:=Lib.hid (show SP w0 v ([.blk TB 70 #[.int .i64 limit,.int .i64 life,.int .i64 now,.slice A n c],.row 125 8 A238 (k + (n - (k + 1))) c238 ((l.take k).flatMap EM.cells++(l.drop (k + 1)).flatMap EM.cells)]++RO) from SP.pickT (A:=[_,_]) (B:=[_,_]) (C:=RO) (X.out.appRow 1 rfl hrow hgrow hat) [0,1] rfl (by decide))
  clear hrow hgrow hat
  refine hK.out _ _ (by trivial) (fun hHeld=>?_)
  clear hK K
  try simp only [Act.put,jA,jB,jC]
  refine' tk (i:=12) rfl ?U67 ?V67
  case U67=>intro w' hSw;go_simp;try (with_reducible rfl)
  try simp only [Act.put,jA,jB,jC]
  rw [<- hF]
  exact r7ys5 H1.out g227 A232 c232 A238 c238 _ Y
set_option maxHeartbeats 1000000 in
set_option maxRecDepth 100000 in
theorem r7ys3 (H0 : r7yH w0 TB limit life now A n c l k RO Q Fr) (g227 : Nat) (A232 : Option Addr) (c232 : Nat) (w : World) (X : Hid (SP w0 w ([.blk TB 70 #[.int .i64 limit,.int .i64 life,.int .i64 now,.slice A n c],.row 125 8 A232 k c232 ((l.take k).flatMap EM.cells)]++RO))) :
 wpAnyH Tryz.prog .any (opsAt Tryz.f27 42) (NoPanic Q) (r7yS w0 TB limit life now A n c l k RO) 5 #[true,true,true,true,true,true,true,false,true,true,false,false,false,false] (Fr y227 y228 y229 y230 y231 (.slice A232 k c232) (.pointer (some ⟨TB,3,none⟩)) y234 y235 (.int .i64 ((k : Int) + 1)) y237 y238 y239) w:=by
 have H1:=Lib.hid H0
 obtain ⟨HP,⟨u,hF⟩,HQ⟩:=H0
 rw [hF]
 obtain ⟨i0,hi0,hz0,hz1,hz2⟩:=info_parts info7E
 have hn:=HP.out.hn
 have hc:=HP.out.hc
 have hk:=HP.out.hk
 have g1 : (0 : Int)<=(k : Int):=by omega
 have g2 : (k : Int)<=(c : Int):=by omega
 have e1 : IntKind.i64.wrap ((k : Int) + 1)=(k : Int) + 1:=IntWalk.i64_in _ (by omega)
 have s1:=fun W=>run_slice_loM (P:=Tryz.prog) W Tryz.underlying68 hi0 hz1 A n c ((k : Int) + 1) (k + 1) (by omega) (by omega)
 have hHeld : (r7yS w0 TB limit life now A n c l k RO) w:=by trivial
 refine rdy [7] ?_
 refine cons_lit rfl (fun K hK=>?ss7x64) AllReadyH.nil
 case ss7x64 =>
  have xc:=X.out.cell 0 rfl 3 rfl
  go_simp
  clear xc
  have Y:=X
  refine hK.out _ _ (by trivial) (fun hHeld=>?_)
  clear hK K
  try simp only [Act.put,jA,jB,jC]
  refine' tk (i:=10) rfl ?U65 ?V65
  case U65=>intro w' hSw;go_simp;try (with_reducible rfl)
  try simp only [Act.put,jA,jB,jC]
  rw [<- hF]
  exact r7ys4 H1.out g227 A232 c232 _ Y
set_option maxHeartbeats 1000000 in
set_option maxRecDepth 100000 in
theorem r7ys7 (H0 : r7yH w0 TB limit life now A n c l k RO Q Fr) (g227 : Nat) (w : World) (X : Hid (SP w0 w ([.blk TB 70 #[.int .i64 limit,.int .i64 life,.int .i64 now,.slice A n c],.row 125 8 (some ⟨g227,0,none⟩) 0 0 []]++RO))) :
 wpAnyH Tryz.prog .any (opsAt Tryz.f27 42) (NoPanic Q) (r7yS w0 TB limit life now A n c l k RO) 4 #[true,true,true,true,true,false,true,true,true,true,true,false,false,false] (Fr (.slice (some ⟨g227,0,none⟩) 0 0) y228 y229 y230 (.slice A k c) y232 y233 y234 y235 y236 (.slice (cutM 8 A c (k + 1)) (n - (k + 1)) (c - (k + 1))) y238 y239) w:=by
 have H1:=Lib.hid H0
 obtain ⟨HP,⟨u,hF⟩,HQ⟩:=H0
 rw [hF]
 obtain ⟨i0,hi0,hz0,hz1,hz2⟩:=info_parts info7E
 have hn:=HP.out.hn
 have hc:=HP.out.hc
 have hk:=HP.out.hk
 have g1 : (0 : Int)<=(k : Int):=by omega
 have g2 : (k : Int)<=(c : Int):=by omega
 have e1 : IntKind.i64.wrap ((k : Int) + 1)=(k : Int) + 1:=IntWalk.i64_in _ (by omega)
 have s1:=fun W=>run_slice_loM (P:=Tryz.prog) W Tryz.underlying68 hi0 hz1 A n c ((k : Int) + 1) (k + 1) (by omega) (by omega)
 have hHeld : (r7yS w0 TB limit life now A n c l k RO) w:=by trivial
 refine rdy [5] ?_
 refine cons_lit rfl (fun K hK=>?ss5x70) AllReadyH.nil
 case ss5x70 =>
  refine step_append_rowO _ (by rfl) _ _ 68 (by rfl) w0.heap.size 125 i0 _ 8 64 Tryz.underlying68 hi0 hz0 hz1 hz2 (by rfl) (by decide) (some ⟨g227,0,none⟩) (0) 0 ([]) (by rfl) (by exact X.out.row 1 rfl) A (k) (c) ((l.take k).flatMap EM.cells) (by rfl) (by rw [flat_len EM.cells 8 em_len,((HP.out.er _ X.out.right).take (m:=k) (by omega)).len]) (((HP.out.er _ X.out.right).take (m:=k) (by omega)).news) (ems_one _) (by simp only [maxLen];omega) (by omega) X.out.size ?_
  intro A232 c232 v hrow hgrow hat
  rw [Nat.zero_add] at hrow ⊢
  rw [List.nil_append] at hrow
  have Y:=Lib.hid (show SP w0 v ([.blk TB 70 #[.int .i64 limit,.int .i64 life,.int .i64 now,.slice A n c],.row 125 8 A232 k c232 ((l.take k).flatMap EM.cells)]++RO) from SP.pickT (A:=[_,_]) (B:=[_,_]) (C:=RO) (X.out.appRow 1 rfl hrow hgrow hat) [0,1] rfl (by decide))
  clear hrow hgrow hat
  refine hK.out _ _ (by trivial) (fun hHeld=>?_)
  clear hK K
  try simp only [Act.put,jA,jB,jC]
  rw [<- hF]
  exact r7ys4 H1.out g227 A232 c232 _ Y
set_option maxHeartbeats 1000000 in
set_option maxRecDepth 100000 in
theorem r7ys2 (H0 : r7yH w0 TB limit life now A n c l k RO Q Fr) (g227 : Nat) (w : World) (X : Hid (SP w0 w ([.blk TB 70 #[.int .i64 limit,.int .i64 life,.int .i64 now,.slice A n c],.row 125 8 (some ⟨g227,0,none⟩) 0 0 []]++RO))) :
 wpAnyH Tryz.prog .any (opsAt Tryz.f27 42) (NoPanic Q) (r7yS w0 TB limit life now A n c l k RO) 6 #[true,true,true,true,true,false,true,false,true,true,false,false,false,false] (Fr (.slice (some ⟨g227,0,none⟩) 0 0) y228 y229 y230 (.slice A k c) y232 (.pointer (some ⟨TB,3,none⟩)) y234 y235 (.int .i64 ((k : Int) + 1)) y237 y238 y239) w:=by
 have H1:=Lib.hid H0
 obtain ⟨HP,⟨u,hF⟩,HQ⟩:=H0
 rw [hF]
 obtain ⟨i0,hi0,hz0,hz1,hz2⟩:=info_parts info7E
 have hn:=HP.out.hn
 have hc:=HP.out.hc
 have hk:=HP.out.hk
 have g1 : (0 : Int)<=(k : Int):=by omega
 have g2 : (k : Int)<=(c : Int):=by omega
 have e1 : IntKind.i64.wrap ((k : Int) + 1)=(k : Int) + 1:=IntWalk.i64_in _ (by omega)
 have s1:=fun W=>run_slice_loM (P:=Tryz.prog) W Tryz.underlying68 hi0 hz1 A n c ((k : Int) + 1) (k + 1) (by omega) (by omega)
 have hHeld : (r7yS w0 TB limit life now A n c l k RO) w:=by trivial
 refine rdy [5,7] ?_
 refine cons_lit rfl (fun K hK=>?ss5x63) (cons_lit rfl (fun K hK=>?ss7x63) AllReadyH.nil)
 case ss5x63 =>
  refine step_append_rowO _ (by rfl) _ _ 68 (by rfl) w0.heap.size 125 i0 _ 8 64 Tryz.underlying68 hi0 hz0 hz1 hz2 (by rfl) (by decide) (some ⟨g227,0,none⟩) (0) 0 ([]) (by rfl) (by exact X.out.row 1 rfl) A (k) (c) ((l.take k).flatMap EM.cells) (by rfl) (by rw [flat_len EM.cells 8 em_len,((HP.out.er _ X.out.right).take (m:=k) (by omega)).len]) (((HP.out.er _ X.out.right).take (m:=k) (by omega)).news) (ems_one _) (by simp only [maxLen];omega) (by omega) X.out.size ?_
  intro A232 c232 v hrow hgrow hat
  rw [Nat.zero_add] at hrow ⊢
  rw [List.nil_append] at hrow
  have Y:=Lib.hid (show SP w0 v ([.blk TB 70 #[.int .i64 limit,.int .i64 life,.int .i64 now,.slice A n c],.row 125 8 A232 k c232 ((l.take k).flatMap EM.cells)]++RO) from SP.pickT (A:=[_,_]) (B:=[_,_]) (C:=RO) (X.out.appRow 1 rfl hrow hgrow hat) [0,1] rfl (by decide))
  clear hrow hgrow hat
  refine hK.out _ _ (by trivial) (fun hHeld=>?_)
  clear hK K
  try simp only [Act.put,jA,jB,jC]
  rw [<- hF]
  exact r7ys3 H1.out g227 A232 c232 _ Y
 case ss7x63 =>
  have xc:=X.out.cell 0 rfl 3 rfl
  go_simp
  clear xc
  have Y:=X
  refine hK.out _ _ (by trivial) (fun hHeld=>?_)
  clear hK K
  try simp only [Act.put,jA,jB,jC]
  refine' tk (i:=10) rfl ?U69 ?V69
  case U69=>intro w' hSw;go_simp;try (with_reducible rfl)
  try simp only [Act.put,jA,jB,jC]
  rw [<- hF]
  exact r7ys7 H1.out g227 _ Y
set_option maxHeartbeats 1000000 in
set_option maxRecDepth 100000 in
theorem r7ys8 (H0 : r7yH w0 TB limit life now A n c l k RO Q Fr) (g227 : Nat) (w : World) (X : Hid (SP w0 w ([.blk TB 70 #[.int .i64 limit,.int .i64 life,.int .i64 now,.slice A n c],.row 125 8 (some ⟨g227,0,none⟩) 0 0 []]++RO))) :
 wpAnyH Tryz.prog .any (opsAt Tryz.f27 42) (NoPanic Q) (r7yS w0 TB limit life now A n c l k RO) 6 #[true,true,false,true,false,false,true,true,true,true,true,false,false,false] (Fr (.slice (some ⟨g227,0,none⟩) 0 0) (.pointer (some ⟨TB,3,none⟩)) y229 (.int .i64 (k : Int)) y231 y232 y233 y234 y235 y236 (.slice (cutM 8 A c (k + 1)) (n - (k + 1)) (c - (k + 1))) y238 y239) w:=by
 have H1:=Lib.hid H0
 obtain ⟨HP,⟨u,hF⟩,HQ⟩:=H0
 rw [hF]
 obtain ⟨i0,hi0,hz0,hz1,hz2⟩:=info_parts info7E
 have hn:=HP.out.hn
 have hc:=HP.out.hc
 have hk:=HP.out.hk
 have g1 : (0 : Int)<=(k : Int):=by omega
 have g2 : (k : Int)<=(c : Int):=by omega
 have e1 : IntKind.i64.wrap ((k : Int) + 1)=(k : Int) + 1:=IntWalk.i64_in _ (by omega)
 have s1:=fun W=>run_slice_loM (P:=Tryz.prog) W Tryz.underlying68 hi0 hz1 A n c ((k : Int) + 1) (k + 1) (by omega) (by omega)
 have hHeld : (r7yS w0 TB limit life now A n c l k RO) w:=by trivial
 refine rdy [2] ?_
 refine cons_lit rfl (fun K hK=>?ss2x72) AllReadyH.nil
 case ss2x72 =>
  have xc:=X.out.cell 0 rfl 3 rfl
  go_simp
  clear xc
  have Y:=X
  refine hK.out _ _ (by trivial) (fun hHeld=>?_)
  clear hK K
  try simp only [Act.put,jA,jB,jC]
  refine' tk (i:=4) rfl ?U73 ?V73
  case U73=>intro w' hSw;go_simp;try (with_reducible rfl)
  try simp only [Act.put,jA,jB,jC]
  rw [<- hF]
  exact r7ys7 H1.out g227 _ Y
set_option maxHeartbeats 1000000 in
set_option maxRecDepth 100000 in
theorem r7ys1 (H0 : r7yH w0 TB limit life now A n c l k RO Q Fr) (g227 : Nat) (w : World) (X : Hid (SP w0 w ([.blk TB 70 #[.int .i64 limit,.int .i64 life,.int .i64 now,.slice A n c],.row 125 8 (some ⟨g227,0,none⟩) 0 0 []]++RO))) :
 wpAnyH Tryz.prog .any (opsAt Tryz.f27 42) (NoPanic Q) (r7yS w0 TB limit life now A n c l k RO) 8 #[true,true,false,true,false,false,true,false,true,true,false,false,false,false] (Fr (.slice (some ⟨g227,0,none⟩) 0 0) (.pointer (some ⟨TB,3,none⟩)) y229 (.int .i64 (k : Int)) y231 y232 (.pointer (some ⟨TB,3,none⟩)) y234 y235 (.int .i64 ((k : Int) + 1)) y237 y238 y239) w:=by
 have H1:=Lib.hid H0
 obtain ⟨HP,⟨u,hF⟩,HQ⟩:=H0
 rw [hF]
 obtain ⟨i0,hi0,hz0,hz1,hz2⟩:=info_parts info7E
 have hn:=HP.out.hn
 have hc:=HP.out.hc
 have hk:=HP.out.hk
 have g1 : (0 : Int)<=(k : Int):=by omega
 have g2 : (k : Int)<=(c : Int):=by omega
 have e1 : IntKind.i64.wrap ((k : Int) + 1)=(k : Int) + 1:=IntWalk.i64_in _ (by omega)
 have s1:=fun W=>run_slice_loM (P:=Tryz.prog) W Tryz.underlying68 hi0 hz1 A n c ((k : Int) + 1) (k + 1) (by omega) (by omega)
 have hHeld : (r7yS w0 TB limit life now A n c l k RO) w:=by trivial
 refine rdy [2,7] ?_
 refine cons_lit rfl (fun K hK=>?ss2x61) (cons_lit rfl (fun K hK=>?ss7x61) AllReadyH.nil)
 case ss2x61 =>
  have xc:=X.out.cell 0 rfl 3 rfl
  go_simp
  clear xc
  have Y:=X
  refine hK.out _ _ (by trivial) (fun hHeld=>?_)
  clear hK K
  try simp only [Act.put,jA,jB,jC]
  refine' tk (i:=4) rfl ?U62 ?V62
  case U62=>intro w' hSw;go_simp;try (with_reducible rfl)
  try simp only [Act.put,jA,jB,jC]
  rw [<- hF]
  exact r7ys2 H1.out g227 _ Y
 case ss7x61 =>
  have xc:=X.out.cell 0 rfl 3 rfl
  go_simp
  clear xc
  have Y:=X
  refine hK.out _ _ (by trivial) (fun hHeld=>?_)
  clear hK K
  try simp only [Act.put,jA,jB,jC]
  refine' tk (i:=10) rfl ?U71 ?V71
  case U71=>intro w' hSw;go_simp;try (with_reducible rfl)
  try simp only [Act.put,jA,jB,jC]
  rw [<- hF]
  exact r7ys8 H1.out g227 _ Y
set_option maxHeartbeats 1000000 in
set_option maxRecDepth 100000 in
theorem r7ys10 (H0 : r7yH w0 TB limit life now A n c l k RO Q Fr) (w : World) (X : Hid (SP w0 w ([.blk TB 70 #[.int .i64 limit,.int .i64 life,.int .i64 now,.slice A n c]]++RO))) :
 wpAnyH Tryz.prog .any (opsAt Tryz.f27 42) (NoPanic Q) (r7yS w0 TB limit life now A n c l k RO) 5 #[false,true,true,true,true,false,true,true,true,true,true,false,false,false] (Fr y227 y228 y229 y230 (.slice A k c) y232 y233 y234 y235 y236 (.slice (cutM 8 A c (k + 1)) (n - (k + 1)) (c - (k + 1))) y238 y239) w:=by
 have H1:=Lib.hid H0
 obtain ⟨HP,⟨u,hF⟩,HQ⟩:=H0
 rw [hF]
 obtain ⟨i0,hi0,hz0,hz1,hz2⟩:=info_parts info7E
 have hn:=HP.out.hn
 have hc:=HP.out.hc
 have hk:=HP.out.hk
 have g1 : (0 : Int)<=(k : Int):=by omega
 have g2 : (k : Int)<=(c : Int):=by omega
 have e1 : IntKind.i64.wrap ((k : Int) + 1)=(k : Int) + 1:=IntWalk.i64_in _ (by omega)
 have s1:=fun W=>run_slice_loM (P:=Tryz.prog) W Tryz.underlying68 hi0 hz1 A n c ((k : Int) + 1) (k + 1) (by omega) (by omega)
 have hHeld : (r7yS w0 TB limit life now A n c l k RO) w:=by trivial
 refine rdy [0] ?_
 refine cons_lit rfl (fun K hK=>?ss0x77) AllReadyH.nil
 case ss0x77 =>
  go_simp
  obtain ⟨g227,hg227⟩ : ∃ g,g=w.heap.size:=⟨_,rfl⟩
  rw [<- hg227]
  refine nameW' (fun v hv=>?_)
  have Y:=Lib.hid (show SP w0 v ([.blk TB 70 #[.int .i64 limit,.int .i64 life,.int .i64 now,.slice A n c],.row 125 8 (some ⟨g227,0,none⟩) 0 0 []]++RO) by rw [hv];exact SP.pickT (A:=[_,_]) (B:=[_,_]) (C:=RO) (SP.rot (X.out.allocRow7 125 8 0 #[] (Nat.zero_le _) rfl hg227.symm)) [1,0] rfl (by decide))
  clear hv hg227
  refine hK.out _ _ (by trivial) (fun hHeld=>?_)
  clear hK K
  try simp only [Act.put,jA,jB,jC]
  rw [<- hF]
  exact r7ys7 H1.out g227 _ Y
set_option maxHeartbeats 1000000 in
set_option maxRecDepth 100000 in
theorem r7ys9 (H0 : r7yH w0 TB limit life now A n c l k RO Q Fr) (w : World) (X : Hid (SP w0 w ([.blk TB 70 #[.int .i64 limit,.int .i64 life,.int .i64 now,.slice A n c]]++RO))) :
 wpAnyH Tryz.prog .any (opsAt Tryz.f27 42) (NoPanic Q) (r7yS w0 TB limit life now A n c l k RO) 7 #[false,true,true,true,true,false,true,false,true,true,false,false,false,false] (Fr y227 y228 y229 y230 (.slice A k c) y232 (.pointer (some ⟨TB,3,none⟩)) y234 y235 (.int .i64 ((k : Int) + 1)) y237 y238 y239) w:=by
 have H1:=Lib.hid H0
 obtain ⟨HP,⟨u,hF⟩,HQ⟩:=H0
 rw [hF]
 obtain ⟨i0,hi0,hz0,hz1,hz2⟩:=info_parts info7E
 have hn:=HP.out.hn
 have hc:=HP.out.hc
 have hk:=HP.out.hk
 have g1 : (0 : Int)<=(k : Int):=by omega
 have g2 : (k : Int)<=(c : Int):=by omega
 have e1 : IntKind.i64.wrap ((k : Int) + 1)=(k : Int) + 1:=IntWalk.i64_in _ (by omega)
 have s1:=fun W=>run_slice_loM (P:=Tryz.prog) W Tryz.underlying68 hi0 hz1 A n c ((k : Int) + 1) (k + 1) (by omega) (by omega)
 have hHeld : (r7yS w0 TB limit life now A n c l k RO) w:=by trivial
 refine rdy [0,7] ?_
 refine cons_lit rfl (fun K hK=>?ss0x75) (cons_lit rfl (fun K hK=>?ss7x75) AllReadyH.nil)
 case ss0x75 =>
  go_simp
  obtain ⟨g227,hg227⟩ : ∃ g,g=w.heap.size:=⟨_,rfl⟩
  rw [<- hg227]
  refine nameW' (fun v hv=>?_)
  have Y:=Lib.hid (show SP w0 v ([.blk TB 70 #[.int .i64 limit,.int .i64 life,.int .i64 now,.slice A n c],.row 125 8 (some ⟨g227,0,none⟩) 0 0 []]++RO) by rw [hv];exact SP.pickT (A:=[_,_]) (B:=[_,_]) (C:=RO) (SP.rot (X.out.allocRow7 125 8 0 #[] (Nat.zero_le _) rfl hg227.symm)) [1,0] rfl (by decide))
  clear hv hg227
  refine hK.out _ _ (by trivial) (fun hHeld=>?_)
  clear hK K
  try simp only [Act.put,jA,jB,jC]
  rw [<- hF]
  exact r7ys2 H1.out g227 _ Y
 case ss7x75 =>
  have xc:=X.out.cell 0 rfl 3 rfl
  go_simp
  clear xc
  have Y:=X
  refine hK.out _ _ (by trivial) (fun hHeld=>?_)
  clear hK K
  try simp only [Act.put,jA,jB,jC]
  refine' tk (i:=10) rfl ?U76 ?V76
  case U76=>intro w' hSw;go_simp;try (with_reducible rfl)
  try simp only [Act.put,jA,jB,jC]
  rw [<- hF]
  exact r7ys10 H1.out  _ Y
set_option maxHeartbeats 1000000 in
set_option maxRecDepth 100000 in
theorem r7ys11 (H0 : r7yH w0 TB limit life now A n c l k RO Q Fr) (w : World) (X : Hid (SP w0 w ([.blk TB 70 #[.int .i64 limit,.int .i64 life,.int .i64 now,.slice A n c]]++RO))) :
 wpAnyH Tryz.prog .any (opsAt Tryz.f27 42) (NoPanic Q) (r7yS w0 TB limit life now A n c l k RO) 7 #[false,true,false,true,false,false,true,true,true,true,true,false,false,false] (Fr y227 (.pointer (some ⟨TB,3,none⟩)) y229 (.int .i64 (k : Int)) y231 y232 y233 y234 y235 y236 (.slice (cutM 8 A c (k + 1)) (n - (k + 1)) (c - (k + 1))) y238 y239) w:=by
 have H1:=Lib.hid H0
 obtain ⟨HP,⟨u,hF⟩,HQ⟩:=H0
 rw [hF]
 obtain ⟨i0,hi0,hz0,hz1,hz2⟩:=info_parts info7E
 have hn:=HP.out.hn
 have hc:=HP.out.hc
 have hk:=HP.out.hk
 have g1 : (0 : Int)<=(k : Int):=by omega
 have g2 : (k : Int)<=(c : Int):=by omega
 have e1 : IntKind.i64.wrap ((k : Int) + 1)=(k : Int) + 1:=IntWalk.i64_in _ (by omega)
 have s1:=fun W=>run_slice_loM (P:=Tryz.prog) W Tryz.underlying68 hi0 hz1 A n c ((k : Int) + 1) (k + 1) (by omega) (by omega)
 have hHeld : (r7yS w0 TB limit life now A n c l k RO) w:=by trivial
 refine rdy [0,2] ?_
 refine cons_lit rfl (fun K hK=>?ss0x79) (cons_lit rfl (fun K hK=>?ss2x79) AllReadyH.nil)
 case ss0x79 =>
  go_simp
  obtain ⟨g227,hg227⟩ : ∃ g,g=w.heap.size:=⟨_,rfl⟩
  rw [<- hg227]
  refine nameW' (fun v hv=>?_)
  have Y:=Lib.hid (show SP w0 v ([.blk TB 70 #[.int .i64 limit,.int .i64 life,.int .i64 now,.slice A n c],.row 125 8 (some ⟨g227,0,none⟩) 0 0 []]++RO) by rw [hv];exact SP.pickT (A:=[_,_]) (B:=[_,_]) (C:=RO) (SP.rot (X.out.allocRow7 125 8 0 #[] (Nat.zero_le _) rfl hg227.symm)) [1,0] rfl (by decide))
  clear hv hg227
  refine hK.out _ _ (by trivial) (fun hHeld=>?_)
  clear hK K
  try simp only [Act.put,jA,jB,jC]
  rw [<- hF]
  exact r7ys8 H1.out g227 _ Y
 case ss2x79 =>
  have xc:=X.out.cell 0 rfl 3 rfl
  go_simp
  clear xc
  have Y:=X
  refine hK.out _ _ (by trivial) (fun hHeld=>?_)
  clear hK K
  try simp only [Act.put,jA,jB,jC]
  refine' tk (i:=4) rfl ?U80 ?V80
  case U80=>intro w' hSw;go_simp;try (with_reducible rfl)
  try simp only [Act.put,jA,jB,jC]
  rw [<- hF]
  exact r7ys10 H1.out  _ Y
set_option maxHeartbeats 1000000 in
set_option maxRecDepth 100000 in
theorem r7ys0 (H0 : r7yH w0 TB limit life now A n c l k RO Q Fr) (w : World) (X : Hid (SP w0 w ([.blk TB 70 #[.int .i64 limit,.int .i64 life,.int .i64 now,.slice A n c]]++RO))) :
 wpAnyH Tryz.prog .any (opsAt Tryz.f27 42) (NoPanic Q) (r7yS w0 TB limit life now A n c l k RO) 14 #[false,false,false,false,false,false,false,false,false,false,false,false,false,false] (Fr y227 y228 y229 y230 y231 y232 y233 y234 y235 y236 y237 y238 y239) w:=by
 have H1:=Lib.hid H0
 obtain ⟨HP,⟨u,hF⟩,HQ⟩:=H0
 rw [hF]
 obtain ⟨i0,hi0,hz0,hz1,hz2⟩:=info_parts info7E
 have hn:=HP.out.hn
 have hc:=HP.out.hc
 have hk:=HP.out.hk
 have g1 : (0 : Int)<=(k : Int):=by omega
 have g2 : (k : Int)<=(c : Int):=by omega
 have e1 : IntKind.i64.wrap ((k : Int) + 1)=(k : Int) + 1:=IntWalk.i64_in _ (by omega)
 have s1:=fun W=>run_slice_loM (P:=Tryz.prog) W Tryz.underlying68 hi0 hz1 A n c ((k : Int) + 1) (k + 1) (by omega) (by omega)
 have hHeld : (r7yS w0 TB limit life now A n c l k RO) w:=by trivial
 refine' tk (i:=1) rfl ?U55 ?V55
 case U55=>intro w' hSw;go_simp;try (with_reducible rfl)
 try simp only [Act.put,jA,jB,jC]
 refine' tk (i:=3) rfl ?U56 ?V56
 case U56=>intro w' hSw;go_simp;try (with_reducible rfl)
 try simp only [Act.put,jA,jB,jC]
 refine' tk (i:=6) rfl ?U57 ?V57
 case U57=>intro w' hSw;go_simp;try (with_reducible rfl)
 try simp only [Act.put,jA,jB,jC]
 refine' tk (i:=8) rfl ?U58 ?V58
 case U58=>intro w' hSw;go_simp;try (with_reducible rfl)
 try simp only [Act.put,jA,jB,jC]
 refine' tk (i:=9) rfl ?U59 ?V59
 case U59=>intro w' hSw;go_simp;try (with_reducible rfl)
 try simp only [Act.put,jA,jB,jC]
 refine rdy [0,2,7] ?_
 refine cons_lit rfl (fun K hK=>?ss0x60) (cons_lit rfl (fun K hK=>?ss2x60) (cons_lit rfl (fun K hK=>?ss7x60) AllReadyH.nil))
 case ss0x60 =>
  go_simp
  obtain ⟨g227,hg227⟩ : ∃ g,g=w.heap.size:=⟨_,rfl⟩
  rw [<- hg227]
  refine nameW' (fun v hv=>?_)
  have Y:=Lib.hid (show SP w0 v ([.blk TB 70 #[.int .i64 limit,.int .i64 life,.int .i64 now,.slice A n c],.row 125 8 (some ⟨g227,0,none⟩) 0 0 []]++RO) by rw [hv];exact SP.pickT (A:=[_,_]) (B:=[_,_]) (C:=RO) (SP.rot (X.out.allocRow7 125 8 0 #[] (Nat.zero_le _) rfl hg227.symm)) [1,0] rfl (by decide))
  clear hv hg227
  refine hK.out _ _ (by trivial) (fun hHeld=>?_)
  clear hK K
  try simp only [Act.put,jA,jB,jC]
  rw [<- hF]
  exact r7ys1 H1.out g227 _ Y
 case ss2x60 =>
  have xc:=X.out.cell 0 rfl 3 rfl
  go_simp
  clear xc
  have Y:=X
  refine hK.out _ _ (by trivial) (fun hHeld=>?_)
  clear hK K
  try simp only [Act.put,jA,jB,jC]
  refine' tk (i:=4) rfl ?U74 ?V74
  case U74=>intro w' hSw;go_simp;try (with_reducible rfl)
  try simp only [Act.put,jA,jB,jC]
  rw [<- hF]
  exact r7ys9 H1.out  _ Y
 case ss7x60 =>
  have xc:=X.out.cell 0 rfl 3 rfl
  go_simp
  clear xc
  have Y:=X
  refine hK.out _ _ (by trivial) (fun hHeld=>?_)
  clear hK K
  try simp only [Act.put,jA,jB,jC]
  refine' tk (i:=10) rfl ?U78 ?V78
  case U78=>intro w' hSw;go_simp;try (with_reducible rfl)
  try simp only [Act.put,jA,jB,jC]
  rw [<- hF]
  exact r7ys11 H1.out  _ Y
end
set_option maxRecDepth 100000 in
theorem r7y_0 {u0 u1 u2 u4 u5 u6 u7 u8 u9 u10 u11 u12 u14 u15 u16 u17 u18 u19 u20 u21 u22 u23 u24 u25 u26 u27 u28 u29 u30 u31 u32 u33 u34 u35 u36 u37 u38 u39 u40 u41 u42 u43 u44 u45 u46 u47 u48 u49 u50 u51 u52 u53 u54 u55 u56 u57 u58 u59 u60 u61 u62 u63 u64 u65 u66 u67 u68 u69 u70 u71 u72 u73 u74 u75 u76 u77 u78 u79 u80 u81 u82 u83 u84 u85 u86 u87 u88 u89 u90 u91 u92 u93 u94 u95 u96 u97 u98 u99 u100 u101 u102 u103 u104 u105 u106 u107 u108 u109 u110 u111 u112 u113 u114 u115 u116 u117 u118 u119 u120 u121 u122 u123 u124 u125 u126 u127 u128 u129 u130 u131 u132 u133 u134 u135 u136 u137 u138 u139 u140 u141 u142 u143 u144 u145 u146 u147 u148 u149 u150 u151 u152 u153 u154 u155 u156 u157 u158 u159 u160 u161 u162 u163 u164 u165 u166 u167 u168 u169 u170 u171 u172 u173 u174 u175 u176 u177 u178 u179 u180 u181 u182 u183 u184 u185 u186 u187 u188 u189 u190 u191 u192 u193 u194 u195 u196 u197 u198 u199 u200 u201 u202 u203 u204 u205 u206 u207 u208 u209 u210 u211 u212 u213 u214 u215 u216 u217 u218 u219 u220 u221 u222 u223 u224 u225 u226 u227 u228 u229 u230 u231 u232 u233 u234 u235 u236 u237 u238 u239 u240 u241 u242 u243 u244 u245 u246 u247 u248 u249 u250 u251 u252 u253 u254 u255 u256 u257 u258 u259 u260 u261 u262 u263 u264 u265 u266 u267 u268 u269 u270 u271 u272 u273 u274 u275 u276 u277 : Value} {Q : Exit->Act->World->Prop} {w0 : World} {TB : Nat} {limit life now : Int} {A : Option Addr} {n c : Nat} {l : List EM} {k : Nat} {RO : List IT} (HP : Hid (r7yP w0 TB limit life now A n c l k RO)) (HQ : Hid (∀ (y227 y228 y229 y230 y231 y232 y233 y234 y235 y236 y237 y238 y239 : Value) (g227 : Nat) (A232 : Option Addr) (c232 : Nat) (A238 : Option Addr) (c238 : Nat) (w' : World),SP w0 w' ([.blk TB 70 #[.int .i64 limit,.int .i64 life,.int .i64 now,.slice A238 (k + (n - (k + 1))) c238],.row 125 8 A238 (k + (n - (k + 1))) c238 ((l.take k).flatMap EM.cells++(l.drop (k + 1)).flatMap EM.cells)]++RO)->Q .normal ⟨List.toArray (u0::u1::u2::.pointer (some ⟨TB,0,none⟩)::u4::u5::u6::u7::u8::u9::u10::u11::u12::.int .i64 (k : Int)::u14::u15::u16::u17::u18::u19::u20::u21::u22::u23::u24::u25::u26::u27::u28::u29::u30::u31::u32::u33::u34::u35::u36::u37::u38::u39::u40::u41::u42::u43::u44::u45::u46::u47::u48::u49::u50::u51::u52::u53::u54::u55::u56::u57::u58::u59::u60::u61::u62::u63::u64::u65::u66::u67::u68::u69::u70::u71::u72::u73::u74::u75::u76::u77::u78::u79::u80::u81::u82::u83::u84::u85::u86::u87::u88::u89::u90::u91::u92::u93::u94::u95::u96::u97::u98::u99::u100::u101::u102::u103::u104::u105::u106::u107::u108::u109::u110::u111::u112::u113::u114::u115::u116::u117::u118::u119::u120::u121::u122::u123::u124::u125::u126::u127::u128::u129::u130::u131::u132::u133::u134::u135::u136::u137::u138::u139::u140::u141::u142::u143::u144::u145::u146::u147::u148::u149::u150::u151::u152::u153::u154::u155::u156::u157::u158::u159::u160::u161::u162::u163::u164::u165::u166::u167::u168::u169::u170::u171::u172::u173::u174::u175::u176::u177::u178::u179::u180::u181::u182::u183::u184::u185::u186::u187::u188::u189::u190::u191::u192::u193::u194::u195::u196::u197::u198::u199::u200::u201::u202::u203::u204::u205::u206::u207::u208::u209::u210::u211::u212::u213::u214::u215::u216::u217::u218::u219::u220::u221::u222::u223::u224::u225::u226::y227::y228::y229::y230::y231::y232::y233::y234::y235::y236::y237::y238::y239::u240::u241::u242::u243::u244::u245::u246::u247::u248::u249::u250::u251::u252::u253::u254::u255::u256::u257::u258::u259::u260::u261::u262::u263::u264::u265::u266::u267::u268::u269::u270::u271::u272::u273::u274::u275::u276::u277::[]),[]⟩ w')) (w : World) (X : Hid (SP w0 w ([.blk TB 70 #[.int .i64 limit,.int .i64 life,.int .i64 now,.slice A n c]]++RO))) :
 wpAnyH Tryz.prog .any (opsAt Tryz.f27 42) (NoPanic Q) (r7yS w0 TB limit life now A n c l k RO) 14 #[false,false,false,false,false,false,false,false,false,false,false,false,false,false] ⟨List.toArray (u0::u1::u2::.pointer (some ⟨TB,0,none⟩)::u4::u5::u6::u7::u8::u9::u10::u11::u12::.int .i64 (k : Int)::u14::u15::u16::u17::u18::u19::u20::u21::u22::u23::u24::u25::u26::u27::u28::u29::u30::u31::u32::u33::u34::u35::u36::u37::u38::u39::u40::u41::u42::u43::u44::u45::u46::u47::u48::u49::u50::u51::u52::u53::u54::u55::u56::u57::u58::u59::u60::u61::u62::u63::u64::u65::u66::u67::u68::u69::u70::u71::u72::u73::u74::u75::u76::u77::u78::u79::u80::u81::u82::u83::u84::u85::u86::u87::u88::u89::u90::u91::u92::u93::u94::u95::u96::u97::u98::u99::u100::u101::u102::u103::u104::u105::u106::u107::u108::u109::u110::u111::u112::u113::u114::u115::u116::u117::u118::u119::u120::u121::u122::u123::u124::u125::u126::u127::u128::u129::u130::u131::u132::u133::u134::u135::u136::u137::u138::u139::u140::u141::u142::u143::u144::u145::u146::u147::u148::u149::u150::u151::u152::u153::u154::u155::u156::u157::u158::u159::u160::u161::u162::u163::u164::u165::u166::u167::u168::u169::u170::u171::u172::u173::u174::u175::u176::u177::u178::u179::u180::u181::u182::u183::u184::u185::u186::u187::u188::u189::u190::u191::u192::u193::u194::u195::u196::u197::u198::u199::u200::u201::u202::u203::u204::u205::u206::u207::u208::u209::u210::u211::u212::u213::u214::u215::u216::u217::u218::u219::u220::u221::u222::u223::u224::u225::u226::u227::u228::u229::u230::u231::u232::u233::u234::u235::u236::u237::u238::u239::u240::u241::u242::u243::u244::u245::u246::u247::u248::u249::u250::u251::u252::u253::u254::u255::u256::u257::u258::u259::u260::u261::u262::u263::u264::u265::u266::u267::u268::u269::u270::u271::u272::u273::u274::u275::u276::u277::[]),[]⟩ w :=
 r7ys0 (Fr:=(fun y227 y228 y229 y230 y231 y232 y233 y234 y235 y236 y237 y238 y239=>⟨List.toArray (u0::u1::u2::.pointer (some ⟨TB,0,none⟩)::u4::u5::u6::u7::u8::u9::u10::u11::u12::.int .i64 (k : Int)::u14::u15::u16::u17::u18::u19::u20::u21::u22::u23::u24::u25::u26::u27::u28::u29::u30::u31::u32::u33::u34::u35::u36::u37::u38::u39::u40::u41::u42::u43::u44::u45::u46::u47::u48::u49::u50::u51::u52::u53::u54::u55::u56::u57::u58::u59::u60::u61::u62::u63::u64::u65::u66::u67::u68::u69::u70::u71::u72::u73::u74::u75::u76::u77::u78::u79::u80::u81::u82::u83::u84::u85::u86::u87::u88::u89::u90::u91::u92::u93::u94::u95::u96::u97::u98::u99::u100::u101::u102::u103::u104::u105::u106::u107::u108::u109::u110::u111::u112::u113::u114::u115::u116::u117::u118::u119::u120::u121::u122::u123::u124::u125::u126::u127::u128::u129::u130::u131::u132::u133::u134::u135::u136::u137::u138::u139::u140::u141::u142::u143::u144::u145::u146::u147::u148::u149::u150::u151::u152::u153::u154::u155::u156::u157::u158::u159::u160::u161::u162::u163::u164::u165::u166::u167::u168::u169::u170::u171::u172::u173::u174::u175::u176::u177::u178::u179::u180::u181::u182::u183::u184::u185::u186::u187::u188::u189::u190::u191::u192::u193::u194::u195::u196::u197::u198::u199::u200::u201::u202::u203::u204::u205::u206::u207::u208::u209::u210::u211::u212::u213::u214::u215::u216::u217::u218::u219::u220::u221::u222::u223::u224::u225::u226::y227::y228::y229::y230::y231::y232::y233::y234::y235::y236::y237::y238::y239::u240::u241::u242::u243::u244::u245::u246::u247::u248::u249::u250::u251::u252::u253::u254::u255::u256::u257::u258::u259::u260::u261::u262::u263::u264::u265::u266::u267::u268::u269::u270::u271::u272::u273::u274::u275::u276::u277::[]),[]⟩)) ⟨HP,⟨fun i=>([u0,u1,u2,undef,u4,u5,u6,u7,u8,u9,u10,u11,u12,undef,u14,u15,u16,u17,u18,u19,u20,u21,u22,u23,u24,u25,u26,u27,u28,u29,u30,u31,u32,u33,u34,u35,u36,u37,u38,u39,u40,u41,u42,u43,u44,u45,u46,u47,u48,u49,u50,u51,u52,u53,u54,u55,u56,u57,u58,u59,u60,u61,u62,u63,u64,u65,u66,u67,u68,u69,u70,u71,u72,u73,u74,u75,u76,u77,u78,u79,u80,u81,u82,u83,u84,u85,u86,u87,u88,u89,u90,u91,u92,u93,u94,u95,u96,u97,u98,u99,u100,u101,u102,u103,u104,u105,u106,u107,u108,u109,u110,u111,u112,u113,u114,u115,u116,u117,u118,u119,u120,u121,u122,u123,u124,u125,u126,u127,u128,u129,u130,u131,u132,u133,u134,u135,u136,u137,u138,u139,u140,u141,u142,u143,u144,u145,u146,u147,u148,u149,u150,u151,u152,u153,u154,u155,u156,u157,u158,u159,u160,u161,u162,u163,u164,u165,u166,u167,u168,u169,u170,u171,u172,u173,u174,u175,u176,u177,u178,u179,u180,u181,u182,u183,u184,u185,u186,u187,u188,u189,u190,u191,u192,u193,u194,u195,u196,u197,u198,u199,u200,u201,u202,u203,u204,u205,u206,u207,u208,u209,u210,u211,u212,u213,u214,u215,u216,u217,u218,u219,u220,u221,u222,u223,u224,u225,u226,u227,u228,u229,u230,u231,u232,u233,u234,u235,u236,u237,u238,u239,u240,u241,u242,u243,u244,u245,u246,u247,u248,u249,u250,u251,u252,u253,u254,u255,u256,u257,u258,u259,u260,u261,u262,u263,u264,u265,u266,u267,u268,u269,u270,u271,u272,u273,u274,u275,u276,u277] : List Value)[i]?.getD undef,fun _ _ _ _ _ _ _ _ _ _ _ _ _=>rfl⟩,Lib.hid HQ.out⟩ w X
end Go.Proofs.YtljbfnabnkkfeaaGreat
