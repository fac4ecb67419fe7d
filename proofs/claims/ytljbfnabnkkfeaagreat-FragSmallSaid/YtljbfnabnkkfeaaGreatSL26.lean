import Derived.Test.YtljbfnabnkkfeaaGreatSL19
import Derived.Test.YtljbfnabnkkfeaaGreatSL21
import Derived.Test.YtljbfnabnkkfeaaGreatSL22
import Derived.Test.YtljbfnabnkkfeaaGreatSL25
set_option linter.unusedVariables false
set_option linter.unusedSimpArgs false
/- Joined by program: FgYL, FgYH, FgTE. -/
namespace Go.Proofs.YtljbfnabnkkfeaaGreat
open Go.RowKit
set_option maxHeartbeats 4000000 in
set_option maxRecDepth 100000 in
theorem r7put_21 {u0 u4 u5 u7 u8 u12 u14 u15 u16 u17 u18 u19 u20 u21 u22 u23 u24 u25 u26 u27 u28 u29 u30 u31 u32 u33 u34 u35 u36 u37 u38 u39 u40 u41 u42 u43 u44 u45 u46 u47 u48 u49 u50 u51 u52 u53 u54 u55 u56 u57 u58 u59 u60 u61 u62 u63 u64 u65 u66 u67 u68 u69 u70 u71 u72 u73 u74 u75 u76 u77 u78 u79 u80 u81 u82 u83 u84 u85 u86 u87 u88 u89 u90 u91 u92 u93 u94 u95 u96 u97 u98 u99 u100 u101 u102 u103 u104 u105 u106 u107 u108 u109 u110 u111 u112 u113 u114 u115 u116 u117 u118 u119 u120 u121 u122 u123 u124 u125 u126 u127 u128 u129 u130 u131 u132 u133 u134 u135 u136 u137 u138 u139 u140 u141 u142 u143 u144 u145 u146 u147 u148 u149 u150 u151 u152 u153 u154 u155 u156 u157 u158 u159 u160 u161 u162 u163 u164 u165 u166 u167 u168 u169 u170 u171 u172 u173 u174 u175 u176 u177 u178 u179 u180 u181 u182 u183 u184 u185 u186 u187 u188 u189 u190 u191 u192 u193 u194 u195 u196 u197 u198 u199 u200 u201 u202 u203 u204 u205 u206 u207 u208 u209 u210 u211 u212 u213 u214 u215 u216 u217 u218 u219 u220 u221 u222 u223 u224 u225 u226 u227 u228 u229 u230 u231 u232 u233 u234 u235 u236 u237 u238 u239 u240 u241 u242 u243 u244 u245 u246 u247 u248 u249 u250 u251 u252 u253 u254 u255 u256 u257 u258 u259 u260 u261 u262 u263 u264 u265 u266 u267 u268 u269 u270 u271 u272 u273 u274 u275 u276 u277 : Value} (w : World) (a : AT) (r : RT) (now : Int) (zs : List Int) (K : Nat) (A : Option Addr) (n : Nat) (l : List EM) (bA : Option Addr) (bn bc fr tt : Nat) (k : Nat) (A3 : Option Addr) (n3 c3 : Nat) (l3 : List EM) (RP : List IT) (lm lf : Int) (TB RB HB : Nat) (Hd : HD) (oA : Option Addr) (on oc : Nat)
 (HP : Hid (PUT0 a r now K A n l w bA bn bc zs lm lf)) (HFT : Hid (sizeR zs=fr∧totalR zs=tt)) (HHE : Hid (Hd=hdOf zs)) (HFO : Hid (FOUNDR w r now Hd K A n l RP k A3 n3 c3 l3)) (w7 : World) (X8 : Hid (SP w w7 ([.blk TB 70 #[.int .i64 lm,.int .i64 lf,.int .i64 now,.slice A3 n3 c3],.blk HB 58 #[.int .u8 Hd.tos,.int .u16 Hd.id,.bool Hd.df,.bool Hd.mf,.int .i64 Hd.off,.int .u8 Hd.ttl,.int .u8 Hd.proto,.int .u32 Hd.src,.int .u32 Hd.dst,.slice oA on oc]]++([.blk RB 70 #[.int .i64 0,.int .i64 0,.int .i64 0,.slice none 0 0],.own .u8 5 oA on oc (optsOf zs)]++RP)))) :
 Code.wp Tryz.prog (sufAt Tryz.f27 21) (bodyPost Tryz.prog Tryz.f27 (PUTE a now zs K A n l w)) ⟨List.toArray (u0::.int .i64 now::.slice bA bn bc::.pointer (some ⟨TB,0,none⟩)::u4::u5::.pointer (some ⟨RB,0,none⟩)::u7::u8::.pointer (some ⟨HB,0,none⟩)::.int .i64 (fr : Int)::.int .i64 (tt : Int)::u12::.int .i64 (k : Int)::u14::u15::u16::u17::u18::u19::u20::u21::u22::u23::u24::u25::u26::u27::u28::u29::u30::u31::u32::u33::u34::u35::u36::u37::u38::u39::u40::u41::u42::u43::u44::u45::u46::u47::u48::u49::u50::u51::u52::u53::u54::u55::u56::u57::u58::u59::u60::u61::u62::u63::u64::u65::u66::u67::u68::u69::u70::u71::u72::u73::u74::u75::u76::u77::u78::u79::u80::u81::u82::u83::u84::u85::u86::u87::u88::u89::u90::u91::u92::u93::u94::u95::u96::u97::u98::u99::u100::u101::u102::u103::u104::u105::u106::u107::u108::u109::u110::u111::u112::u113::u114::u115::u116::u117::u118::u119::u120::u121::u122::u123::u124::u125::u126::u127::u128::u129::u130::u131::u132::u133::u134::u135::u136::u137::u138::u139::u140::u141::u142::u143::u144::u145::u146::u147::u148::u149::u150::u151::u152::u153::u154::u155::u156::u157::u158::u159::u160::u161::u162::u163::u164::u165::u166::u167::u168::u169::u170::u171::u172::u173::u174::u175::u176::u177::u178::u179::u180::u181::u182::u183::u184::u185::u186::u187::u188::u189::u190::u191::u192::u193::u194::u195::u196::u197::u198::u199::u200::u201::u202::u203::u204::u205::u206::u207::u208::u209::u210::u211::u212::u213::u214::u215::u216::u217::u218::u219::u220::u221::u222::u223::u224::u225::u226::u227::u228::u229::u230::u231::u232::u233::u234::u235::u236::u237::u238::u239::u240::u241::u242::u243::u244::u245::u246::u247::u248::u249::u250::u251::u252::u253::u254::u255::u256::u257::u258::u259::u260::u261::u262::u263::u264::u265::u266::u267::u268::u269::u270::u271::u272::u273::u274::u275::u276::u277::[]),[]⟩ w7:=by
 conv=>arg 2;whnf
 have hn:=HP.out.hn
 have hK:=HP.out.hK
 have hnc:=HP.out.hb
 have hFO:=HFO.out
 rw [HHE.out] at hFO
 obtain ⟨gs,hgs1,hgs2,hgs3⟩:=putr_part HP.out.rel HP.out.inv HP.out.late HP.out.fault HP.out.part hFO
 clear hFO
 have HGS:=Lib.hid (And.intro hgs1 (And.intro hgs2 hgs3))
 clear hgs1 hgs2 hgs3
 have hE:=HFO.out.er _ X8.out.right.right
 have hk:=HFO.out.hk
 have hm3:=HFO.out.hm
 have hcap3:=hE.cap
 obtain ⟨x,hx⟩ : ∃ x,l3[k]?=some x:=⟨_,List.getElem?_eq_getElem (by rw [hE.len];exact hk)⟩
 have hl3:=hE.len
 obtain ⟨ag,hag⟩ : ∃ y,gs[k]?=some y:=⟨_,List.getElem?_eq_getElem (by rw [HGS.out.2.1,hl3];exact hk)⟩
 have HX:=Lib.hid (And.intro hx (And.intro hag (show (l3.map EM.e)[k]?=some x.e by rw [List.getElem?_map,hx];rfl)))
 have HLL:=Lib.hid hl3
 have hxfn:=HFO.out.fn x (List.mem_of_getElem? hx)
 obtain ⟨g,off,hA3,hg,hc⟩:=hE.at_ k x hx
 have t0 : (0 : Int)<=(k : Int):=by omega
 have t1 : (k : Int) < (n3 : Int):=by omega
 have RA:=Lib.hid (show w7.rangeAt g (off + k * 8) [.int .u32 x.e.src,.int .u32 x.e.dst,.int .u8 x.e.proto,.int .u16 x.e.id,.int .i64 x.e.begin_,.int .i64 (x.e.bytes : Int),.bool x.e.dead,.slice x.fA x.fn x.fc] from fun j v hv=>hc j v hv)
 clear hE hc hg hag hx hl3
 have k3 : w7.cell? ⟨TB,3,none⟩=some (.slice (some ⟨g,off,none⟩) n3 c3):=by rw [<- hA3];exact X8.out.cell 0 rfl 3 rfl
 obtain ⟨XB,hXB⟩ : ∃ b,w7.heap.size=b:=⟨_,rfl⟩
 have Z0:=Lib.hid ((X8.out.alloc' 125 (List.toArray [.int .u32 x.e.src,.int .u32 x.e.dst,.int .u8 x.e.proto,.int .u16 x.e.id,.int .i64 x.e.begin_,.int .i64 (x.e.bytes : Int),.bool x.e.dead,.slice x.fA x.fn x.fc]) hXB).rot)
 go_upto_region 22 with (refine wpList_load_mid (by rfl) 125 _ (by rfl) g (off + k * 8) (by rfl) [.int .u32 x.e.src,.int .u32 x.e.dst,.int .u8 x.e.proto,.int .u16 x.e.id,.int .i64 x.e.begin_,.int .i64 (x.e.bytes : Int),.bool x.e.dead,.slice x.fA x.fn x.fc] _ RA.out Tryz.underlying125 rfl (by kernel_rfl) ?_)
 try rw [hXB]
 generalize hwz : w7.alloc (.cells #[.int .u32 x.e.src,.int .u32 x.e.dst,.int .u8 x.e.proto,.int .u16 x.e.id,.int .i64 x.e.begin_,.int .i64 (x.e.bytes : Int),.bool x.e.dead,.slice x.fA x.fn x.fc] 125)=w8 at ⊢
 have X9:=Lib.hid (show SP w w8 ([.blk XB 125 #[.int .u32 x.e.src,.int .u32 x.e.dst,.int .u8 x.e.proto,.int .u16 x.e.id,.int .i64 x.e.begin_,.int .i64 (x.e.bytes : Int),.bool x.e.dead,.slice x.fA x.fn x.fc],.blk TB 70 #[.int .i64 lm,.int .i64 lf,.int .i64 now,.slice A3 n3 c3],.blk HB 58 #[.int .u8 Hd.tos,.int .u16 Hd.id,.bool Hd.df,.bool Hd.mf,.int .i64 Hd.off,.int .u8 Hd.ttl,.int .u8 Hd.proto,.int .u32 Hd.src,.int .u32 Hd.dst,.slice oA on oc],.blk RB 70 #[.int .i64 0,.int .i64 0,.int .i64 0,.slice none 0 0],.own .u8 5 oA on oc (optsOf zs)]++RP) from by rw [<- hwz];exact Z0.out)
 clear hwz hXB Z0 X8 RA k3 hA3
 have x6 : w8.cell? ⟨XB,6,none⟩=some (.bool x.e.dead):=X9.out.cell 0 rfl 6 rfl
 obtain ⟨de,hde⟩ : ∃ b,x.e.dead=b:=⟨_,rfl⟩
 have HDE:=Lib.hid hde
 rw [hde] at x6
 clear hde
 cases de
 case true =>
  go_wp2_with (first
   | (refine wpList_load_row rfl 70 _ rfl TB rfl 70 #[.int .i64 lm,.int .i64 lf,.int .i64 now,.slice A3 n3 c3] (0,0) _ (X9.out.blk 1 rfl) Tryz.underlying70 rfl (by kernel_rfl) ?_)
   | (refine wpList_store_row rfl 70 _ _ rfl RB #[.int .i64 lm,.int .i64 lf,.int .i64 now,.slice A3 n3 c3] rfl rfl 70 #[.int .i64 0,.int .i64 0,.int .i64 0,.slice none 0 0] (X9.out.blk 3 rfl) (by kernel_rfl) rfl (by simp [Value.oneCell']) ?_))
  have XF:=Lib.hid (X9.out.setR 3 rfl #[.int .i64 lm,.int .i64 lf,.int .i64 now,.slice A3 n3 c3])
  refine bodyPost_ret (results_cell_tmp27 rfl _ _ RB 70 _ (0,0) _ rfl (XF.out.blk 3 rfl) Tryz.underlying70 rfl (by kernel_rfl)) rfl ?_
  have ha : addA gs k (frOf zs)=(gs,[],71):=addR_dead HGS.out.1 HX.out.2.1 HX.out.2.2 HDE.out
  have hp:=HGS.out.2.2
  rw [ha] at hp
  refine ⟨{ passR r now with es:=l3.map EM.e },A3,n3,c3,l3,none,0,0,?_,XF.out.bel,by rw [hp];exact putr_rel HP.out.rel HP.out.inv HGS.out.1,⟨HFO.out.er _ (show SP w _ (([_,_,_,_,_] : List IT)++RP) from XF.out).right,rfl⟩,HFO.out.foot,by rw [hp];exact RD.nil,fun h=>absurd h (Nat.lt_irrefl 0),hm3,fun y hy=>by have:=HFO.out.fn y hy;omega⟩
  rw [hp]
  unfold RT.val passR
  dsimp only
  rw [HP.out.lim,HP.out.life]
  rfl
 case false =>
 obtain ⟨r1,r2,r3,r4,hr,_⟩:=right7 HP.out.fault
 have hdl:=frOf_len HP.out.fault
 rw [HFT.out.1] at r2 r3 hdl
 rw [HFT.out.2] at r3 r4 hdl
 have hzl:=(HP.out.rd w (Below.refl _ _)).len
 rw [hzl] at r4
 have htb : tt<=65535:=by
  have:=hr.2.2.2.2.2.2.1
  rw [HFT.out.1,HFT.out.2] at this
  omega
 clear hr hzl r1
 have hon:=(X9.out.own 4 rfl).le
 obtain ⟨i2,hi2,hv0,hv1,hv2⟩:=info_parts infoU8
 obtain ⟨SA,hSA⟩ : ∃ SA,cutA bA bc fr=SA:=⟨_,rfl⟩
 have hc2 : tt<=bc:=by omega
 have hs1:=fun W=>run_slice_lohi (P:=Tryz.prog) W Tryz.underlying22 hi2 hv1 bA bn bc (fr : Int) (tt : Int) fr tt rfl rfl r3 hc2
 rw [hSA] at hs1
 have hRD : ∀ W,SP w W RP->RD .u8 W W.heap.size SA (tt - fr) (frOf zs).d:=fun W hS=>by
  have:=(HP.out.rd W hS.bel).mid (lo:=fr) (hi:=tt) r3 r4 hnc
  rw [hSA] at this
  unfold frOf
  rw [HFT.out.1,HFT.out.2]
  exact this
 obtain ⟨dn,hdn⟩ : ∃ v,tt - fr=v:=⟨_,rfl⟩
 obtain ⟨dc,hdc⟩ : ∃ v,bc - fr=v:=⟨_,rfl⟩
 rw [hdn,hdc] at hs1
 rw [hdn] at hRD hdl
 have hdn5 : dn<=65535:=by omega
 have hHf : (frOf zs).h=Hd:=by rw [HHE.out];rfl
 have HXO : ∀ W,SP w W RP->EMOK W x:=fun W h=>(HFO.out.er W h).ok x (List.mem_of_getElem? HX.out.1)
 have X11:=Lib.hid (show SP w w8 ([.blk XB 125 #[.int .u32 x.e.src,.int .u32 x.e.dst,.int .u8 x.e.proto,.int .u16 x.e.id,.int .i64 x.e.begin_,.int .i64 (x.e.bytes : Int),.bool x.e.dead,.slice x.fA x.fn x.fc],.blk HB 58 #[.int .u8 Hd.tos,.int .u16 Hd.id,.bool Hd.df,.bool Hd.mf,.int .i64 Hd.off,.int .u8 Hd.ttl,.int .u8 Hd.proto,.int .u32 Hd.src,.int .u32 Hd.dst,.slice oA on oc]]++([.blk TB 70 #[.int .i64 lm,.int .i64 lf,.int .i64 now,.slice A3 n3 c3],.blk RB 70 #[.int .i64 0,.int .i64 0,.int .i64 0,.slice none 0 0],.own .u8 5 oA on oc (optsOf zs)]++RP)) from SP.pickT (A:=[_,_,_,_,_]) (B:=[_,_,_,_,_]) (C:=RP) X9.out [0,2,1,3,4] rfl (by decide))
 clear X9 hdn hdc hSA
 have HP24:=Lib.hid (show r7xP w HB XB Hd oA on oc x.e x.fA x.fn x.fc x.fs bA bn bc fr tt SA dn dc (frOf zs).d ([.blk TB 70 #[.int .i64 lm,.int .i64 lf,.int .i64 now,.slice A3 n3 c3],.blk RB 70 #[.int .i64 0,.int .i64 0,.int .i64 0,.slice none 0 0],.own .u8 5 oA on oc (optsOf zs)]++RP) from
  ⟨fun W h=>(HXO W h.right).row,fun W h=>hRD W h.right,hs1,by omega,hdn5⟩)
 clear hs1 hRD
 go_upto_region 24 with fail
 clear x6
 refine wp_region_noPanic ?_
 refine wp_region_held_drew (S:=r7xS w HB XB Hd oA on oc x.e x.fA x.fn x.fc x.fs bA bn bc fr tt SA dn dc (frOf zs).d ([.blk TB 70 #[.int .i64 lm,.int .i64 lf,.int .i64 now,.slice A3 n3 c3],.blk RB 70 #[.int .i64 0,.int .i64 0,.int .i64 0,.slice none 0 0],.own .u8 5 oA on oc (optsOf zs)]++RP)) (by kernel_rfl) (X11.out.drew.blk 1 rfl) (fun hHeld=>?_)
 clear hHeld
 refine r7x_0 HP24 (Lib.hid ?_) _ (Lib.hid X11.out.drew)
 intro y144 y145 y146 y147 y148 y149 y150 y151 y152 y153 y154 y155 y156 y157 y158 g144 A147 c147 g149 A154 c154 g156 A157 c157 w9 hX12
 clear X11 HP24
 have X12:=Lib.hid (show SP w w9 (.row 127 11 A157 (x.fn + 1) c157 (x.fs.flatMap FM.cells++[.int .u8 Hd.tos,.int .u16 Hd.id,.bool Hd.df,.bool Hd.mf,.int .i64 Hd.off,.int .u8 Hd.ttl,.int .u8 Hd.proto,.int .u32 Hd.src,.int .u32 Hd.dst,.slice oA on oc,.slice A154 dn c154])::.own .u8 5 A154 dn c154 (frOf zs).d::.own .u8 5 oA on oc (optsOf zs)::([.blk XB 125 #[.int .u32 x.e.src,.int .u32 x.e.dst,.int .u8 x.e.proto,.int .u16 x.e.id,.int .i64 x.e.begin_,.int .i64 (x.e.bytes : Int),.bool x.e.dead,.slice A157 (x.fn + 1) c157],.blk TB 70 #[.int .i64 lm,.int .i64 lf,.int .i64 now,.slice A3 n3 c3],.blk RB 70 #[.int .i64 0,.int .i64 0,.int .i64 0,.slice none 0 0],.blk HB 58 #[.int .u8 Hd.tos,.int .u16 Hd.id,.bool Hd.df,.bool Hd.mf,.int .i64 Hd.off,.int .u8 Hd.ttl,.int .u8 Hd.proto,.int .u32 Hd.src,.int .u32 Hd.dst,.slice oA on oc]]++RP)) from
  SP.pickT (A:=[_,_,_,_,_,_,_]) (B:=[_,_,_,_,_,_,_]) (C:=RP) hX12 [2,3,6,0,4,5,1] rfl (by decide))
 clear hX12
 obtain ⟨Y,hY1,hY2⟩:=SP.objOf3 X12.out
 have hRP:=hY1.right.right
 have hX13:=SP.swap (A:=Y) (B:=[_,_,_,_]) (C:=RP) hY1
 obtain ⟨fm,hfm⟩ : ∃ v : FM,v=⟨frOf zs,oA,on,oc,A154,dn,c154⟩:=⟨_,rfl⟩
 have hfmf : fm.f=frOf zs:=by rw [hfm]
 have hrow:=X12.out.row 0 rfl
 have hcells : x.fs.flatMap FM.cells++[.int .u8 Hd.tos,.int .u16 Hd.id,.bool Hd.df,.bool Hd.mf,.int .i64 Hd.off,.int .u8 Hd.ttl,.int .u8 Hd.proto,.int .u32 Hd.src,.int .u32 Hd.dst,.slice oA on oc,.slice A154 dn c154]=(x.fs++[fm]).flatMap FM.cells:=by
  rw [List.flatMap_append,hfm,<- hHf]
  rfl
 rw [hcells] at hrow
 have hfo : FOK (frOf zs):=frOf_ok HP.out.fault HP.out.bd
 have hfmok : FMOK w9 fm:=by
  rw [hfm]
  exact ⟨X12.out.rd 2 rfl,X12.out.rd 1 rfl,(X12.out.own 2 rfl).le.1,(X12.out.own 1 rfl).le.1,hfo⟩
 have hxok:=HXO w9 hRP
 have hem0:=em_more (w:=w) hxok hfmok hrow (by omega)
 have hemf : EFE (FTK w (Y++RP)) ⟨goE x.e fm.f,A157,x.fn + 1,c157,x.fs++[fm]⟩:=by
  refine em_more_foot ((HFO.out.ftk.mono (fun g h=>FTK.right h)).each (List.mem_of_getElem? HX.out.1)) (fun _ p hp=>.inr (KEPT.left (hY2 _ (.inr (.inr ?_))))) (fun _ p hp=>.inr (KEPT.left (hY2 _ (.inr (.inl ?_))))) (fun p hp=>.inr (KEPT.left (hY2 _ (.inl ?_))))
  ·rw [hfm] at hp;exact congrArg (Option.map Addr.block) hp
  ·rw [hfm] at hp;exact congrArg (Option.map Addr.block) hp
  ·exact congrArg (Option.map Addr.block) hp
 have hemf2 : ∀ X,EFE (OLDNEW X w) x->EFE (OLDNEW X w) ⟨goE x.e fm.f,A157,x.fn + 1,c157,x.fs++[fm]⟩:=fun X h=>by
  refine em_more_foot h (fun _ p hp=>.inr ?_) (fun _ p hp=>.inr ?_) (fun p hp=>.inr ?_)
  ·rw [hfm] at hp
   exact (X12.out.ltm (x:=.own .u8 5 oA on oc (optsOf zs)) (List.mem_of_getElem? (i:=2) rfl) (congrArg (Option.map Addr.block) hp)).1
  ·rw [hfm] at hp
   exact (X12.out.ltm (x:=.own .u8 5 A154 dn c154 _) (List.mem_of_getElem? (i:=1) rfl) (congrArg (Option.map Addr.block) hp)).1
  ·exact (X12.out.ltm (x:=.row 127 11 A157 _ c157 _) (List.mem_of_getElem? (i:=0) rfl) (congrArg (Option.map Addr.block) hp)).1
 obtain ⟨xm,hxm⟩ : ∃ v : EM,v=⟨goE x.e fm.f,A157,x.fn + 1,c157,x.fs++[fm]⟩:=⟨_,rfl⟩
 rw [<- hxm] at hem0 hemf hemf2
 have hxA : xm.fA=A157:=by rw [hxm]
 have hxn : xm.fn=x.fn + 1:=by rw [hxm]
 have hxc : xm.fc=c157:=by rw [hxm]
 have X13:=Lib.hid (show SP w w9 ([.blk XB 125 #[.int .u32 x.e.src,.int .u32 x.e.dst,.int .u8 x.e.proto,.int .u16 x.e.id,.int .i64 x.e.begin_,.int .i64 (x.e.bytes : Int),.bool false,.slice xm.fA xm.fn xm.fc],.blk TB 70 #[.int .i64 lm,.int .i64 lf,.int .i64 now,.slice A3 n3 c3],.blk RB 70 #[.int .i64 0,.int .i64 0,.int .i64 0,.slice none 0 0],.blk HB 58 #[.int .u8 Hd.tos,.int .u16 Hd.id,.bool Hd.df,.bool Hd.mf,.int .i64 Hd.off,.int .u8 Hd.ttl,.int .u8 Hd.proto,.int .u32 Hd.src,.int .u32 Hd.dst,.slice oA on oc]]++(Y++RP)) from by
  rw [hxA,hxn,hxc,<- HDE.out]
  exact hX13)
 have HADD:=Lib.hid (show ADDF w a r now zs K A n l k A3 n3 c3 l3 (Y++RP) x xm gs ag lm lf from
  {
   rel:=HP.out.rel
   inv:=HP.out.inv
   lim:=HP.out.lim
   life:=HP.out.life
   rels:=HGS.out.1
   put:=HGS.out.2.2
   hag:=HX.out.2.1
   hx:=HX.out.1
   dead:=HDE.out
   xe:=by rw [hxm,hfmf]
   xfs:=by
    have:=hem0.fs
    rw [this,hxm,hfmf]
    rfl
   xfn:=by omega
   er:=fun W h=>HFO.out.er W h.right
   em:=frow_kept hX13.right hem0 hemf
   foot:=HFO.out.foot
   ef:=fun X h=>hemf2 X ((HFO.out.foot X h).each (List.mem_of_getElem? HX.out.1))
   hk:=hk
   hm:=hm3
   len:=HLL.out
   cap:=hcap3
   fn3:=HFO.out.fn
   ok:=hfo
   part:=part_of HP.out.fault HP.out.bd HP.out.part
   hn:=hn
   hK:=hK })
 clear hY1 hY2 hRP hX13 hrow hcells hfmok hxok hem0 hemf hemf2 X12 hfmf hxm hfm hfo hxA hxn hxc
 go_step
 go_step
 exact r7put_25 w a r now zs K A n l k A3 n3 c3 l3 (Y++RP) x xm gs ag lm lf TB RB HB XB _ HADD _ X13
set_option maxHeartbeats 8000000 in
set_option maxRecDepth 100000 in
theorem r7put_any (a : AT) (r : RT) (now : Int) (K : Nat) (A : Option Addr) (n c : Nat) (l : List EM) (w : World) (bA : Option Addr) (bn bc : Nat) (zs : List Int) (R : RELT a r) (I : AINV a) (B : ABND a) (h : RTM w r A n c l) (rd : RD .u8 w w.heap.size bA bn zs) (hz : BD 255 zs) (hnc : bn<=bc) (hbn : bn<=140737488351232) (hn : n<=K) (hfn : ∀ x ∈ l,x.fn<=K) (hK : K<=90000) :
 Calls Tryz.prog 27 #[r.val A n c,.int .i64 now,.slice bA bn bc] w (PUTE a now zs K A n l w):=by
 have H:=Lib.hid h
 have HR:=Lib.hid R
 have HI:=Lib.hid I
 have HB:=Lib.hid B
 have HZ:=Lib.hid hz
 have HFN:=Lib.hid hfn
 have RDB:=Lib.hid (fun (W : World) (hb : Below w.heap.size w W)=>rd.later hb)
 have HZL:=Lib.hid rd.len
 have HLT0:=Lib.hid (show lateA a now=(decide (now < r.now) || decide (1099511627776 < now)) by unfold lateA;rw [R.now])
 obtain ⟨nw,hnw⟩ : ∃ b,r.now=b:=⟨_,rfl⟩
 obtain ⟨lm,hlm⟩ : ∃ b,r.limit=b:=⟨_,rfl⟩
 obtain ⟨lf,hlf⟩ : ∃ b,r.life=b:=⟨_,rfl⟩
 have HV:=Lib.hid (show r.val A n c = .agg #[.int .i64 lm,.int .i64 lf,.int .i64 nw,.slice A n c] by unfold RT.val;rw [hlm,hlf,hnw])
 have HLM:=Lib.hid (And.intro hlm (And.intro hlf hnw))
 have hl1 : 1<=lm:=by rw [<- hlm,<- R.limit];exact B.lim.1
 obtain ⟨TB,hTB⟩ : ∃ b,w.heap.size=b:=⟨_,rfl⟩
 obtain ⟨RB,hRB⟩ : ∃ b,TB + 1=b:=⟨_,rfl⟩
 have X0:=Lib.hid (((SP.start w).alloc' (N:=TB) 70 #[.int .i64 lm,.int .i64 lf,.int .i64 nw,.slice A n c] hTB).alloc' (N:=RB) 70 #[.int .i64 0,.int .i64 0,.int .i64 0,.slice none 0 0] (by simp [hTB,hRB]))
 rw [HV.out]
 rw [hnw] at HLT0
 clear h R I B hz hfn rd hnw hlm hlf
 go_enter Tryz.func27,Tryz.ntmps27
 go_upto_region 1 with fail
 generalize hw1 : (w.alloc (.cells #[.int .i64 lm,.int .i64 lf,.int .i64 nw,.slice A n c] 70)).alloc (.cells #[.int .i64 0,.int .i64 0,.int .i64 0,.slice none 0 0] 70)=w1 at X0 ⊢
 clear hw1
 try rw [hRB]
 have X1:=Lib.hid (show SP w w1 [.blk TB 70 #[.int .i64 lm,.int .i64 lf,.int .i64 nw,.slice A n c],.blk RB 70 #[.int .i64 0,.int .i64 0,.int .i64 0,.slice none 0 0]] from X0.out)
 clear X0 hRB hTB
 have k2 : w1.cell? ⟨TB,2,none⟩=some (.int .i64 nw):=X1.out.cell 0 rfl 2 rfl
 obtain ⟨lt,hlt⟩ : ∃ b,(decide (now < nw) || decide (1099511627776 < now))=b:=⟨_,rfl⟩
 have HLT:=Lib.hid hlt
 rw [hlt] at HLT0
 clear hlt
 go_cut [32] (fun s32 wx=>s32 = .bool lt∧wx=w1)
 case first =>
  by_cases c1 : now < nw
  ·go_wp2_with fail
   go_meet
   exact ⟨by rw [<- HLT.out];simp [c1],rfl⟩
  ·by_cases c2 : 1099511627776 < now
   ·go_wp2_with fail
    go_meet
    exact ⟨by rw [<- HLT.out];simp [c2],rfl⟩
   ·go_wp2_with fail
    go_meet
    exact ⟨by rw [<- HLT.out];simp;omega,rfl⟩
 case rest =>
 obtain ⟨rfl,hwc⟩:=hcut
 rw [hwc]
 clear hwc wc k2
 cases lt
 case true =>
  go_wp2_with (first
   | (refine wpList_load_row rfl 70 _ rfl TB rfl 70 #[.int .i64 lm,.int .i64 lf,.int .i64 nw,.slice A n c] (0,0) _ (X1.out.blk 0 rfl) Tryz.underlying70 rfl (by kernel_rfl) ?_)
   | (refine wpList_store_row rfl 70 _ _ rfl RB #[.int .i64 lm,.int .i64 lf,.int .i64 nw,.slice A n c] rfl rfl 70 #[.int .i64 0,.int .i64 0,.int .i64 0,.slice none 0 0] (X1.out.blk 1 rfl) (by kernel_rfl) rfl (by simp [Value.oneCell']) ?_))
  have X2:=Lib.hid (X1.out.setR 1 rfl #[.int .i64 lm,.int .i64 lf,.int .i64 nw,.slice A n c])
  refine bodyPost_ret (results_cell_tmp27 rfl _ _ RB 70 _ (0,0) _ rfl (X2.out.blk 1 rfl) Tryz.underlying70 rfl (by kernel_rfl)) rfl ?_
  have hp : putA a now zs=(a,[],70):=putA_late HLT0.out
  refine ⟨r,A,n,c,l,none,0,0,by rw [HV.out,hp];rfl,X2.out.bel,by rw [hp];exact HR.out,⟨H.out.row.later X2.out.bel,H.out.es⟩,fun X h=>h.mono (fun g hg=>.inl hg),by rw [hp];exact RD.nil,fun h=>absurd h (Nat.lt_irrefl 0),by omega,fun x hx=>by have:=HFN.out x hx;omega⟩
 case false =>
 have HRE:=Lib.hid (r5Read_any bA bn bc zs w1 (RDB.out _ X1.out.bel) HZ.out hnc hbn)
 go_wp2_with fail
 refine HRE.out.mono ?_
 rintro e w2 ⟨oA,on,oc,rfl,ho,hb⟩
 have X2:=Lib.hid (X1.out.pushOwn hb ho)
 clear ho hb HRE X1
 obtain ⟨Hd,hH⟩ : ∃ H,hdR zs=H:=⟨_,rfl⟩
 have HH:=Lib.hid hH
 rw [hH]
 clear hH
 unfold HD.val HD.cells
 obtain ⟨HB2,hHB⟩ : ∃ b,b=w2.heap.size:=⟨_,rfl⟩
 have X3:=Lib.hid (X2.out.alloc' 58 #[.int .u8 Hd.tos,.int .u16 Hd.id,.bool Hd.df,.bool Hd.mf,.int .i64 Hd.off,.int .u8 Hd.ttl,.int .u8 Hd.proto,.int .u32 Hd.src,.int .u32 Hd.dst,.slice oA on oc] hHB.symm)
 clear X2
 go_upto_region 4 with fail
 rw [<- hHB]
 generalize w2.alloc (.cells #[.int .u8 Hd.tos,.int .u16 Hd.id,.bool Hd.df,.bool Hd.mf,.int .i64 Hd.off,.int .u8 Hd.ttl,.int .u8 Hd.proto,.int .u32 Hd.src,.int .u32 Hd.dst,.slice oA on oc] 58)=w3 at X3 ⊢
 clear hHB
 have X4:=Lib.hid (show SP w w3 [.blk TB 70 #[.int .i64 lm,.int .i64 lf,.int .i64 nw,.slice A n c],.blk HB2 58 #[.int .u8 Hd.tos,.int .u16 Hd.id,.bool Hd.df,.bool Hd.mf,.int .i64 Hd.off,.int .u8 Hd.ttl,.int .u8 Hd.proto,.int .u32 Hd.src,.int .u32 Hd.dst,.slice oA on oc],.blk RB 70 #[.int .i64 0,.int .i64 0,.int .i64 0,.slice none 0 0],.own .u8 5 oA on oc (optsR zs)] from X3.out.pick [0,3,1,2] (by decide) rfl)
 clear X3
 by_cases hf : faultR zs=7
 case neg =>
  have HF:=Lib.hid hf
  have hE : ipE zs=50 + faultR zs:=by unfold ipE;rw [if_neg hf]
  have hle:=faultR_le zs
  have b0 : ((ipE zs) != 0)=true:=by rw [hE];simp;omega
  clear hf hE hle
  go_wp2_with (first
   | (refine wpList_load_row rfl 70 _ rfl TB rfl 70 #[.int .i64 lm,.int .i64 lf,.int .i64 nw,.slice A n c] (0,0) _ (X4.out.blk 0 rfl) Tryz.underlying70 rfl (by kernel_rfl) ?_)
   | (refine wpList_store_row rfl 70 _ _ rfl RB #[.int .i64 lm,.int .i64 lf,.int .i64 nw,.slice A n c] rfl rfl 70 #[.int .i64 0,.int .i64 0,.int .i64 0,.slice none 0 0] (X4.out.blk 2 rfl) (by kernel_rfl) rfl (by simp [Value.oneCell']) ?_))
  have X5:=Lib.hid (X4.out.setR 2 rfl #[.int .i64 lm,.int .i64 lf,.int .i64 nw,.slice A n c])
  refine bodyPost_ret (results_cell_tmp27 rfl _ _ RB 70 _ (0,0) _ rfl (X5.out.blk 2 rfl) Tryz.underlying70 rfl (by kernel_rfl)) rfl ?_
  have hp : putA a now zs=(a,[],ipE zs):=putA_bad HLT0.out HF.out
  refine ⟨r,A,n,c,l,none,0,0,by rw [HV.out,hp];rfl,X5.out.bel,by rw [hp];exact HR.out,⟨H.out.row.later X5.out.bel,H.out.es⟩,fun X h=>h.mono (fun g hg=>.inl hg),by rw [hp];exact RD.nil,fun h=>absurd h (Nat.lt_irrefl 0),by omega,fun x hx=>by have:=HFN.out x hx;omega⟩
 case pos =>
 have hE : ipE zs=0:=by unfold ipE;rw [if_pos hf]
 have hO : optsR zs=optsOf zs:=by unfold optsR;rw [if_pos hf]
 have hF : fromR zs=sizeR zs:=by unfold fromR;rw [if_pos hf]
 have hT : toR zs=totalR zs:=by unfold toR;rw [if_pos hf]
 have hH : Hd=hdOf zs:=by rw [<- HH.out];unfold hdR;rw [if_pos hf]
 have HHE:=Lib.hid hH
 rw [hO] at X4
 rw [hE,hF,hT]
 obtain ⟨r1,r2,r3,r4,hr,_⟩:=right7 hf
 have hzl:=HZL.out
 have hoff:=(frOf_ok hf HZ.out).off
 replace hoff : 0<=(hdOf zs).off∧(hdOf zs).off % 8=0∧(hdOf zs).off<=65528:=hoff
 rw [<- hH] at hoff
 have hdl:=frOf_len hf
 obtain ⟨fr,hfr⟩ : ∃ m,sizeR zs=m:=⟨_,rfl⟩
 obtain ⟨tt,htt⟩ : ∃ m,totalR zs=m:=⟨_,rfl⟩
 have htb : tt<=65535:=by
  have:=hr.2.2.2.2.2.2.1
  rw [hfr,htt] at this
  rw [hfr] at r2
  omega
 rw [hfr] at r2 r3 ⊢
 rw [htt] at r3 r4 ⊢
 rw [hfr,htt] at hdl
 have HFT:=Lib.hid (And.intro hfr htt)
 have HF:=Lib.hid hf
 rw [hzl] at r1 r4
 have hlate:=HLT.out
 simp only [Bool.or_eq_false_iff,decide_eq_false_iff_not] at hlate
 have HPA:=r7pass_any r now A n c l w3 ⟨H.out.row.later X4.out.bel,H.out.es⟩ (by omega) (by rw [<- HR.out.life];exact HB.out.life) (HR.out.bnd HB.out)
 rw [HV.out] at HPA
 replace HPA:=Lib.hid HPA
 have HRP:=Lib.hid (show ∀ B m d,(passR r now).val B m d = .agg #[.int .i64 lm,.int .i64 lf,.int .i64 now,.slice B m d] by intro B m d;unfold RT.val passR;dsimp only;rw [HLM.out.1,HLM.out.2.1])
 clear hE hO hF hT hH hfr htt hf hzl HH hlate
 go_wp2_with (first
  | (refine wpList_load_row rfl 70 _ rfl TB rfl 70 #[.int .i64 lm,.int .i64 lf,.int .i64 nw,.slice A n c] (0,0) _ (X4.out.blk 0 rfl) Tryz.underlying70 rfl (by kernel_rfl) ?_))
 refine HPA.out.mono ?_
 rintro e w4 ⟨A1,n1,c1,rfl,hb4,hT4,hA1⟩
 rw [HRP.out]
 have hw34:=hb4.size
 have hX5:=X4.out.pushAll hb4
 have hle4 : w3.heap.size + (w4.heap.size - w3.heap.size)<=w4.heap.size:=by omega
 have hk0 : ∀ g,w3.heap.size<=g->g < w4.heap.size->KEPT (objsOf w4 w3.heap.size (w4.heap.size - w3.heap.size)) g:=fun g h1 h2=>by
  obtain ⟨o,_,h3⟩:=objs_has (w:=w4) (a:=w3.heap.size) (m:=w4.heap.size - w3.heap.size) (i:=g - w3.heap.size) hle4 (by omega)
  rw [show w3.heap.size + (g - w3.heap.size)=g by omega] at h3
  exact ⟨o,h3⟩
 obtain ⟨RO,hRO⟩ : ∃ L,objsOf w4 w3.heap.size (w4.heap.size - w3.heap.size)=L:=⟨_,rfl⟩
 rw [hRO] at hX5 hk0
 clear hRO hle4
 have hsub1 : ∀ x ∈ l.filter (inR r now),x ∈ l:=fun x hx=>(List.mem_filter.1 hx).1
 have hf4 : EFT (FTK w RO) A1 (l.filter (inR r now)):=EFT.of (fun x hx=>((H.out.row.ok x (hsub1 x hx)).foot).mono (fun g hg=>.inl hg)) (fun hne p hp=>.inr (hk0 _ (hA1 p hp) (hT4.row.foot.a hne p hp)))
 have hw3:=X4.out.size
 have HPS:=Lib.hid (show PASSR w r now K A n l RO A1 n1 c1 (l.filter (inR r now)) from
  ⟨rows_kept hX5.left hT4.row hf4,hf4,pass_foot (fun p hp=>Nat.le_trans hw3 (hA1 p hp)),hT4.es,hT4.row.len,filter_len_le H.out.row hT4.row,fun x hx=>HFN.out x (hsub1 x hx)⟩)
 have X5:=Lib.hid (show SP w w4 ([.blk TB 70 #[.int .i64 lm,.int .i64 lf,.int .i64 nw,.slice A n c],.blk HB2 58 #[.int .u8 Hd.tos,.int .u16 Hd.id,.bool Hd.df,.bool Hd.mf,.int .i64 Hd.off,.int .u8 Hd.ttl,.int .u8 Hd.proto,.int .u32 Hd.src,.int .u32 Hd.dst,.slice oA on oc]]++([.blk RB 70 #[.int .i64 0,.int .i64 0,.int .i64 0,.slice none 0 0],.own .u8 5 oA on oc (optsOf zs)]++RO)) from SP.comm (A:=RO) (B:=[_,_,_,_]) hX5)
 obtain ⟨l1,hl1'⟩ : ∃ L,l.filter (inR r now)=L:=⟨_,rfl⟩
 rw [hl1'] at HPS
 clear hb4 hT4 hA1 hX5 hk0 hf4 hw3 hw34 HPA X4 hsub1 hl1'
 go_upto_region 7 with (first
  | (refine wpList_store_row rfl 70 _ _ rfl TB #[.int .i64 lm,.int .i64 lf,.int .i64 now,.slice A1 n1 c1] rfl rfl 70 #[.int .i64 lm,.int .i64 lf,.int .i64 nw,.slice A n c] (X5.out.blk 0 rfl) (by kernel_rfl) rfl (by simp [Value.oneCell']) ?_))
 have X6:=Lib.hid (show SP w _ ([.blk TB 70 #[.int .i64 lm,.int .i64 lf,.int .i64 now,.slice A1 n1 c1],.blk HB2 58 #[.int .u8 Hd.tos,.int .u16 Hd.id,.bool Hd.df,.bool Hd.mf,.int .i64 Hd.off,.int .u8 Hd.ttl,.int .u8 Hd.proto,.int .u32 Hd.src,.int .u32 Hd.dst,.slice oA on oc]]++([.blk RB 70 #[.int .i64 0,.int .i64 0,.int .i64 0,.slice none 0 0],.own .u8 5 oA on oc (optsOf zs)]++RO)) from X5.out.setR 0 rfl #[.int .i64 lm,.int .i64 lf,.int .i64 now,.slice A1 n1 c1])
 generalize w4.setRow TB #[.int .i64 lm,.int .i64 lf,.int .i64 now,.slice A1 n1 c1]=w5 at X6 ⊢
 simp only [Act.put]
 clear X5
 have x3 : w5.cell? ⟨HB2,3,none⟩=some (.bool Hd.mf):=X6.out.cell 1 rfl 3 rfl
 have x4 : w5.cell? ⟨HB2,4,none⟩=some (.int .i64 Hd.off):=X6.out.cell 1 rfl 4 rfl
 obtain ⟨mf,hmf⟩ : ∃ b,Hd.mf=b:=⟨_,rfl⟩
 obtain ⟨of,hof⟩ : ∃ b,Hd.off=b:=⟨_,rfl⟩
 rw [hmf] at x3
 rw [hof] at x4 hoff
 have HMO:=Lib.hid (And.intro hmf hof)
 clear hmf hof
 obtain ⟨wh,hwh⟩ : ∃ b,((of == 0) && !mf)=b:=⟨_,rfl⟩
 have HWH:=Lib.hid hwh
 clear hwh
 go_cut [55] (fun s55 wx=>s55 = .bool wh∧wx=w5)
 case first =>
  clear hoff hdl htb r1 r2 r3 r4 hr
  by_cases h0 : of=0
  ·subst h0
   have d0 : ((0 : Int) == 0)=true:=rfl
   cases mf
   ·go_wp2_with fail
    go_meet
    exact ⟨by rw [<- HWH.out];rfl,rfl⟩
   ·go_wp2_with fail
    go_meet
    exact ⟨by rw [<- HWH.out];rfl,rfl⟩
  ·have d0 : (of == 0)=false:=by simp [h0]
   have HN0:=Lib.hid h0
   clear h0
   go_wp2_with fail
   go_meet
   exact ⟨by rw [<- HWH.out,d0];rfl,rfl⟩
 case rest =>
 obtain ⟨rfl,hwc⟩:=hcut
 rw [hwc]
 clear hwc wc x3 x4
 have HW2:=Lib.hid (show wh=true ↔ ((hdOf zs).mf=false∧(hdOf zs).off=0) by
  rw [<- HWH.out,Bool.and_eq_true,beq_iff_eq,Bool.not_eq_true',<- HMO.out.1,<- HMO.out.2,<- HHE.out]
  exact And.comm)
 clear HWH
 cases wh
 case true =>
  go_upto_region 8 with fail
  refine wp_region_noPanic ?_
  have X7:=Lib.hid (SP.pickT (A:=[_,_,_,_]) (B:=[_,_]) (C:=RO) X6.out [0,2] rfl (by decide))
  refine wp_region_held_drew (S:=r7wS w TB RB lm lf now A1 n1 c1 bA bn bc tt (zs.take tt) RO) (by kernel_rfl) (X7.out.drew.blk 0 rfl) (fun hHeld=>?_)
  clear hHeld
  refine r7w_0 (Lib.hid ⟨fun W h=>(RDB.out W h.bel).take r4,r4,hnc,htb⟩) (Lib.hid ?_) _ (Lib.hid X7.out.drew)
  intro y56 y57 y58 y59 y60 y61 g57 A61 c61 w6 hX6
  have X8:=Lib.hid hX6
  clear hX6 X7 X6
  go_wp2_with fail
  refine bodyPost_ret (results_cell_tmp27 rfl _ _ RB 70 _ (0,0) _ rfl (X8.out.blk 1 rfl) Tryz.underlying70 rfl (by kernel_rfl)) rfl ?_
  have hp : putA a now zs=(passA a now,zs.take tt,0):=by rw [<- HFT.out.2];exact putA_whole HLT0.out HF.out (HW2.out.1 (by first | rfl | trivial))
  refine ⟨passR r now,A1,n1,c1,l1,A61,tt,c61,by rw [HRP.out,hp];rfl,X8.out.bel,by rw [hp];exact relt_pass HR.out HI.out now,⟨HPS.out.er _ X8.out.right,HPS.out.es⟩,HPS.out.foot,by rw [hp];exact X8.out.rd 2 rfl,fun _ p hp2=>(X8.out.ltm (x:=.own .u8 5 A61 tt c61 _) (List.mem_of_getElem? (i:=2) rfl) (congrArg (Option.map Addr.block) hp2)).1,by have:=HPS.out.hm;omega,fun x hx=>by have:=HPS.out.fn x hx;omega⟩
 case false =>
 have hn1:=HPS.out.hm
 go_upto_region 11 with fail
 refine r7find_any w TB HB2 lm lf now A1 n1 c1 l1 Hd oA on oc ([.blk RB 70 #[.int .i64 0,.int .i64 0,.int .i64 0,.slice none 0 0],.own .u8 5 oA on oc (optsOf zs)]++RO) (by omega) (Lib.hid (fun W h=>HPS.out.er W h.right)) _ (Lib.hid X6.out) (Lib.hid ?_)
 intro y14 y15 y62 y63 y64 y65 y66 y67 y68 y69 y70 y71 y72 y73 y74 y75 y76 y77 y78 y79 y80 y81 y82 y83 y84 y85 y86 y87 y88 y89 y90 y91 y92 y93 y94 y95 y96 y97 y98 y99 y100 y101 w6 hX7
 have X7:=Lib.hid hX7
 clear hX7 X6
 go_upto_if 103 with fail
 refine r7of_any w TB HB2 lm lf now A n l A1 n1 c1 l1 Hd oA on oc [.blk RB 70 #[.int .i64 0,.int .i64 0,.int .i64 0,.slice none 0 0],.own .u8 5 oA on oc (optsOf zs)] RO r K (by omega) HLM.out.1 hl1 HPS _ (Lib.hid X7.out) (Lib.hid ?_)
 intro y103 y104 y105 y106 y107 y108 y109 y110 y111 y112 y113 y114 y115 y116 y117 y118 y119 y120 y121 y122 y123 y124 y125 y126 y127 y128 y129 y130 y131 y132 y133 y134 k A3 n3 c3 l3 YF w7 hF hX8
 have X8:=Lib.hid hX8
 have HFO:=Lib.hid hF
 clear hX8 hF X7 hn1
 have HP0:=Lib.hid (show PUT0 a r now K A n l w bA bn bc zs lm lf from ⟨HR.out,HI.out,HLT0.out,HF.out,fun h=>by have:=HW2.out.2 h;simp at this,HZ.out,RDB.out,HLM.out.1,HLM.out.2.1,hn,hK,hnc⟩)
 go_step
 go_step
 exact r7put_21 w a r now zs K A n l bA bn bc fr tt k A3 n3 c3 l3 (YF++RO) lm lf TB RB HB2 Hd oA on oc HP0 HFT HHE HFO _ X8
theorem fam_perm (b c : IT) (F1 F2 R : List IT) : (b::c::(F1++(F2++R))).Perm (F1++(b::(F2++(c::R)))):=by
 have p1 : (c::(F1++(F2++R))).Perm (F1++(F2++(c::R))):=(List.perm_middle (l₁:=F1) (a:=c) (l₂:=F2++R)).symm.trans (List.Perm.append_left F1 (List.perm_middle (l₁:=F2) (a:=c) (l₂:=R)).symm)
 exact (p1.cons b).trans (List.perm_middle (l₁:=F1) (a:=b) (l₂:=F2++(c::R))).symm
set_option maxHeartbeats 4000000 in
set_option maxRecDepth 100000 in
theorem tells_put {u0 u1 u2 u3 u4 u5 u6 u7 u8 u10 u12 u15 u17 u18 u19 u20 u21 u22 u23 u24 u25 u26 u27 u28 u29 u30 u31 u32 u33 u34 u35 u36 u37 u38 u39 u40 u41 u42 u43 u44 u45 u46 u47 u48 u49 u50 u51 u52 u53 u54 u55 u56 u57 u58 u59 u60 u61 u62 u63 u64 u65 u66 u67 u68 u69 u70 u71 u73 u74 u75 u76 u77 u78 u79 u80 u81 u82 u83 u84 u85 u86 u87 u88 u89 u90 u91 u92 u93 u94 u95 u96 u97 u98 u99 u100 u101 u102 u103 u104 u105 u106 u107 u108 u109 u110 u111 u112 u113 u114 u115 u116 u117 u118 u119 u120 u121 u122 u123 u124 u125 u126 u127 u128 u129 u130 u131 u132 u133 u134 u135 u136 u137 u138 u139 u140 u141 u142 u143 u144 u145 u146 u147 u148 u149 u150 u151 u152 u153 u154 u155 u156 u157 u158 u159 u160 u161 u162 u163 u164 u165 u166 u167 u168 u169 u170 u171 u172 u173 u174 u175 u176 u177 u178 u179 u180 u181 u182 u183 u184 u185 u186 u187 u188 u189 u190 u191 u192 u193 u194 u195 : Value} {Q : Exit->Act->World->Prop} (w : World) (TB MB XB : Nat) (x : OP) (HX : Hid (∀ W,Below w.heap.size w W->OPOK W x)) (kA : Option Addr) (k kc : Nat) (gA : Option Addr) (gc i : Nat) (hi : i<=40) (hx4 : x.n<=400) (w1 : World) (HT : Hid (TSTE w w1 TB MB [.blk XB 36 #[.bool x.put,.int .i64 x.now,.slice x.A x.n x.c]] kA k kc gA gc i))
 (HQ : Hid (∀ (y19 y20 y21 y22 y23 y24 y25 y87 y88 y89 y90 y91 y92 y93 y94 y95 y96 y97 y98 y99 y100 y101 y102 y103 y104 y105 y106 y107 y108 y109 y110 y111 y112 y113 y114 y115 y116 y117 y118 y119 y120 y121 y122 y123 y124 y125 y126 y127 y128 y129 y130 y131 y132 y133 y134 y135 y136 y137 y138 y139 y140 y141 y142 y143 y144 y145 y146 y147 y148 y149 y150 y151 y152 y153 y154 y155 y156 y157 y158 y159 y160 y161 y162 y163 y164 y165 y166 y167 y168 y169 y170 y171 y172 y173 y174 y175 y176 y177 y178 : Value) (kA' : Option Addr) (k' kc' : Nat) (gA' : Option Addr) (gc' : Nat) (w' : World),TSTE w w' TB MB [.blk XB 36 #[.bool x.put,.int .i64 x.now,.slice x.A x.n x.c]] kA' k' kc' gA' gc' (i + 1)->Q .normal ⟨List.toArray (u0::u1::u2::u3::u4::u5::u6::u7::u8::.pointer (some ⟨TB,0,none⟩)::u10::.pointer (some ⟨MB,0,none⟩)::u12::.slice kA' k' kc'::.slice gA' k' gc'::u15::.pointer (some ⟨XB,0,none⟩)::u17::u18::y19::y20::y21::y22::y23::y24::y25::u26::u27::u28::u29::u30::u31::u32::u33::u34::u35::u36::u37::u38::u39::u40::u41::u42::u43::u44::u45::u46::u47::u48::u49::u50::u51::u52::u53::u54::u55::u56::u57::u58::u59::u60::u61::u62::u63::u64::u65::u66::u67::u68::u69::u70::u71::.bool false::u73::u74::u75::u76::u77::u78::u79::u80::u81::u82::u83::u84::u85::u86::y87::y88::y89::y90::y91::y92::y93::y94::y95::y96::y97::y98::y99::y100::y101::y102::y103::y104::y105::y106::y107::y108::y109::y110::y111::y112::y113::y114::y115::y116::y117::y118::y119::y120::y121::y122::y123::y124::y125::y126::y127::y128::y129::y130::y131::y132::y133::y134::y135::y136::y137::y138::y139::y140::y141::y142::y143::y144::y145::y146::y147::y148::y149::y150::y151::y152::y153::y154::y155::y156::y157::y158::y159::y160::y161::y162::y163::y164::y165::y166::y167::y168::y169::y170::y171::y172::y173::y174::y175::y176::y177::y178::u179::u180::u181::u182::u183::u184::u185::u186::u187::u188::u189::u190::u191::u192::u193::u194::u195::[]),[]⟩ w')) :
 Code.wp Tryz.prog (condAt Tryz.f8 72) Q ⟨List.toArray (u0::u1::u2::u3::u4::u5::u6::u7::u8::.pointer (some ⟨TB,0,none⟩)::u10::.pointer (some ⟨MB,0,none⟩)::u12::.slice kA k kc::.slice gA k gc::u15::.pointer (some ⟨XB,0,none⟩)::u17::u18::u19::u20::u21::u22::u23::u24::u25::u26::u27::u28::u29::u30::u31::u32::u33::u34::u35::u36::u37::u38::u39::u40::u41::u42::u43::u44::u45::u46::u47::u48::u49::u50::u51::u52::u53::u54::u55::u56::u57::u58::u59::u60::u61::u62::u63::u64::u65::u66::u67::u68::u69::u70::u71::.bool false::u73::u74::u75::u76::u77::u78::u79::u80::u81::u82::u83::u84::u85::u86::u87::u88::u89::u90::u91::u92::u93::u94::u95::u96::u97::u98::u99::u100::u101::u102::u103::u104::u105::u106::u107::u108::u109::u110::u111::u112::u113::u114::u115::u116::u117::u118::u119::u120::u121::u122::u123::u124::u125::u126::u127::u128::u129::u130::u131::u132::u133::u134::u135::u136::u137::u138::u139::u140::u141::u142::u143::u144::u145::u146::u147::u148::u149::u150::u151::u152::u153::u154::u155::u156::u157::u158::u159::u160::u161::u162::u163::u164::u165::u166::u167::u168::u169::u170::u171::u172::u173::u174::u175::u176::u177::u178::u179::u180::u181::u182::u183::u184::u185::u186::u187::u188::u189::u190::u191::u192::u193::u194::u195::[]),[]⟩ w1:=by
 conv=>arg 2;whnf
 obtain ⟨a,r,A,m,d,l,G1,G2,RO,hT⟩:=HT.out
 have HS:=Lib.hid hT
 have hbnd:=hT.tab.bnd
 have hinv:=hT.tab.inv
 have hm:=hT.refs.hm
 have hlife : 1<=r.life∧r.life<=16777215:=by rw [<- hT.refs.rel.life];exact hbnd.life
 have hbeg:=hT.refs.rel.bnd hbnd
 have HI:=Lib.hid (And.intro hinv hbnd)
 have HZ:=Lib.hid (HX.out w (Below.refl _ _)).bd
 have HLE0:=Lib.hid (HX.out w (Below.refl _ _)).le
 have hxl:=(HX.out w (Below.refl _ _)).rd.len
 have HXL:=Lib.hid hxl
 have HRX:=Lib.hid (fun (W : World) (hb : Below w.heap.size w W)=>(HX.out W hb).rd)
 have HLN:=Lib.hid (lent_any x.A x.n x.c x.zs w1 (HRX.out _ hT.tab.bel) (by omega))
 have H1:=Lib.hid (show TAB w w1 TB a (([.blk XB 36 #[.bool x.put,.int .i64 x.now,.slice x.A x.n x.c]]++([.blk MB 70 (rcells r A m d),.row 22 1 kA k kc (G1.map gV),.row 22 1 gA k gc (G2.map gV)]++(G1.map gIT++G2.map gIT)))++RO) from hT.tab)
 obtain ⟨i9,hi9,hy0,hy1,hy2⟩:=info_parts (show (Tryz.prog.info? 22).map (fun i=>(i.zero,i.size,i.bytes))=some (some (.slice none 0 0),1,24) by kernel_rfl)
 clear hT hbnd hinv hlife hbeg HT hxl
 have x2 : w1.cell? ⟨XB,2,none⟩=some (.slice x.A x.n x.c):=H1.out.right.cell 0 rfl 2 rfl
 go_wp2_with fail
 refine HLN.out.mono ?_
 rintro e w2 ⟨Al,n1,rfl,hn1,ho,hb⟩
 obtain rfl : n1=x.n:=by rw [hn1];exact HXL.out
 have H2:=Lib.hid (show TAB w w2 TB a (([.own .u8 5 Al (x.n + 12) (x.n + 12) (x.zs++marksFrom 1 0 12),.blk XB 36 #[.bool x.put,.int .i64 x.now,.slice x.A x.n x.c]]++([.blk MB 70 (rcells r A m d),.row 22 1 kA k kc (G1.map gV),.row 22 1 gA k gc (G2.map gV)]++(G1.map gIT++G2.map gIT)))++RO) from H1.out.push hb ho)
 clear ho hb hn1 H1 x2 HLN
 have x1 : w2.cell? ⟨XB,1,none⟩=some (.int .i64 x.now):=H2.out.right.cell 1 rfl 1 rfl
 have HPT:=Lib.hid (tput H2.out Al x.n (x.n + 12) x.zs x.now (fun W hS=>by
  have h2:=(hS.rd 0 rfl).take (m:=x.n) (by omega)
  rw [List.take_left' HXL.out] at h2
  exact h2) HZ.out (by omega) (by omega))
 have hol:=putA_len a x.now x.zs (by rw [HXL.out];omega)
 obtain ⟨out,hout⟩ : ∃ v,(putA a x.now x.zs).2.1=v:=⟨_,rfl⟩
 obtain ⟨er,her⟩ : ∃ v,(putA a x.now x.zs).2.2=v:=⟨_,rfl⟩
 obtain ⟨a2,ha2⟩ : ∃ v,(putA a x.now x.zs).1=v:=⟨_,rfl⟩
 rw [hout,her,ha2] at HPT
 rw [hout] at hol
 have HNM:=Lib.hid (And.intro hout (And.intro her ha2))
 clear hout her ha2
 go_wp2_with fail
 refine HPT.out.mono ?_
 rintro e w3 ⟨bA,bm,bc,rfl,hbl,H3⟩
 have H3:=Lib.hid (show TAB w w3 TB a2 (([.own .u8 5 bA bm bc (out),.own .u8 5 Al (x.n + 12) (x.n + 12) (x.zs++marksFrom 1 0 12),.blk XB 36 #[.bool x.put,.int .i64 x.now,.slice x.A x.n x.c]]++([.blk MB 70 (rcells r A m d),.row 22 1 kA k kc (G1.map gV),.row 22 1 gA k gc (G2.map gV)]++(G1.map gIT++G2.map gIT)))++RO) from H3)
 have HM3:=HS.out.refs.keep (show SP w w1 RO from HS.out.tab.right.right) (show SP w w3 RO from H3.out.right.right) (fun y hy=>hy) (Nat.le_refl _)
 have HPU:=Lib.hid (r7put_any a r x.now i A m d l w3 x.A x.n x.c x.zs HM3.rel HI.out.1 HI.out.2 HM3.mem (HRX.out _ H3.out.bel) HZ.out HLE0.out (by omega) HM3.hm HM3.fn (by omega))
 have HF3:=Lib.hid HM3.ft
 rw [val_rcells] at HPU
 clear H2 x1 HPT HM3
 have x1 : w3.cell? ⟨XB,1,none⟩=some (.int .i64 x.now):=H3.out.right.cell 2 rfl 1 rfl
 have x2 : w3.cell? ⟨XB,2,none⟩=some (.slice x.A x.n x.c):=H3.out.right.cell 2 rfl 2 rfl
 go_wp2_with (refine wpList_load_row rfl 70 _ rfl MB rfl 70 (rcells r A m d) (0,0) _ (H3.out.right.blk 3 rfl) Tryz.underlying70 rfl (by kernel_rfl) ?_)
 refine HPU.out.mono ?_
 rintro e w4 ⟨r',B,m2,d2,l2,W,wn,wc,rfl,hP⟩
 rw [val_rcells,HNM.out.2.1]
 obtain ⟨OB,hOB⟩ : ∃ v,objsOf w4 w3.heap.size (w4.heap.size - w3.heap.size)=v:=⟨_,rfl⟩
 have hPA:=H3.out.pushAll hP.bel
 have hft:=refs_foot hP.bel.size hP.mem.row (hP.foot _ HF3.out)
 have hwk : 0 < wn->∀ p,W=some p->KEPT (objsOf w4 w3.heap.size (w4.heap.size - w3.heap.size)++RO) p.block:=fun h p hp=>objs_kept hP.bel.size (hP.wf h p hp) (hP.rd.foot h p hp)
 rw [hOB] at hPA hft hwk
 have hrd:=hP.rd
 rw [HNM.out.1] at hrd
 obtain rfl : wn=bm:=by rw [<- hrd.len];exact hbl
 have H4:=Lib.hid (show TAB w w4 TB a2 (([.own .u8 5 bA wn bc (out),.own .u8 5 Al (x.n + 12) (x.n + 12) (x.zs++marksFrom 1 0 12),.blk XB 36 #[.bool x.put,.int .i64 x.now,.slice x.A x.n x.c]]++([.blk MB 70 (rcells r A m d),.row 22 1 kA k kc (G1.map gV),.row 22 1 gA k gc (G2.map gV)]++(G1.map gIT++G2.map gIT)))++(OB++RO)) from TAB.swapF (O:=OB) (P:=[.own .u8 5 bA wn bc out,.own .u8 5 Al (x.n + 12) (x.n + 12) (x.zs++marksFrom 1 0 12),.blk XB 36 #[.bool x.put,.int .i64 x.now,.slice x.A x.n x.c]]++([.blk MB 70 (rcells r A m d),.row 22 1 kA k kc (G1.map gV),.row 22 1 gA k gc (G2.map gV)]++(G1.map gIT++G2.map gIT))) (C:=RO) hPA)
 have HM4:=Lib.hid (show REFS w4 (OB++RO) a2 r' B m2 d2 l2 (i + 1) from ⟨by rw [<- HNM.out.2.2];exact hP.rel,hP.mem,hft,by have:=hP.hm;omega,hP.fn⟩)
 have HWR:=Lib.hid (show ∀ V,SP w V (OB++RO)->RD .u8 V V.heap.size W wn out from fun V h=>hrd.keepX (X:=KEPT (OB++RO)) hwk (fun g hg=>kept_same (show SP w w4 (OB++RO) from H4.out.right.right) h (fun g o ho=>ho) hg))
 have hwl:=hrd.len
 clear hP hPA hft hwk hrd hOB HPU H3 x1 x2 HF3
 obtain ⟨bm,hbm⟩ : ∃ v,wn=v:=⟨_,rfl⟩
 rw [hbm] at H4 HWR hwl ⊢
 clear hbm hbl
 go_upto_region 30 with (refine wpList_store_row rfl 70 _ _ rfl MB (rcells r' B m2 d2) rfl rfl 70 (rcells r A m d) (H4.out.right.blk 3 rfl) (by kernel_rfl) rfl (rcells_one _ _ _ _) ?_)
 try simp only [Act.put]
 have H5:=Lib.hid (show TAB w (w4.setRow MB (rcells r' B m2 d2)) TB a2 (([.own .u8 5 bA bm bc (out),.own .u8 5 Al (x.n + 12) (x.n + 12) (x.zs++marksFrom 1 0 12),.blk XB 36 #[.bool x.put,.int .i64 x.now,.slice x.A x.n x.c]]++([.blk MB 70 (rcells r' B m2 d2),.row 22 1 kA k kc (G1.map gV),.row 22 1 gA k gc (G2.map gV)]++(G1.map gIT++G2.map gIT)))++(OB++RO)) from H4.out.liftF (fun C h=>h.setR 3 rfl (rcells r' B m2 d2)))
 have HM5:=Lib.hid (HM4.out.keep (show SP w w4 (OB++RO) from H4.out.right.right) (show SP w (w4.setRow MB (rcells r' B m2 d2)) (OB++RO) from H5.out.right.right) (fun y hy=>hy) (Nat.le_refl _))
 generalize w4.setRow MB (rcells r' B m2 d2)=w5 at H5 HM5 ⊢
 clear H4 HM4
 have HSB:=Lib.hid (show Calls Tryz.prog 28 #[.slice bA bm bc,.slice W bm wc] w5 (fun e w'=>e = .returned (.bool true)∧∃ m,w'=w5.drewN m) by
  have h5:=same_any bA W bm bc bm wc out out w5 (H5.out.right.rd 0 rfl) (HWR.out _ (show SP w w5 (OB++RO) from H5.out.right.right)) (by omega) (by omega)
  rw [show (out == out)=true by simp] at h5
  exact h5)
 have ne : ((er : Int) != er)=false:=by simp
 go_wp2_with fail
 refine HSB.out.mono ?_
 rintro e wa ⟨rfl,m5,rfl⟩
 have H6:=Lib.hid (H5.out.drewN m5)
 have HM6:=Lib.hid (HM5.out.keep (show SP w w5 (OB++RO) from H5.out.right.right) (show SP w (w5.drewN m5) (OB++RO) from H6.out.right.right) (fun y hy=>hy) (Nat.le_refl _))
 generalize w5.drewN m5=w6 at H6 HM6 ⊢
 clear H5 HM5 HSB
 have x2 : w6.cell? ⟨XB,2,none⟩=some (.slice x.A x.n x.c):=H6.out.right.cell 2 rfl 2 rfl
 have HKB:=Lib.hid (kept_any Al x.n x.zs x.A x.c w6 (HRX.out _ H6.out.bel) (H6.out.right.rd 1 rfl) (by omega))
 go_wp2_with fail
 refine HKB.out.mono ?_
 rintro e wa ⟨rfl,m6,rfl⟩
 have H7:=Lib.hid (H6.out.drewN m6)
 have HM7:=Lib.hid (HM6.out.keep (show SP w w6 (OB++RO) from H6.out.right.right) (show SP w (w6.drewN m6) (OB++RO) from H7.out.right.right) (fun y hy=>hy) (Nat.le_refl _))
 generalize w6.drewN m6=w7 at H7 HM7 ⊢
 clear H6 HM6 HKB x2 ne
 obtain ⟨C,hC,hS7⟩:=H7.out.opened
 have HC:=Lib.hid hC
 have HS7:=Lib.hid (show SP w w7 (OB++RO) from H7.out.right.right)
 obtain ⟨g,rfl,_⟩:=(H7.out.right.own 1 rfl).form (show 0 < x.n + 12 by omega)
 have X7:=Lib.hid (show SP w w7 ([.own .u8 5 (some ⟨g,0,none⟩) (x.n + 12) (x.n + 12) (x.zs++marksFrom 1 0 12)]++([.own .u8 5 bA bm bc (out),.blk XB 36 #[.bool x.put,.int .i64 x.now,.slice x.A x.n x.c],.blk MB 70 (rcells r' B m2 d2),.row 22 1 kA k kc (G1.map gV),.row 22 1 gA k gc (G2.map gV)]++(((G1.map gIT++G2.map gIT)++(OB++RO))++C))) from SP.pickT (A:=[_,_,_,_,_,_]) (B:=[_,_,_,_,_,_]) (C:=(((G1.map gIT++G2.map gIT)++(OB++RO))++C)) (show SP w w7 ([.own .u8 5 bA bm bc (out),.own .u8 5 (some ⟨g,0,none⟩) (x.n + 12) (x.n + 12) (x.zs++marksFrom 1 0 12),.blk XB 36 #[.bool x.put,.int .i64 x.now,.slice x.A x.n x.c],.blk MB 70 (rcells r' B m2 d2),.row 22 1 kA k kc (G1.map gV),.row 22 1 gA k gc (G2.map gV)]++(((G1.map gIT++G2.map gIT)++(OB++RO))++C)) from hS7) [1,0,2,3,4,5] rfl (by decide))
 clear hS7 H7 hC
 go_upto_region 33 with fail
 refine tells_inv w g x.n (x.n + 12) (x.n + 12) (x.n + 12) (x.zs++marksFrom 1 0 12) ([.own .u8 5 bA bm bc (out),.blk XB 36 #[.bool x.put,.int .i64 x.now,.slice x.A x.n x.c],.blk MB 70 (rcells r' B m2 d2),.row 22 1 kA k kc (G1.map gV),.row 22 1 gA k gc (G2.map gV)]++(((G1.map gIT++G2.map gIT)++(OB++RO))++C)) (by omega) (by omega) _ X7 (Lib.hid ?_)
 intro y24 y126 y127 y128 y129 y130 y131 y132 y133 y134 y135 y136 y137 zs2 w8 hX8
 have X8:=Lib.hid (show SP w w8 ([.own .u8 5 bA bm bc (out),.blk XB 36 #[.bool x.put,.int .i64 x.now,.slice x.A x.n x.c],.blk MB 70 (rcells r' B m2 d2),.row 22 1 kA k kc (G1.map gV),.row 22 1 gA k gc (G2.map gV)]++(((G1.map gIT++G2.map gIT)++(OB++RO))++C)) from hX8.tail)
 clear hX8 X7
 have X9:=Lib.hid (X8.out.next ((Below.refl _ w8).alloc (Nat.le_refl _) (.cells #[.slice bA bm bc] 22)))
 have HN1:=Lib.hid (fun (jj : Nat) (u : Value) (hu : [(.slice bA bm bc : Value)][jj]?=some u)=>one_new w8 22 (.slice bA bm bc) jj u hu)
 have hk:=HS.out.hk
 go_wp2_with (refine wpList_append_row1_w _ (by rfl) _ _ 25 rfl w.heap.size 22 i9 _ 1 24 Tryz.underlying25 hi9 hy0 hy1 hy2 (by rfl) (by decide) kA k kc (G1.map gV) rfl (X9.out.row 3 rfl) ⟨w8.heap.size,0,none⟩ 1 1 [.slice bA bm bc] rfl rfl HN1.out (by intro z hz;simp at hz;subst hz;rfl) (by simp only [maxLen];omega) (by omega) X9.out.size ?_;intro kA2 kc2 wY hrow hgrow hat;have X10:=Lib.hid (show SP w wY ([.own .u8 5 bA bm bc (out),.blk XB 36 #[.bool x.put,.int .i64 x.now,.slice x.A x.n x.c],.blk MB 70 (rcells r' B m2 d2),.row 22 1 kA2 (k + 1) kc2 (G1.map gV++[.slice bA bm bc]),.row 22 1 gA k gc (G2.map gV)]++(((G1.map gIT++G2.map gIT)++(OB++RO))++C)) from X9.out.appRow 3 rfl hrow hgrow hat);clear hrow hgrow hat)
 refine (copybytes_any W bm wc out wY (HWR.out _ (show SP w wY (OB++RO) from X10.out.right.left.right)) (by omega)).mono ?_
 rintro e w11 ⟨cA,cc,rfl,ho,hb⟩
 have X11:=Lib.hid (show SP w w11 ([.own .u8 5 cA bm cc (out),.own .u8 5 bA bm bc (out),.blk XB 36 #[.bool x.put,.int .i64 x.now,.slice x.A x.n x.c],.blk MB 70 (rcells r' B m2 d2),.row 22 1 kA2 (k + 1) kc2 (G1.map gV++[.slice bA bm bc]),.row 22 1 gA k gc (G2.map gV)]++(((G1.map gIT++G2.map gIT)++(OB++RO))++C)) from (X10.out.pushOwn hb ho).rot)
 clear ho hb X8 X9 X10 HN1
 have X12:=Lib.hid (X11.out.next ((Below.refl _ w11).alloc (Nat.le_refl _) (.cells #[.slice cA bm cc] 22)))
 have HN2:=Lib.hid (fun (jj : Nat) (u : Value) (hu : [(.slice cA bm cc : Value)][jj]?=some u)=>one_new w11 22 (.slice cA bm cc) jj u hu)
 go_upto_region 39 with (refine wpList_append_row1_w _ (by rfl) _ _ 25 rfl w.heap.size 22 i9 _ 1 24 Tryz.underlying25 hi9 hy0 hy1 hy2 (by rfl) (by decide) gA k gc (G2.map gV) rfl (X12.out.row 5 rfl) ⟨w11.heap.size,0,none⟩ 1 1 [.slice cA bm cc] rfl rfl HN2.out (by intro z hz;simp at hz;subst hz;rfl) (by simp only [maxLen];omega) (by omega) X12.out.size ?_;intro gA2 gc2 wZ hrow hgrow hat;have X13:=Lib.hid (show SP w wZ ([.own .u8 5 cA bm cc (out),.own .u8 5 bA bm bc (out),.blk XB 36 #[.bool x.put,.int .i64 x.now,.slice x.A x.n x.c],.blk MB 70 (rcells r' B m2 d2),.row 22 1 kA2 (k + 1) kc2 (G1.map gV++[.slice bA bm bc]),.row 22 1 gA2 (k + 1) gc2 (G2.map gV++[.slice cA bm cc])]++(((G1.map gIT++G2.map gIT)++(OB++RO))++C)) from X12.out.appRow 5 rfl hrow hgrow hat);clear hrow hgrow hat)
 have X14:=Lib.hid (show SP w wZ ([.row 22 1 gA2 (k + 1) gc2 (G2.map gV++[.slice cA bm cc]),.own .u8 5 bA bm bc (out),.own .u8 5 cA bm cc (out)]++([.blk XB 36 #[.bool x.put,.int .i64 x.now,.slice x.A x.n x.c],.blk MB 70 (rcells r' B m2 d2),.row 22 1 kA2 (k + 1) kc2 (G1.map gV++[.slice bA bm bc])]++(((G1.map gIT++G2.map gIT)++(OB++RO))++C))) from SP.pickT (A:=[_,_,_,_,_,_]) (B:=[_,_,_,_,_,_]) (C:=(((G1.map gIT++G2.map gIT)++(OB++RO))++C)) X13.out [5,1,0,2,3,4] rfl (by decide))
 clear X11 X12 X13 HN2
 refine tells_inc w gA2 bA cA (k + 1) k gc2 bm bc cc (G2.map gV++[.slice cA bm cc]) out ([.blk XB 36 #[.bool x.put,.int .i64 x.now,.slice x.A x.n x.c],.blk MB 70 (rcells r' B m2 d2),.row 22 1 kA2 (k + 1) kc2 (G1.map gV++[.slice bA bm bc])]++(((G1.map gIT++G2.map gIT)++(OB++RO))++C)) rfl (by omega) (by omega) (Lib.hid (by rw [List.getElem?_append_right (by rw [List.length_map,HS.out.k2];omega),List.length_map,HS.out.k2,Nat.sub_self];rfl)) _ X14 (Lib.hid ?_)
 intro y25 y149 y150 y151 y152 y153 y154 y155 y156 y157 y158 y159 y160 y161 y162 y163 y164 y165 y166 y167 y168 y169 y170 y171 y172 y173 y174 y175 y176 y177 y178 z2 w15 hX15
 have X15:=Lib.hid (show SP w w15 ([.blk XB 36 #[.bool x.put,.int .i64 x.now,.slice x.A x.n x.c],.blk MB 70 (rcells r' B m2 d2),.row 22 1 kA2 (k + 1) kc2 (G1.map gV++[.slice bA bm bc]),.row 22 1 gA2 (k + 1) gc2 (G2.map gV++[.slice cA bm cc]),.own .u8 5 bA bm bc (z2),.own .u8 5 cA bm cc (z2)]++(((G1.map gIT++G2.map gIT)++(OB++RO))++C)) from SP.pickT (A:=[_,_,_,_,_,_]) (B:=[_,_,_,_,_,_]) (C:=(((G1.map gIT++G2.map gIT)++(OB++RO))++C)) hX15 [3,4,5,0,1,2] rfl (by decide))
 clear hX15 X14
 have hz2:=(X15.out.own 4 rfl).len
 have hmap1 : (G1++[((⟨bA,bm,bc⟩ : SD),z2)]).map gV=G1.map gV++[.slice bA bm bc]:=by rw [List.map_append];rfl
 have hmap2 : (G2++[((⟨cA,bm,cc⟩ : SD),z2)]).map gV=G2.map gV++[.slice cA bm cc]:=by rw [List.map_append];rfl
 have hSF : SP w w15 ((([.blk XB 36 #[.bool x.put,.int .i64 x.now,.slice x.A x.n x.c]]++([.blk MB 70 (rcells r' B m2 d2),.row 22 1 kA2 (k + 1) kc2 ((G1++[((⟨bA,bm,bc⟩ : SD),z2)]).map gV),.row 22 1 gA2 (k + 1) gc2 ((G2++[((⟨cA,bm,cc⟩ : SD),z2)]).map gV)]++((G1++[((⟨bA,bm,bc⟩ : SD),z2)]).map gIT++(G2++[((⟨cA,bm,cc⟩ : SD),z2)]).map gIT)))++(OB++RO))++C):=by
  rw [hmap1,hmap2,List.map_append,List.map_append]
  refine X15.out.perm ?_
  have p:=fam_perm (.own .u8 5 bA bm bc (z2)) (.own .u8 5 cA bm cc (z2)) (G1.map gIT) (G2.map gIT) ((OB++RO)++C)
  have p2:=List.Perm.append_left [.blk XB 36 #[.bool x.put,.int .i64 x.now,.slice x.A x.n x.c],.blk MB 70 (rcells r' B m2 d2),.row 22 1 kA2 (k + 1) kc2 (G1.map gV++[.slice bA bm bc]),.row 22 1 gA2 (k + 1) gc2 (G2.map gV++[.slice cA bm cc])] p
  simp only [List.append_assoc,List.cons_append,List.nil_append,List.map_cons,List.map_nil] at p2 ⊢
  exact p2
 have HM15:=Lib.hid (HM7.out.keep HS7.out (show SP w w15 (OB++RO) from hSF.left.right) (fun y hy=>hy) (Nat.le_refl _))
 have HTF:=Lib.hid (HC.out.shut hSF)
 clear hSF hmap1 hmap2 X15
 go_wp2_with fail
 exact HQ.out _ _ _ _ _ _ _ _ _ _ _ _ _ _ _ _ _ _ _ _ _ _ _ _ _ _ _ _ _ _ _ _ _ _ _ _ _ _ _ _ _ _ _ _ _ _ _ _ _ _ _ _ _ _ _ _ _ _ _ _ _ _ _ _ _ _ _ _ _ _ _ _ _ _ _ _ _ _ _ _ _ _ _ _ _ _ _ _ _ _ _ _ _ _ _ _ _ _ _ kA2 (k + 1) kc2 gA2 gc2 w15 ⟨a2,r',B,m2,d2,l2,_,_,OB++RO,HTF.out,HM15.out,by rw [List.length_append,HS.out.k1];rfl,by rw [List.length_append,HS.out.k2];rfl,by rw [List.map_append,List.map_append,HS.out.same];rfl,fun y hy=>by
  rcases List.mem_append.1 hy with hy | hy
  ·exact HS.out.len y hy
  ·simp at hy;subst hy;dsimp only;omega,by omega⟩
end Go.Proofs.YtljbfnabnkkfeaaGreat
