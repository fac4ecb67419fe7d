import Derived.BigGuardPart
import Derived.Test.YtljbfnabnkkfeaaGreatSL24
set_option linter.unusedVariables false
set_option linter.unusedSimpArgs false
/- Joined by program: FgYG, FgYJ, FgYK. -/
namespace Go.Proofs.YtljbfnabnkkfeaaGreat
open Go.RowKit
def lenV : Value->Nat
 | .slice _ n _=>n
 | _=>0
set_option maxHeartbeats 4000000 in
set_option maxRecDepth 100000 in
theorem r7asm_any {u0 u1 u2 u3 u4 u5 u6 u7 u8 u9 u10 u11 u12 u13 u14 u15 u18 u21 u22 u23 u24 u25 u26 u27 u28 u29 u30 u31 u32 u33 u34 u35 u36 u37 u38 u39 u40 u41 u42 u43 u44 u45 u46 u47 u48 u49 u50 u51 u52 u53 u54 u55 u56 u57 u58 u59 u60 u61 u62 u63 u64 u65 u66 u67 u68 u69 u70 u71 u72 u73 u74 u75 u76 u77 u78 u79 u80 u81 u82 u83 u84 u85 u86 u87 u88 u89 u90 u91 u92 u93 u94 u95 u96 u97 u98 u99 u100 u101 u102 u103 u104 u105 u106 u107 u108 u109 u110 u111 u112 u113 u114 u115 u116 u117 u118 u119 u120 u121 u122 u123 u124 u125 u126 u127 u128 u129 u130 u131 u132 u133 u134 u135 u136 u137 u138 u139 u140 u141 u142 u143 u144 u145 u146 u147 u148 u149 u150 u151 u152 u153 u154 u155 u156 u157 u158 u159 u160 u161 u162 u163 u164 u165 u166 u167 u168 u169 u170 u171 u172 u173 u174 u175 u176 u177 u178 u179 u180 u181 u182 u183 u184 u185 u186 u187 u188 u189 u190 u191 u192 u193 u194 u195 u196 u197 u198 u199 u200 u201 u202 u203 u204 u205 u206 u207 u208 u209 u210 u211 u212 u213 u214 u215 u216 u217 u218 u219 u220 u221 u222 u223 u224 u225 u226 u227 u228 u229 u230 u231 u232 u233 u234 u235 u236 u237 u238 u239 u240 u241 u242 u243 u244 u245 u246 u247 u248 u249 u250 u251 u252 u253 u254 u255 u256 u257 u258 u259 u260 u261 u262 u263 u264 u265 u266 u267 u268 u269 u270 u271 u272 u273 u274 u275 u276 u277 : Value} {Q : Exit->Act->World->Prop} (w : World) (XB DB : Nat) (x : RE) (FA : Option Addr) (fn fc : Nat) (fs : List FM) (N : Nat) (R2 RO : List IT) (hfn : fn<=100000) (hN : N<=65515) (HFU : Hid (FULL (psN (frs fs)) N)) (FR : Hid (∀ W,SP w W RO->FROW W FA fn fs)) (w1 : World) (X1 : Hid (SP w w1 ([.blk XB 125 #[.int .u32 x.src,.int .u32 x.dst,.int .u8 x.proto,.int .u16 x.id,.int .i64 x.begin_,.int .i64 (x.bytes : Int),.bool x.dead,.slice FA fn fc],.blk DB 58 (HD.zero.cells (.slice none 0 0))]++(R2++RO))))
 (HQ : Hid (∀ (y21 y22 y181 y182 y183 y184 y185 y186 y187 y188 y189 y190 y191 y192 y193 y194 y195 y196 y197 y198 y199 y200 y201 y202 y203 y204 y205 y206 y207 y208 y209 y210 y211 y212 y213 y214 y215 y216 y217 : Value) (A19 : Option Addr) (c19 : Nat) (s : List Int × HD × List Int) (O : Option Addr) (on oc : Nat) (w' : World),ASMS (frs fs) N s->s.1.length=N->(∀ W,SP w W RO->RD .u8 W W.heap.size O on s.2.2)->SP w w' ([.blk XB 125 #[.int .u32 x.src,.int .u32 x.dst,.int .u8 x.proto,.int .u16 x.id,.int .i64 x.begin_,.int .i64 (x.bytes : Int),.bool x.dead,.slice FA fn fc],.blk DB 58 ((s).2.1.cells (.slice O on oc)),.own .u8 5 A19 (s).1.length c19 (s).1]++(R2++RO))->Q (.exit 2) ⟨List.toArray (u0::u1::u2::u3::u4::u5::u6::u7::u8::u9::u10::u11::u12::u13::u14::u15::.pointer (some ⟨XB,0,none⟩)::.int .i64 (N : Int)::u18::.slice A19 s.1.length c19::.pointer (some ⟨DB,0,none⟩)::y21::y22::u23::u24::u25::u26::u27::u28::u29::u30::u31::u32::u33::u34::u35::u36::u37::u38::u39::u40::u41::u42::u43::u44::u45::u46::u47::u48::u49::u50::u51::u52::u53::u54::u55::u56::u57::u58::u59::u60::u61::u62::u63::u64::u65::u66::u67::u68::u69::u70::u71::u72::u73::u74::u75::u76::u77::u78::u79::u80::u81::u82::u83::u84::u85::u86::u87::u88::u89::u90::u91::u92::u93::u94::u95::u96::u97::u98::u99::u100::u101::u102::u103::u104::u105::u106::u107::u108::u109::u110::u111::u112::u113::u114::u115::u116::u117::u118::u119::u120::u121::u122::u123::u124::u125::u126::u127::u128::u129::u130::u131::u132::u133::u134::u135::u136::u137::u138::u139::u140::u141::u142::u143::u144::u145::u146::u147::u148::u149::u150::u151::u152::u153::u154::u155::u156::u157::u158::u159::u160::u161::u162::u163::u164::u165::u166::u167::u168::u169::u170::u171::u172::u173::u174::u175::u176::u177::u178::u179::u180::y181::y182::y183::y184::y185::y186::y187::y188::y189::y190::y191::y192::y193::y194::y195::y196::y197::y198::y199::y200::y201::y202::y203::y204::y205::y206::y207::y208::y209::y210::y211::y212::y213::y214::y215::y216::y217::u218::u219::u220::u221::u222::u223::u224::u225::u226::u227::u228::u229::u230::u231::u232::u233::u234::u235::u236::u237::u238::u239::u240::u241::u242::u243::u244::u245::u246::u247::u248::u249::u250::u251::u252::u253::u254::u255::u256::u257::u258::u259::u260::u261::u262::u263::u264::u265::u266::u267::u268::u269::u270::u271::u272::u273::u274::u275::u276::u277::[]),[]⟩ w')) :
 Code.wp Tryz.prog (loopAt Tryz.f27 30) Q ⟨List.toArray (u0::u1::u2::u3::u4::u5::u6::u7::u8::u9::u10::u11::u12::u13::u14::u15::.pointer (some ⟨XB,0,none⟩)::.int .i64 (N : Int)::u18::.slice none 0 0::.pointer (some ⟨DB,0,none⟩)::u21::u22::u23::u24::u25::u26::u27::u28::u29::u30::u31::u32::u33::u34::u35::u36::u37::u38::u39::u40::u41::u42::u43::u44::u45::u46::u47::u48::u49::u50::u51::u52::u53::u54::u55::u56::u57::u58::u59::u60::u61::u62::u63::u64::u65::u66::u67::u68::u69::u70::u71::u72::u73::u74::u75::u76::u77::u78::u79::u80::u81::u82::u83::u84::u85::u86::u87::u88::u89::u90::u91::u92::u93::u94::u95::u96::u97::u98::u99::u100::u101::u102::u103::u104::u105::u106::u107::u108::u109::u110::u111::u112::u113::u114::u115::u116::u117::u118::u119::u120::u121::u122::u123::u124::u125::u126::u127::u128::u129::u130::u131::u132::u133::u134::u135::u136::u137::u138::u139::u140::u141::u142::u143::u144::u145::u146::u147::u148::u149::u150::u151::u152::u153::u154::u155::u156::u157::u158::u159::u160::u161::u162::u163::u164::u165::u166::u167::u168::u169::u170::u171::u172::u173::u174::u175::u176::u177::u178::u179::u180::u181::u182::u183::u184::u185::u186::u187::u188::u189::u190::u191::u192::u193::u194::u195::u196::u197::u198::u199::u200::u201::u202::u203::u204::u205::u206::u207::u208::u209::u210::u211::u212::u213::u214::u215::u216::u217::u218::u219::u220::u221::u222::u223::u224::u225::u226::u227::u228::u229::u230::u231::u232::u233::u234::u235::u236::u237::u238::u239::u240::u241::u242::u243::u244::u245::u246::u247::u248::u249::u250::u251::u252::u253::u254::u255::u256::u257::u258::u259::u260::u261::u262::u263::u264::u265::u266::u267::u268::u269::u270::u271::u272::u273::u274::u275::u276::u277::[]),[]⟩ w1:=by
 conv=>arg 2;whnf
 obtain ⟨i2,hi2,hv0,hv1,hv2⟩:=info_parts infoU8
 have X2:=Lib.hid (show SP w w1 ([.blk XB 125 #[.int .u32 x.src,.int .u32 x.dst,.int .u8 x.proto,.int .u16 x.id,.int .i64 x.begin_,.int .i64 (x.bytes : Int),.bool x.dead,.slice FA fn fc],.blk DB 58 (((([],HD.zero,[]) : List Int × HD × List Int)).2.1.cells (.slice none 0 0)),.own .u8 5 none ((([],HD.zero,[]) : List Int × HD × List Int)).1.length 0 ((([],HD.zero,[]) : List Int × HD × List Int)).1]++(R2++RO)) from SP.pickT (A:=[_,_,_]) (B:=[_,_,_]) (C:=R2++RO) (SP.rot (X1.out.pushOwn (Below.refl _ _) (OWN.nil (k:=.u8) (e:=5)))) [1,2,0] rfl (by decide))
 clear X1
 go_loopw [19,21,22] (fun s19 _ _ wr=>∃ (A19 : Option Addr) (c19 : Nat) (s : List Int × HD × List Int) (O : Option Addr) (on oc : Nat),s19 = .slice A19 s.1.length c19∧ASMS (frs fs) N s∧(∀ W,SP w W RO->RD .u8 W W.heap.size O on s.2.2)∧SP w wr ([.blk XB 125 #[.int .u32 x.src,.int .u32 x.dst,.int .u8 x.proto,.int .u16 x.id,.int .i64 x.begin_,.int .i64 (x.bytes : Int),.bool x.dead,.slice FA fn fc],.blk DB 58 ((s).2.1.cells (.slice O on oc)),.own .u8 5 A19 (s).1.length c19 (s).1]++(R2++RO))) (fun s19 _ _ _=>N - lenV s19)
 case atStart=>exact ⟨none,0,([],HD.zero,[]),none,0,0,rfl,asms_start _ _ _ _,fun W h=>RD.nil,X2.out⟩
 case round =>
  obtain ⟨A19,c19,s,O,on,oc,rfl,hA,hO,Y0⟩:=hrel
  have HA:=Lib.hid hA
  have HO:=Lib.hid hO
  have Y:=Lib.hid Y0
  clear Y0 X2 hA hO
  have hle:=HA.out.a.le
  by_cases hlt : s.1.length < N
  case neg =>
   have hEQ:=Lib.hid (show s.1.length=N by omega)
   have t1 : ¬ ((s.1.length : Int) < (N : Int)):=by omega
   go_wp2_with fail
   exact HQ.out _ _ _ _ _ _ _ _ _ _ _ _ _ _ _ _ _ _ _ _ _ _ _ _ _ _ _ _ _ _ _ _ _ _ _ _ _ _ _ A19 c19 s O on oc _ HA.out hEQ.out HO.out Y.out
  have HGR:=Lib.hid (HA.out.grows HFU.out hlt)
  have t1 : (s.1.length : Int) < (N : Int):=by omega
  go_wp2_with fail
  clear t1 hlt hle
  go_loopw [19,21,22] (fun s19 s21 _ wr=>∃ (i : Nat) (A19 : Option Addr) (c19 : Nat) (O : Option Addr) (on oc : Nat),i<=fn∧s21 = .int .i64 (i : Int)∧s19 = .slice A19 (((frs fs).take i).foldl asmStep s).1.length c19∧(∀ W,SP w W RO->RD .u8 W W.heap.size O on (((frs fs).take i).foldl asmStep s).2.2)∧SP w wr ([.blk XB 125 #[.int .u32 x.src,.int .u32 x.dst,.int .u8 x.proto,.int .u16 x.id,.int .i64 x.begin_,.int .i64 (x.bytes : Int),.bool x.dead,.slice FA fn fc],.blk DB 58 ((((frs fs).take i).foldl asmStep s).2.1.cells (.slice O on oc)),.own .u8 5 A19 (((frs fs).take i).foldl asmStep s).1.length c19 (((frs fs).take i).foldl asmStep s).1]++(R2++RO))) (fun _ s21 _ _=>fn - (intOf s21).toNat)
  case atStart=>exact ⟨0,A19,c19,O,on,oc,Nat.zero_le _,rfl,by rw [List.take_zero];rfl,by rw [List.take_zero];exact HO.out,by rw [List.take_zero];exact Y.out⟩
  case round =>
   clear Y HO
   obtain ⟨i,A19,c19,O,on,oc,hi,rfl,rfl,hO,Y0⟩:=hrel
   have HO:=Lib.hid hO
   have HAI:=Lib.hid (ASMS.fold HFU.out ((frs fs).take i) (fun f hf=>List.mem_of_mem_take hf) s HA.out)
   obtain ⟨s2,hs2⟩ : ∃ v,((frs fs).take i).foldl asmStep s=v:=⟨_,rfl⟩
   have HS2:=Lib.hid hs2
   rw [hs2] at HO HAI Y0 ⊢
   have Y:=Lib.hid Y0
   clear Y0 hO hs2
   have k7 : wr.cell? ⟨XB,7,none⟩=some (.slice FA fn fc):=Y.out.cell 0 rfl 7 rfl
   have hle:=HAI.out.a.le
   have hF:=FR.out _ Y.out.right.right
   by_cases hlt : i < fn
   case neg =>
    obtain rfl : i=fn:=by omega
    have t1 : ¬ (i : Int) < (i : Int):=by omega
    have hall : (frs fs).take i=frs fs:=List.take_of_length_le (by have:=hF.len;unfold frs;rw [List.length_map];omega)
    have HS3:=Lib.hid (show (frs fs).foldl asmStep s=s2 by rw [<- HS2.out,hall])
    clear hall hF
    go_wp2_with fail
    go_roundw
    case rel=>exact ⟨A19,c19,s2,O,on,oc,rfl,HAI.out,HO.out,Y.out⟩
    case measure =>
     have h1:=HGR.out
     rw [HS3.out] at h1
     simp only [lenV]
     omega
   have t1 : (i : Int) < (fn : Int):=by omega
   have t0 : (0 : Int)<=(i : Int):=by omega
   obtain ⟨f,hf⟩ : ∃ f,fs[i]?=some f:=⟨_,List.getElem?_eq_getElem (by rw [hF.len];exact hlt)⟩
   have HFX:=Lib.hid (And.intro hf (hF.ok f (List.mem_of_getElem? hf)))
   have HST:=Lib.hid (show ((frs fs).take (i + 1)).foldl asmStep s=asmStep s2 f.f by
    have h1 : (frs fs)[i]?=some f.f:=by unfold frs;rw [List.getElem?_map,hf];rfl
    rw [List.take_add_one,h1,List.foldl_append,HS2.out]
    rfl)
   obtain ⟨g,off,rfl,hg,hc⟩:=hF.at_ i f hf
   have RA:=Lib.hid (show wr.rangeAt g (off + i * 11) [.int .u8 f.f.h.tos,.int .u16 f.f.h.id,.bool f.f.h.df,.bool f.f.h.mf,.int .i64 f.f.h.off,.int .u8 f.f.h.ttl,.int .u8 f.f.h.proto,.int .u32 f.f.h.src,.int .u32 f.f.h.dst,.slice f.oA f.on f.oc,.slice f.dA f.dn f.dc] from fun j v hv=>hc j v hv)
   have e6 : IntKind.i64.wrap ((i : Int) + 1)=(i : Int) + 1:=IntWalk.i64_in _ (by omega)
   have hb:=HFX.out.2.ok.b
   have hdn:=HFX.out.2.dn
   have hne:=HFX.out.2.ne
   clear hF hc hf hg
   obtain ⟨FB,hFB⟩ : ∃ b,wr.heap.size=b:=⟨_,rfl⟩
   have Z0:=Lib.hid ((Y.out.alloc' 127 (List.toArray [.int .u8 f.f.h.tos,.int .u16 f.f.h.id,.bool f.f.h.df,.bool f.f.h.mf,.int .i64 f.f.h.off,.int .u8 f.f.h.ttl,.int .u8 f.f.h.proto,.int .u32 f.f.h.src,.int .u32 f.f.h.dst,.slice f.oA f.on f.oc,.slice f.dA f.dn f.dc]) hFB).rot)
   go_upto_region 35 with (refine wpList_load_mid (by rfl) 127 _ (by rfl) g (off + i * 11) (by rfl) [.int .u8 f.f.h.tos,.int .u16 f.f.h.id,.bool f.f.h.df,.bool f.f.h.mf,.int .i64 f.f.h.off,.int .u8 f.f.h.ttl,.int .u8 f.f.h.proto,.int .u32 f.f.h.src,.int .u32 f.f.h.dst,.slice f.oA f.on f.oc,.slice f.dA f.dn f.dc] _ RA.out Tryz.underlying127 rfl (by kernel_rfl) ?_)
   try rw [hFB]
   generalize hwz : wr.alloc (.cells #[.int .u8 f.f.h.tos,.int .u16 f.f.h.id,.bool f.f.h.df,.bool f.f.h.mf,.int .i64 f.f.h.off,.int .u8 f.f.h.ttl,.int .u8 f.f.h.proto,.int .u32 f.f.h.src,.int .u32 f.f.h.dst,.slice f.oA f.on f.oc,.slice f.dA f.dn f.dc] 127)=wz at ⊢
   replace Z0:=Lib.hid (show SP w wz (.blk FB 127 #[.int .u8 f.f.h.tos,.int .u16 f.f.h.id,.bool f.f.h.df,.bool f.f.h.mf,.int .i64 f.f.h.off,.int .u8 f.f.h.ttl,.int .u8 f.f.h.proto,.int .u32 f.f.h.src,.int .u32 f.f.h.dst,.slice f.oA f.on f.oc,.slice f.dA f.dn f.dc]::([.blk XB 125 #[.int .u32 x.src,.int .u32 x.dst,.int .u8 x.proto,.int .u16 x.id,.int .i64 x.begin_,.int .i64 (x.bytes : Int),.bool x.dead,.slice (some ⟨g,off,none⟩) fn fc],.blk DB 58 ((s2).2.1.cells (.slice O on oc)),.own .u8 5 A19 (s2).1.length c19 (s2).1]++(R2++RO))) from by rw [<- hwz];exact Z0.out)
   clear hwz hFB Y RA k7
   have x4 : wz.cell? ⟨FB,4,none⟩=some (.int .i64 f.f.h.off):=Z0.out.cell 0 rfl 4 rfl
   have x10 : wz.cell? ⟨FB,10,none⟩=some (.slice f.dA f.dn f.dc):=Z0.out.cell 0 rfl 10 rfl
   obtain ⟨D,hD⟩ : ∃ v,s2.1.length=v:=⟨_,rfl⟩
   have HD:=Lib.hid hD
   rw [hD]
   rw [hD] at hle
   rw [hD] at Z0
   obtain ⟨hit,hhit⟩ : ∃ b,(decide (f.f.h.off=(D : Int)) && decide (0 < f.dn))=b:=⟨_,rfl⟩
   have HH:=Lib.hid hhit
   clear hhit hD
   go_cut [208] from 197 to 208 (fun s208 wx=>s208 = .bool hit∧wx=wz)
   case first =>
    clear hb hdn hne hle
    by_cases c0 : f.f.h.off=(D : Int)
    ·have d0 : (f.f.h.off == (D : Int))=true:=by simp [c0]
     by_cases c1 : 0 < f.dn
     ·have d1 : (0 : Int) < (f.dn : Int):=by omega
      have d2 : decide ((0 : Int) < (f.dn : Int))=true:=by simp [c1]
      have HC:=Lib.hid (And.intro c0 c1)
      clear c0 c1
      go_wp2_with fail
      go_meet
      exact ⟨by rw [<- HH.out,decide_eq_true HC.out.1,decide_eq_true HC.out.2];rfl,rfl⟩
     ·have d1 : ¬ (0 : Int) < (f.dn : Int):=by omega
      have d2 : decide ((0 : Int) < (f.dn : Int))=false:=by simp;omega
      have HC:=Lib.hid (And.intro c0 c1)
      clear c0 c1
      go_wp2_with fail
      go_meet
      exact ⟨by rw [<- HH.out,decide_eq_false HC.out.2];simp,rfl⟩
    ·have d0 : (f.f.h.off == (D : Int))=false:=by simp [c0]
     have HC:=Lib.hid c0
     clear c0
     go_wp2_with fail
     go_meet
     exact ⟨by rw [<- HH.out,decide_eq_false HC.out];rfl,rfl⟩
   case rest =>
   obtain ⟨rfl,hwc⟩:=hcut
   rw [hwc]
   clear hwc wc x4
   have HHB:=Lib.hid (show hit=true ↔ (f.f.b=D∧f.f.d≠[]) by
    rw [<- HH.out,Bool.and_eq_true,decide_eq_true_eq,decide_eq_true_eq,hne]
    constructor
    ·rintro ⟨h1,h2⟩;exact ⟨by omega,h2⟩
    ·rintro ⟨h1,h2⟩;exact ⟨by omega,h2⟩)
   cases hit
   ·have hst : asmStep s2 f.f=s2:=by
     unfold asmStep
     rw [if_neg (by rw [HD.out];intro h;have:=HHB.out.2 h;simp at this)]
    have HST2:=Lib.hid (HST.out.trans hst)
    clear hst hb hdn hne hle x10
    go_wp2_with fail
    go_roundw
    case rel=>exact ⟨i + 1,A19,c19,O,on,oc,by omega,by go_num,by rw [HST2.out,HD.out],by rw [HST2.out];exact HO.out,by rw [HST2.out,HD.out];exact Z0.out.tail⟩
    case measure=>simp [intOf];omega
   have hbd:=HHB.out.1 rfl
   have hst : asmStep s2 f.f=(s2.1++f.f.d,if D=0 then f.f.h else s2.2.1,if D=0 then f.f.o else s2.2.2):=by
    unfold asmStep
    rw [HD.out,if_pos hbd]
   have HST2:=Lib.hid (HST.out.trans hst)
   have HDN:=Lib.hid hdn
   have hdn5:=hdn.2.1
   clear hst hb hne hbd
   go_step
   obtain ⟨zr,hzr⟩ : ∃ b,decide (D=0)=b:=⟨_,rfl⟩
   have HZR:=Lib.hid hzr
   have hz2 : (((D : Nat) : Int) == 0)=zr:=by rw [<- hzr];by_cases h : D=0 <;> simp [h]
   go_upto_region 36 with fail
   go_cut [211] from 209 to 211 (fun s211 wx=>s211 = .bool zr∧wx=wz)
   case first =>
    clear hzr hdn hdn5 hle
    go_wp2_with fail
    go_meet
    exact ⟨rfl,rfl⟩
   case rest =>
   obtain ⟨rfl,hwc⟩:=hcut
   rw [hwc]
   clear hwc wc hz2
   go_step
   go_cut [211] from 212 to 213 (fun s211 wx=>s211 = .bool zr∧∃ (O2 : Option Addr) (on2 oc2 : Nat),(∀ W,SP w W RO->RD .u8 W W.heap.size O2 on2 (if D=0 then f.f.o else s2.2.2))∧SP w wx ([.blk FB 127 #[.int .u8 f.f.h.tos,.int .u16 f.f.h.id,.bool f.f.h.df,.bool f.f.h.mf,.int .i64 f.f.h.off,.int .u8 f.f.h.ttl,.int .u8 f.f.h.proto,.int .u32 f.f.h.src,.int .u32 f.f.h.dst,.slice f.oA f.on f.oc,.slice f.dA f.dn f.dc],.blk XB 125 #[.int .u32 x.src,.int .u32 x.dst,.int .u8 x.proto,.int .u16 x.id,.int .i64 x.begin_,.int .i64 (x.bytes : Int),.bool x.dead,.slice (some ⟨g,off,none⟩) fn fc],.blk DB 58 ((if D=0 then f.f.h else s2.2.1).cells (.slice O2 on2 oc2)),.own .u8 5 A19 D c19 s2.1]++(R2++RO)))
   case first =>
    clear x10 hdn hdn5 hle
    cases zr
    ·have h0:=of_decide_eq_false hzr
     go_wp2_with fail
     go_meet
     exact ⟨rfl,O,on,oc,by rw [if_neg h0];exact HO.out,by rw [if_neg h0];exact Z0.out⟩
    ·have h0:=of_decide_eq_true hzr
     have RB:=Lib.hid (show wz.rangeAt FB 0 [.int .u8 f.f.h.tos,.int .u16 f.f.h.id,.bool f.f.h.df,.bool f.f.h.mf,.int .i64 f.f.h.off,.int .u8 f.f.h.ttl,.int .u8 f.f.h.proto,.int .u32 f.f.h.src,.int .u32 f.f.h.dst,.slice f.oA f.on f.oc] from fun j v hv=>by
      rw [Nat.zero_add,(Z0.out.blk 0 rfl).cell]
      show (List.toArray ([.int .u8 f.f.h.tos,.int .u16 f.f.h.id,.bool f.f.h.df,.bool f.f.h.mf,.int .i64 f.f.h.off,.int .u8 f.f.h.ttl,.int .u8 f.f.h.proto,.int .u32 f.f.h.src,.int .u32 f.f.h.dst,.slice f.oA f.on f.oc]++[.slice f.dA f.dn f.dc]))[j]?=some v
      rw [List.getElem?_toArray,List.getElem?_append_left (List.getElem?_eq_some_iff.1 hv).1]
      exact hv)
     have HZ0:=Lib.hid h0
     clear h0 hzr
     go_wp2_with (first
      | (refine wpList_load_mid (by rfl) 58 _ (by rfl) FB 0 (by rfl) [.int .u8 f.f.h.tos,.int .u16 f.f.h.id,.bool f.f.h.df,.bool f.f.h.mf,.int .i64 f.f.h.off,.int .u8 f.f.h.ttl,.int .u8 f.f.h.proto,.int .u32 f.f.h.src,.int .u32 f.f.h.dst,.slice f.oA f.on f.oc] _ RB.out Tryz.underlying58 rfl (by kernel_rfl) ?_)
      | (refine wpList_store_row rfl 58 _ _ rfl DB #[.int .u8 f.f.h.tos,.int .u16 f.f.h.id,.bool f.f.h.df,.bool f.f.h.mf,.int .i64 f.f.h.off,.int .u8 f.f.h.ttl,.int .u8 f.f.h.proto,.int .u32 f.f.h.src,.int .u32 f.f.h.dst,.slice f.oA f.on f.oc] rfl rfl 58 (s2.2.1.cells (.slice O on oc)) (Z0.out.blk 2 rfl) (by kernel_rfl) rfl (by simp [Value.oneCell']) ?_))
     go_meet
     refine ⟨rfl,f.oA,f.on,f.oc,fun W hW=>?_,?_⟩
     ·rw [if_pos HZ0.out]
      exact ((FR.out W hW).ok f (List.mem_of_getElem? HFX.out.1)).o
     ·rw [if_pos HZ0.out]
      exact Z0.out.setR 2 rfl _
   case rest =>
   obtain ⟨rfl,O2,on2,oc2,hO2,hX⟩:=hcut
   have Z2:=Lib.hid hX
   have HO2:=Lib.hid hO2
   clear hX hO2 Z0 HO x10
   have x10 : wc.cell? ⟨FB,10,none⟩=some (.slice f.dA f.dn f.dc):=Z2.out.cell 0 rfl 10 rfl
   have hdr:=((FR.out wc Z2.out.right.right).ok f (List.mem_of_getElem? HFX.out.1)).d
   have HDR:=Lib.hid hdr
   clear hdr hdn hzr
   go_wp2_with (refine wpList_append_rd _ rfl _ _ _ rfl .u8 w.heap.size 5 i2 1 Tryz.underlying22 hi2 hv0 hv1 hv2 A19 D c19 s2.1 rfl (Z2.out.own 3 rfl) _ f.dA f.dn f.dc f.f.d rfl HDR.out (by simp only [maxLen];omega) (by omega) Z2.out.size ?_;intro A20 c20 w20 happ;have Z3:=Lib.hid (Z2.out.app 3 rfl happ);clear happ)
   go_roundw
   case rel =>
    have hln : (s2.1++f.f.d).length=D + f.dn:=by rw [List.length_append,HD.out,HDN.out.1]
    refine ⟨i + 1,A20,c20,O2,on2,oc2,by omega,by go_num,by rw [HST2.out];dsimp only;rw [hln],by rw [HST2.out];exact HO2.out,?_⟩
    rw [HST2.out]
    dsimp only
    rw [hln]
    exact Z3.out.tail
   case measure=>simp [intOf];omega
def HD.plain (h : HD) : HD:={ h with mf:=false }
set_option maxHeartbeats 4000000 in
set_option maxRecDepth 100000 in
theorem r7put_180 {u0 u1 u2 u4 u5 u7 u8 u9 u10 u11 u12 u14 u15 u18 u19 u20 u21 u22 u23 u24 u25 u26 u27 u28 u29 u30 u31 u32 u33 u34 u35 u36 u37 u38 u39 u40 u41 u42 u43 u44 u45 u46 u47 u48 u49 u50 u51 u52 u53 u54 u55 u56 u57 u58 u59 u60 u61 u62 u63 u64 u65 u66 u67 u68 u69 u70 u71 u72 u73 u74 u75 u76 u77 u78 u79 u80 u81 u82 u83 u84 u85 u86 u87 u88 u89 u90 u91 u92 u93 u94 u95 u96 u97 u98 u99 u100 u101 u102 u103 u104 u105 u106 u107 u108 u109 u110 u111 u112 u113 u114 u115 u116 u117 u118 u119 u120 u121 u122 u123 u124 u125 u126 u127 u128 u129 u130 u131 u132 u133 u134 u135 u136 u137 u138 u139 u140 u141 u142 u143 u144 u145 u146 u147 u148 u149 u150 u151 u152 u153 u154 u155 u156 u157 u158 u159 u160 u161 u162 u163 u164 u165 u166 u167 u168 u169 u170 u171 u172 u173 u174 u175 u176 u177 u178 u179 u181 u182 u183 u184 u185 u186 u187 u188 u189 u190 u191 u192 u193 u194 u195 u196 u197 u198 u199 u200 u201 u202 u203 u204 u205 u206 u207 u208 u209 u210 u211 u212 u213 u214 u215 u216 u217 u218 u219 u220 u221 u222 u223 u224 u225 u226 u227 u228 u229 u230 u231 u232 u233 u234 u235 u236 u237 u238 u239 u240 u241 u242 u243 u244 u245 u246 u247 u248 u249 u250 u251 u252 u253 u254 u255 u256 u257 u258 u259 u260 u261 u262 u263 u264 u265 u266 u267 u268 u269 u270 u271 u272 u273 u274 u275 u276 u277 : Value} {Kc : Act->World->Prop} (w : World) (a : AT) (r : RT) (now : Int) (zs : List Int) (K : Nat) (A : Option Addr) (n : Nat) (l : List EM) (k : Nat) (A3 : Option Addr) (n3 c3 : Nat) (l3 : List EM) (RQ : List IT) (x xm : EM) (gs : List AG) (ag : AG) (lm lf : Int) (TB RB HB XB : Nat) (HC : Array Value)
 (HA : Hid (ADDF w a r now zs K A n l k A3 n3 c3 l3 RQ x xm gs ag lm lf)) (SZ : Nat) (sp fu : Bool) (hsz : Hid (sizeF (x.e.fs++[frOf zs])=SZ)) (hsp : Hid (decide (¬ GOODF (x.e.fs++[frOf zs]))=sp)) (hfu : Hid ((!sp && decide ((totF (x.e.fs++[frOf zs])).1=(SZ : Int)))=fu))
 (w1 : World) (X1 : Hid (SP w w1 ([.blk XB 125 #[.int .u32 x.e.src,.int .u32 x.e.dst,.int .u8 x.e.proto,.int .u16 x.e.id,.int .i64 x.e.begin_,.int .i64 (SZ : Int),.bool false,.slice xm.fA xm.fn xm.fc],.blk TB 70 #[.int .i64 lm,.int .i64 lf,.int .i64 now,.slice A3 n3 c3],.blk RB 70 #[.int .i64 0,.int .i64 0,.int .i64 0,.slice none 0 0],.blk HB 58 HC]++RQ)))
 (HK : Hid (∀ (y17 y19 y20 y21 y22 y23 y24 y180 y181 y182 y183 y184 y185 y186 y187 y188 y189 y190 y191 y192 y193 y194 y195 y196 y197 y198 y199 y200 y201 y202 y203 y204 y205 y206 y207 y208 y209 y210 y211 y212 y213 y214 y215 y216 y217 y218 y219 y220 y221 y222 y223 y224 y225 y226 y227 y228 y229 y230 y231 y232 y233 y234 y235 y236 y237 y238 y239 y240 y241 y242 y243 : Value) (dd : Bool) (w' : World),((dd=true->fu=true∧addA gs k (frOf zs)=(gs.set k (deadG ag),[],71)∧RELS (gs.set k (deadG ag)) ((l3.map EM.e).set k (deadE x.e)))∧(dd=false->fu=false))->SP w w' ([.blk XB 125 #[.int .u32 x.e.src,.int .u32 x.e.dst,.int .u8 x.e.proto,.int .u16 x.e.id,.int .i64 x.e.begin_,.int .i64 (SZ : Int),.bool dd,.slice xm.fA xm.fn xm.fc],.blk TB 70 #[.int .i64 lm,.int .i64 lf,.int .i64 now,.slice A3 n3 c3],.blk RB 70 #[.int .i64 0,.int .i64 0,.int .i64 0,.slice none 0 0],.blk HB 58 HC]++RQ)->Kc ⟨List.toArray (u0::u1::u2::.pointer (some ⟨TB,0,none⟩)::u4::u5::.pointer (some ⟨RB,0,none⟩)::u7::u8::u9::u10::u11::u12::.int .i64 (k : Int)::u14::u15::.pointer (some ⟨XB,0,none⟩)::y17::u18::y19::y20::y21::y22::y23::y24::u25::u26::u27::u28::u29::u30::u31::u32::u33::u34::u35::u36::u37::u38::u39::u40::u41::u42::u43::u44::u45::u46::u47::u48::u49::u50::u51::u52::u53::u54::u55::u56::u57::u58::u59::u60::u61::u62::u63::u64::u65::u66::u67::u68::u69::u70::u71::u72::u73::u74::u75::u76::u77::u78::u79::u80::u81::u82::u83::u84::u85::u86::u87::u88::u89::u90::u91::u92::u93::u94::u95::u96::u97::u98::u99::u100::u101::u102::u103::u104::u105::u106::u107::u108::u109::u110::u111::u112::u113::u114::u115::u116::u117::u118::u119::u120::u121::u122::u123::u124::u125::u126::u127::u128::u129::u130::u131::u132::u133::u134::u135::u136::u137::u138::u139::u140::u141::u142::u143::u144::u145::u146::u147::u148::u149::u150::u151::u152::u153::u154::u155::u156::u157::u158::u159::u160::u161::u162::u163::u164::u165::u166::u167::u168::u169::u170::u171::u172::u173::u174::u175::u176::u177::u178::u179::y180::y181::y182::y183::y184::y185::y186::y187::y188::y189::y190::y191::y192::y193::y194::y195::y196::y197::y198::y199::y200::y201::y202::y203::y204::y205::y206::y207::y208::y209::y210::y211::y212::y213::y214::y215::y216::y217::y218::y219::y220::y221::y222::y223::y224::y225::y226::y227::y228::y229::y230::y231::y232::y233::y234::y235::y236::y237::y238::y239::y240::y241::y242::y243::u244::u245::u246::u247::u248::u249::u250::u251::u252::u253::u254::u255::u256::u257::u258::u259::u260::u261::u262::u263::u264::u265::u266::u267::u268::u269::u270::u271::u272::u273::u274::u275::u276::u277::[]),[]⟩ w')) :
 Code.wp Tryz.prog (condAt Tryz.f27 180) (Exit.then Kc (bodyPost Tryz.prog Tryz.f27 (PUTE a now zs K A n l w))) ⟨List.toArray (u0::u1::u2::.pointer (some ⟨TB,0,none⟩)::u4::u5::.pointer (some ⟨RB,0,none⟩)::u7::u8::u9::u10::u11::u12::.int .i64 (k : Int)::u14::u15::.pointer (some ⟨XB,0,none⟩)::.int .i64 (totF (x.e.fs++[frOf zs])).1::u18::u19::u20::u21::u22::u23::u24::u25::u26::u27::u28::u29::u30::u31::u32::u33::u34::u35::u36::u37::u38::u39::u40::u41::u42::u43::u44::u45::u46::u47::u48::u49::u50::u51::u52::u53::u54::u55::u56::u57::u58::u59::u60::u61::u62::u63::u64::u65::u66::u67::u68::u69::u70::u71::u72::u73::u74::u75::u76::u77::u78::u79::u80::u81::u82::u83::u84::u85::u86::u87::u88::u89::u90::u91::u92::u93::u94::u95::u96::u97::u98::u99::u100::u101::u102::u103::u104::u105::u106::u107::u108::u109::u110::u111::u112::u113::u114::u115::u116::u117::u118::u119::u120::u121::u122::u123::u124::u125::u126::u127::u128::u129::u130::u131::u132::u133::u134::u135::u136::u137::u138::u139::u140::u141::u142::u143::u144::u145::u146::u147::u148::u149::u150::u151::u152::u153::u154::u155::u156::u157::u158::u159::u160::u161::u162::u163::u164::u165::u166::u167::u168::u169::u170::u171::u172::u173::u174::u175::u176::u177::u178::u179::.bool fu::u181::u182::u183::u184::u185::u186::u187::u188::u189::u190::u191::u192::u193::u194::u195::u196::u197::u198::u199::u200::u201::u202::u203::u204::u205::u206::u207::u208::u209::u210::u211::u212::u213::u214::u215::u216::u217::u218::u219::u220::u221::u222::u223::u224::u225::u226::u227::u228::u229::u230::u231::u232::u233::u234::u235::u236::u237::u238::u239::u240::u241::u242::u243::u244::u245::u246::u247::u248::u249::u250::u251::u252::u253::u254::u255::u256::u257::u258::u259::u260::u261::u262::u263::u264::u265::u266::u267::u268::u269::u270::u271::u272::u273::u274::u275::u276::u277::[]),[]⟩ w1:=by
 conv=>arg 2;whnf
 cases fu
 case false =>
  go_wp2_with fail
  exact HK.out _ _ _ _ _ _ _ _ _ _ _ _ _ _ _ _ _ _ _ _ _ _ _ _ _ _ _ _ _ _ _ _ _ _ _ _ _ _ _ _ _ _ _ _ _ _ _ _ _ _ _ _ _ _ _ _ _ _ _ _ _ _ _ _ _ _ _ _ _ _ _ false _ ⟨fun h=>by simp at h,fun _=>by first | rfl | trivial⟩ X1.out
 have hk:=HA.out.hk
 have hm3:=HA.out.hm
 have hcap:=HA.out.cap
 have hnK:=HA.out.hn
 have hKK:=HA.out.hK
 have hxfn:=HA.out.xfn
 have hGT : GOODF (x.e.fs++[frOf zs])∧(totF (x.e.fs++[frOf zs])).1=(SZ : Int):=by
  have h1:=hfu.out
  rw [Bool.and_eq_true,Bool.not_eq_true',decide_eq_true_eq] at h1
  have h2:=hsp.out
  rw [h1.1] at h2
  exact ⟨Classical.not_not.1 (of_decide_eq_false h2),h1.2⟩
 rw [hGT.2]
 have HG:=Lib.hid hGT
 have hT5:=(totF_le (x.e.fs++[frOf zs]) (fun f hf=>(HA.out.oks f hf).e)).1
 have hsz5 : SZ<=65515:=by rw [hGT.2] at hT5;omega
 have hsz0 : SZ≠0:=fun h=>totF_pos HA.out.parts HA.out.oks (by rw [hGT.2,h];rfl)
 have HFULL:=Lib.hid (show FULL (psN (frs xm.fs)) SZ by
  rw [HA.out.xfs,<- hsz.out]
  exact good_full hGT.1 (by rw [hsz.out];exact hGT.2))
 have HFRW:=Lib.hid (HA.out.frow)
 clear hGT hT5
 obtain ⟨DB,hDB⟩ : ∃ b,w1.heap.size=b:=⟨_,rfl⟩
 have X2:=Lib.hid (show SP w (w1.alloc (.cells (HD.zero.cells (.slice none 0 0)) 58)) ([.blk XB 125 #[.int .u32 x.e.src,.int .u32 x.e.dst,.int .u8 x.e.proto,.int .u16 x.e.id,.int .i64 x.e.begin_,.int .i64 (SZ : Int),.bool false,.slice xm.fA xm.fn xm.fc],.blk DB 58 (HD.zero.cells (.slice none 0 0))]++([.blk TB 70 #[.int .i64 lm,.int .i64 lf,.int .i64 now,.slice A3 n3 c3],.blk RB 70 #[.int .i64 0,.int .i64 0,.int .i64 0,.slice none 0 0],.blk HB 58 HC]++RQ)) from SP.pickT (A:=[_,_,_,_,_]) (B:=[_,_,_,_,_]) (C:=RQ) (SP.rot (X1.out.alloc' 58 (HD.zero.cells (.slice none 0 0)) hDB)) [1,0,2,3,4] rfl (by decide))
 clear X1
 go_upto_region 30 with fail
 try rw [hDB]
 refine r7asm_any w XB DB { x.e with bytes:=SZ,dead:=false } xm.fA xm.fn xm.fc xm.fs SZ [.blk TB 70 #[.int .i64 lm,.int .i64 lf,.int .i64 now,.slice A3 n3 c3],.blk RB 70 #[.int .i64 0,.int .i64 0,.int .i64 0,.slice none 0 0],.blk HB 58 HC] RQ (by omega) hsz5 HFULL HFRW _ (Lib.hid X2.out) (Lib.hid ?_)
 intro y21 y22 y181 y182 y183 y184 y185 y186 y187 y188 y189 y190 y191 y192 y193 y194 y195 y196 y197 y198 y199 y200 y201 y202 y203 y204 y205 y206 y207 y208 y209 y210 y211 y212 y213 y214 y215 y216 y217 A19 c19 s O on2 oc2 w3 hAS hlen hO hX
 rw [hlen] at hX ⊢
 have X3:=Lib.hid (show SP w w3 ([.blk XB 125 #[.int .u32 x.e.src,.int .u32 x.e.dst,.int .u8 x.e.proto,.int .u16 x.e.id,.int .i64 x.e.begin_,.int .i64 (SZ : Int),.bool false,.slice xm.fA xm.fn xm.fc],.blk DB 58 (s.2.1.cells (.slice O on2 oc2)),.own .u8 5 A19 SZ c19 s.1]++([.blk TB 70 #[.int .i64 lm,.int .i64 lf,.int .i64 now,.slice A3 n3 c3],.blk RB 70 #[.int .i64 0,.int .i64 0,.int .i64 0,.slice none 0 0],.blk HB 58 HC]++RQ)) from hX)
 have HAS:=Lib.hid (And.intro hAS (And.intro hlen hO))
 have hne : s.1≠[]:=fun h=>hsz0 (by rw [<- hlen,h];rfl)
 obtain ⟨q,hq,hqb,hqh,hqo⟩:=hAS.hd hne
 rw [HA.out.xfs] at hq
 have hqok:=HA.out.oks q hq
 have HQ:=Lib.hid (show s.2.1.plain.WF∧BD 255 s.2.2∧s.2.2.length<=40 from by
  rw [hqh,hqo]
  exact ⟨⟨hqok.wf.tos,hqok.wf.id,hqok.wf.off,hqok.wf.ttl,hqok.wf.proto,hqok.wf.src,hqok.wf.dst⟩,hqok.op.1,hqok.op.2⟩)
 clear hAS hlen hO hX X2 hne hq hqb hqh hqo hqok hDB
 have x3 : w3.cell? ⟨DB,3,none⟩=some (.bool s.2.1.mf):=X3.out.cell 1 rfl 3 rfl
 have q3 : w3.frozen? ⟨DB,3,none⟩=false:=X3.out.free 1 rfl 3
 go_upto_region 40 with fail
 have X4:=Lib.hid (show SP w (w3.setCell ⟨DB,3,none⟩ (.bool false)) ([.blk XB 125 #[.int .u32 x.e.src,.int .u32 x.e.dst,.int .u8 x.e.proto,.int .u16 x.e.id,.int .i64 x.e.begin_,.int .i64 (SZ : Int),.bool false,.slice xm.fA xm.fn xm.fc],.blk DB 58 (s.2.1.plain.cells (.slice O on2 oc2)),.own .u8 5 A19 SZ c19 s.1]++([.blk TB 70 #[.int .i64 lm,.int .i64 lf,.int .i64 now,.slice A3 n3 c3],.blk RB 70 #[.int .i64 0,.int .i64 0,.int .i64 0,.slice none 0 0],.blk HB 58 HC]++RQ)) from X3.out.setB 1 rfl 3 (.bool false))
 generalize w3.setCell ⟨DB,3,none⟩ (.bool false)=w4 at X4 ⊢
 clear X3 x3 q3
 have hro:=HAS.out.2.2 w4 X4.out.right.right
 have hon2 : on2<=40:=by rw [<- hro.len];exact HQ.out.2.2
 have HRO:=Lib.hid hro
 clear hro
 go_wp2_with (refine wpList_load_row rfl 58 _ rfl DB rfl 58 (s.2.1.plain.cells (.slice O on2 oc2)) (0,0) _ (X4.out.blk 1 rfl) Tryz.underlying58 rfl (by kernel_rfl) ?_)
 refine (r5Write_any s.2.1.plain O on2 oc2 s.2.2 A19 SZ c19 s.1 _ HQ.out.1 HRO.out HQ.out.2.1 (X4.out.rd 2 rfl) (by omega) (by omega)).mono ?_
 rintro e w5 ⟨WA,wn,wc,rfl,ho,hb5⟩
 by_cases hr2 : Rightly s.2.1.plain.off s.2.1.plain.mf on2 SZ
 ·have hE0 : wrE s.2.1.plain on2 SZ=0:=by unfold wrE;rw [if_pos hr2]
  have hwB : wrB s.2.1.plain s.2.2 s.1=pktB s.2.1.plain s.2.2 s.1:=by unfold wrB;rw [HRO.out.len,HAS.out.2.1,if_pos hr2]
  rw [hE0]
  rw [hwB] at ho
  have HR2:=Lib.hid hr2
  have X5:=Lib.hid (show SP w w5 ([.blk TB 70 #[.int .i64 lm,.int .i64 lf,.int .i64 now,.slice A3 n3 c3]]++([.own .u8 5 WA wn wc (pktB s.2.1.plain s.2.2 s.1),.blk RB 70 #[.int .i64 0,.int .i64 0,.int .i64 0,.slice none 0 0]]++RQ)) from SP.pickT (A:=[.own .u8 5 WA wn wc (pktB s.2.1.plain s.2.2 s.1),.blk XB 125 #[.int .u32 x.e.src,.int .u32 x.e.dst,.int .u8 x.e.proto,.int .u16 x.e.id,.int .i64 x.e.begin_,.int .i64 (SZ : Int),.bool false,.slice xm.fA xm.fn xm.fc],.blk DB 58 (s.2.1.plain.cells (.slice O on2 oc2)),.own .u8 5 A19 SZ c19 s.1,.blk TB 70 #[.int .i64 lm,.int .i64 lf,.int .i64 now,.slice A3 n3 c3],.blk RB 70 #[.int .i64 0,.int .i64 0,.int .i64 0,.slice none 0 0],.blk HB 58 HC]) (B:=[_,_,_]) (C:=RQ) (SP.rot (X4.out.pushOwn hb5 ho)) [4,0,5] rfl (by decide))
  clear ho hb5 X4 hE0 hwB hr2
  go_upto_region 42 with fail
  refine wp_region_noPanic ?_
  refine wp_region_held_drew (S:=r7yS w TB lm lf now A3 n3 c3 l3 k ([.own .u8 5 WA wn wc (pktB s.2.1.plain s.2.2 s.1),.blk RB 70 #[.int .i64 0,.int .i64 0,.int .i64 0,.slice none 0 0]]++RQ)) (by kernel_rfl) trivial (fun hHeld=>?_)
  clear hHeld
  refine r7y_0 (Lib.hid ⟨fun W h=>HA.out.er W h.right,by omega,hcap,hk⟩) (Lib.hid ?_) _ (Lib.hid X5.out.drew)
  intro y227 y228 y229 y230 y231 y232 y233 y234 y235 y236 y237 y238 y239 g227 A232 c232 A238 c238 w6 hX6
  have X6:=Lib.hid (show SP w w6 ([.blk TB 70 #[.int .i64 lm,.int .i64 lf,.int .i64 now,.slice A238 (k + (n3 - (k + 1))) c238],.blk RB 70 #[.int .i64 0,.int .i64 0,.int .i64 0,.slice none 0 0],.row 125 8 A238 (k + (n3 - (k + 1))) c238 ((l3.take k).flatMap EM.cells++(l3.drop (k + 1)).flatMap EM.cells),.own .u8 5 WA wn wc (pktB s.2.1.plain s.2.2 s.1)]++RQ) from SP.pickT (A:=[_,_,_,_]) (B:=[_,_,_,_]) (C:=RQ) hX6 [0,3,1,2] rfl (by decide))
  clear hX6 X5
  go_wp2_with (first
   | (refine wpList_load_row rfl 70 _ rfl TB rfl 70 #[.int .i64 lm,.int .i64 lf,.int .i64 now,.slice A238 (k + (n3 - (k + 1))) c238] (0,0) _ (X6.out.blk 0 rfl) Tryz.underlying70 rfl (by kernel_rfl) ?_)
   | (refine wpList_store_row rfl 70 _ _ rfl RB #[.int .i64 lm,.int .i64 lf,.int .i64 now,.slice A238 (k + (n3 - (k + 1))) c238] rfl rfl 70 #[.int .i64 0,.int .i64 0,.int .i64 0,.slice none 0 0] (X6.out.blk 1 rfl) (by kernel_rfl) rfl (by simp [Value.oneCell']) ?_))
  have X7:=Lib.hid (X6.out.setR 1 rfl #[.int .i64 lm,.int .i64 lf,.int .i64 now,.slice A238 (k + (n3 - (k + 1))) c238])
  refine bodyPost_ret (results_cell_tmp27 rfl _ _ RB 70 _ (0,0) _ rfl (X7.out.blk 1 rfl) Tryz.underlying70 rfl (by kernel_rfl)) rfl ?_
  have hRQ:=(show SP w _ (([_,_,_,_] : List IT)++RQ) from X7.out).right
  have hrow:=X7.out.row 2 rfl
  have hcells : (l3.take k).flatMap EM.cells++(l3.drop (k + 1)).flatMap EM.cells=(l3.take k++l3.drop (k + 1)).flatMap EM.cells:=by rw [List.flatMap_append]
  rw [hcells] at hrow
  have hes:=ems_erase l3 k
  have hlen2 : (l3.take k++l3.drop (k + 1)).length=(k + (n3 - (k + 1))):=by
   rw [List.length_append,List.length_take,List.length_drop,HA.out.len]
   omega
  have hadd : addA gs k (frOf zs)=(gs.eraseIdx k,pktB s.2.1.plain s.2.2 s.1,0)∧RELS (gs.eraseIdx k) ((l3.map EM.e).eraseIdx k):=by
   have hAS2:=HAS.out.1
   rw [HA.out.xfs,<- hsz.out] at hAS2
   have h1:=addR_done HA.out.rels HA.out.hag HA.out.he HA.out.dead HA.out.ok HA.out.part HG.out.1 (by rw [hsz.out];exact HG.out.2) hAS2 (by rw [hsz.out];exact HAS.out.2.1)
   have h2 : rightB s.2.1.off false s.2.2.length (sizeF (x.e.fs++[frOf zs]) : Int)=true:=by
    rw [hsz.out,HRO.out.len]
    exact rightB_yes HR2.out
   rw [if_pos h2] at h1
   exact h1
  refine ⟨_,A238,_,c238,_,WA,wn,wc,?_,HA.out.ended X7.out.bel hadd.1 (by rw [hes];exact hadd.2) hrow hlen2 (by omega) (fun y hy=>(HA.out.er _ hRQ).ok y (erase_mem hy)) (fun y hy=>.inl (erase_mem hy)) (fun p hp=>?_) (X7.out.rd 3 rfl) (fun _ p hp=>(X7.out.ltm (x:=.own .u8 5 WA wn wc _) (List.mem_of_getElem? (i:=3) rfl) (congrArg (Option.map Addr.block) hp)).1)⟩
  ·rw [HA.out.val,HA.out.put,hadd.1];rfl
  ·subst hp
   exact (X7.out.ltm (x:=.row 125 8 (some p) _ c238 _) (List.mem_of_getElem? (i:=2) rfl) rfl).1
 ·have hE2 : wrE s.2.1.plain on2 SZ=2:=by unfold wrE;rw [if_neg hr2]
  rw [hE2]
  have HR2:=Lib.hid hr2
  have X5:=Lib.hid (show SP w w5 ([.blk XB 125 #[.int .u32 x.e.src,.int .u32 x.e.dst,.int .u8 x.e.proto,.int .u16 x.e.id,.int .i64 x.e.begin_,.int .i64 (SZ : Int),.bool false,.slice xm.fA xm.fn xm.fc],.blk TB 70 #[.int .i64 lm,.int .i64 lf,.int .i64 now,.slice A3 n3 c3],.blk RB 70 #[.int .i64 0,.int .i64 0,.int .i64 0,.slice none 0 0],.blk HB 58 HC]++RQ) from SP.pickT (A:=[_,.blk XB 125 #[.int .u32 x.e.src,.int .u32 x.e.dst,.int .u8 x.e.proto,.int .u16 x.e.id,.int .i64 x.e.begin_,.int .i64 (SZ : Int),.bool false,.slice xm.fA xm.fn xm.fc],.blk DB 58 (s.2.1.plain.cells (.slice O on2 oc2)),.own .u8 5 A19 SZ c19 s.1,.blk TB 70 #[.int .i64 lm,.int .i64 lf,.int .i64 now,.slice A3 n3 c3],.blk RB 70 #[.int .i64 0,.int .i64 0,.int .i64 0,.slice none 0 0],.blk HB 58 HC]) (B:=[_,_,_,_]) (C:=RQ) (SP.rot (X4.out.pushOwn hb5 ho)) [1,4,5,6] rfl (by decide))
  clear ho hb5 X4 hE2 hr2
  have x6 : w5.cell? ⟨XB,6,none⟩=some (.bool false):=X5.out.cell 0 rfl 6 rfl
  have q6 : w5.frozen? ⟨XB,6,none⟩=false:=X5.out.free 0 rfl 6
  have hadd : addA gs k (frOf zs)=(gs.set k (deadG ag),[],71)∧RELS (gs.set k (deadG ag)) ((l3.map EM.e).set k (deadE x.e)):=by
   have hAS2:=HAS.out.1
   rw [HA.out.xfs,<- hsz.out] at hAS2
   have h1:=addR_done HA.out.rels HA.out.hag HA.out.he HA.out.dead HA.out.ok HA.out.part HG.out.1 (by rw [hsz.out];exact HG.out.2) hAS2 (by rw [hsz.out];exact HAS.out.2.1)
   have h2 : ¬ rightB s.2.1.off false s.2.2.length (sizeF (x.e.fs++[frOf zs]) : Int)=true:=by
    rw [hsz.out,HRO.out.len]
    intro h
    exact HR2.out (rightB_iff.1 h)
   rw [if_neg h2] at h1
   exact h1
  have HADD:=Lib.hid hadd
  clear hadd
  go_wp2_with fail
  exact HK.out _ _ _ _ _ _ _ _ _ _ _ _ _ _ _ _ _ _ _ _ _ _ _ _ _ _ _ _ _ _ _ _ _ _ _ _ _ _ _ _ _ _ _ _ _ _ _ _ _ _ _ _ _ _ _ _ _ _ _ _ _ _ _ _ _ _ _ _ _ _ _ true _ ⟨fun _=>⟨by first | rfl | trivial,HADD.out⟩,fun h=>by simp at h⟩ (X5.out.setB 0 rfl 6 (.bool true))
set_option maxHeartbeats 4000000 in
set_option maxRecDepth 100000 in
theorem r7put_25 {u0 u1 u2 u4 u5 u7 u8 u9 u10 u11 u12 u14 u15 u17 u18 u19 u20 u21 u22 u23 u24 u25 u26 u27 u28 u29 u30 u31 u32 u33 u34 u35 u36 u37 u38 u39 u40 u41 u42 u43 u44 u45 u46 u47 u48 u49 u50 u51 u52 u53 u54 u55 u56 u57 u58 u59 u60 u61 u62 u63 u64 u65 u66 u67 u68 u69 u70 u71 u72 u73 u74 u75 u76 u77 u78 u79 u80 u81 u82 u83 u84 u85 u86 u87 u88 u89 u90 u91 u92 u93 u94 u95 u96 u97 u98 u99 u100 u101 u102 u103 u104 u105 u106 u107 u108 u109 u110 u111 u112 u113 u114 u115 u116 u117 u118 u119 u120 u121 u122 u123 u124 u125 u126 u127 u128 u129 u130 u131 u132 u133 u134 u135 u136 u137 u138 u139 u140 u141 u142 u143 u144 u145 u146 u147 u148 u149 u150 u151 u152 u153 u154 u155 u156 u157 u158 u159 u160 u161 u162 u163 u164 u165 u166 u167 u168 u169 u170 u171 u172 u173 u174 u175 u176 u177 u178 u179 u180 u181 u182 u183 u184 u185 u186 u187 u188 u189 u190 u191 u192 u193 u194 u195 u196 u197 u198 u199 u200 u201 u202 u203 u204 u205 u206 u207 u208 u209 u210 u211 u212 u213 u214 u215 u216 u217 u218 u219 u220 u221 u222 u223 u224 u225 u226 u227 u228 u229 u230 u231 u232 u233 u234 u235 u236 u237 u238 u239 u240 u241 u242 u243 u244 u245 u246 u247 u248 u249 u250 u251 u252 u253 u254 u255 u256 u257 u258 u259 u260 u261 u262 u263 u264 u265 u266 u267 u268 u269 u270 u271 u272 u273 u274 u275 u276 u277 : Value} (w : World) (a : AT) (r : RT) (now : Int) (zs : List Int) (K : Nat) (A : Option Addr) (n : Nat) (l : List EM) (k : Nat) (A3 : Option Addr) (n3 c3 : Nat) (l3 : List EM) (RQ : List IT) (x xm : EM) (gs : List AG) (ag : AG) (lm lf : Int) (TB RB HB XB : Nat) (HC : Array Value)
 (HA : Hid (ADDF w a r now zs K A n l k A3 n3 c3 l3 RQ x xm gs ag lm lf)) (w1 : World) (X1 : Hid (SP w w1 ([.blk XB 125 #[.int .u32 x.e.src,.int .u32 x.e.dst,.int .u8 x.e.proto,.int .u16 x.e.id,.int .i64 x.e.begin_,.int .i64 (x.e.bytes : Int),.bool false,.slice xm.fA xm.fn xm.fc],.blk TB 70 #[.int .i64 lm,.int .i64 lf,.int .i64 now,.slice A3 n3 c3],.blk RB 70 #[.int .i64 0,.int .i64 0,.int .i64 0,.slice none 0 0],.blk HB 58 HC]++RQ))) :
 Code.wp Tryz.prog (sufAt Tryz.f27 25) (bodyPost Tryz.prog Tryz.f27 (PUTE a now zs K A n l w)) ⟨List.toArray (u0::u1::u2::.pointer (some ⟨TB,0,none⟩)::u4::u5::.pointer (some ⟨RB,0,none⟩)::u7::u8::u9::u10::u11::u12::.int .i64 (k : Int)::u14::u15::.pointer (some ⟨XB,0,none⟩)::u17::u18::u19::u20::u21::u22::u23::u24::u25::u26::u27::u28::u29::u30::u31::u32::u33::u34::u35::u36::u37::u38::u39::u40::u41::u42::u43::u44::u45::u46::u47::u48::u49::u50::u51::u52::u53::u54::u55::u56::u57::u58::u59::u60::u61::u62::u63::u64::u65::u66::u67::u68::u69::u70::u71::u72::u73::u74::u75::u76::u77::u78::u79::u80::u81::u82::u83::u84::u85::u86::u87::u88::u89::u90::u91::u92::u93::u94::u95::u96::u97::u98::u99::u100::u101::u102::u103::u104::u105::u106::u107::u108::u109::u110::u111::u112::u113::u114::u115::u116::u117::u118::u119::u120::u121::u122::u123::u124::u125::u126::u127::u128::u129::u130::u131::u132::u133::u134::u135::u136::u137::u138::u139::u140::u141::u142::u143::u144::u145::u146::u147::u148::u149::u150::u151::u152::u153::u154::u155::u156::u157::u158::u159::u160::u161::u162::u163::u164::u165::u166::u167::u168::u169::u170::u171::u172::u173::u174::u175::u176::u177::u178::u179::u180::u181::u182::u183::u184::u185::u186::u187::u188::u189::u190::u191::u192::u193::u194::u195::u196::u197::u198::u199::u200::u201::u202::u203::u204::u205::u206::u207::u208::u209::u210::u211::u212::u213::u214::u215::u216::u217::u218::u219::u220::u221::u222::u223::u224::u225::u226::u227::u228::u229::u230::u231::u232::u233::u234::u235::u236::u237::u238::u239::u240::u241::u242::u243::u244::u245::u246::u247::u248::u249::u250::u251::u252::u253::u254::u255::u256::u257::u258::u259::u260::u261::u262::u263::u264::u265::u266::u267::u268::u269::u270::u271::u272::u273::u274::u275::u276::u277::[]),[]⟩ w1:=by
 conv=>arg 2;whnf
 have hnK:=HA.out.hn
 have hKK:=HA.out.hK
 have hxfn:=HA.out.xfn
 obtain ⟨FL,hFL⟩ : ∃ v,x.e.fs++[frOf zs]=v:=⟨_,rfl⟩
 have HFL:=Lib.hid hFL
 have hfl2 : frs xm.fs=FL:=by rw [HA.out.xfs,hFL]
 obtain ⟨T,hT⟩ : ∃ v,(totF FL).1=v:=⟨_,rfl⟩
 obtain ⟨M,hM⟩ : ∃ v,(totF FL).2=v:=⟨_,rfl⟩
 obtain ⟨SZ,hSZ⟩ : ∃ v,sizeF FL=v:=⟨_,rfl⟩
 obtain ⟨sp,hsp⟩ : ∃ v,decide (¬ GOODF FL)=v:=⟨_,rfl⟩
 have HTO:=Lib.hid (show ∀ W,SP w W RQ->Calls Tryz.prog 54 #[.slice xm.fA xm.fn xm.fc] W (fun e w'=>e = .returned (.tuple #[.int .i64 T,.int .i64 (M : Int)])∧∃ m,w'=W.drewN m) from fun W h=>by
  have h2:=r7total_any xm.fA xm.fn xm.fc xm.fs W (HA.out.frow W h) (by omega)
  rw [hfl2,hT,hM] at h2
  exact h2)
 have HSI:=Lib.hid (show ∀ W,SP w W RQ->Calls Tryz.prog 55 #[.slice xm.fA xm.fn xm.fc] W (fun e w'=>e = .returned (.int .i64 (SZ : Int))∧∃ m,w'=W.drewN m) from fun W h=>by
  have h2:=r7size_any xm.fA xm.fn xm.fc xm.fs W (HA.out.frow W h) (by omega)
  rw [hfl2,hSZ] at h2
  exact h2)
 have HSP:=Lib.hid (show ∀ W,SP w W RQ->Calls Tryz.prog 56 #[.slice xm.fA xm.fn xm.fc] W (fun e w'=>e = .returned (.bool sp)∧∃ m,w'=W.drewN m) from fun W h=>by
  have h2:=r7spoilt_any xm.fA xm.fn xm.fc xm.fs W (HA.out.frow W h) (by omega)
  rw [hfl2,hsp] at h2
  exact h2)
 have HPT:=Lib.hid (show (totF (x.e.fs++[frOf zs])).1=T by rw [hFL,hT])
 have HPZ:=Lib.hid (show sizeF (x.e.fs++[frOf zs])=SZ by rw [hFL,hSZ])
 have HPS:=Lib.hid (show decide (¬ GOODF (x.e.fs++[frOf zs]))=sp by rw [hFL,hsp])
 clear hfl2 hT hM hSZ hsp hFL
 have x7 : w1.cell? ⟨XB,7,none⟩=some (.slice xm.fA xm.fn xm.fc):=X1.out.cell 0 rfl 7 rfl
 go_wp2_with fail
 refine (HTO.out _ X1.out.right).mono ?_
 rintro e wa ⟨rfl,m1,rfl⟩
 have X2:=Lib.hid (X1.out.drewN m1)
 generalize w1.drewN m1=wb at X2 ⊢
 clear X1 HTO x7
 have x7 : wb.cell? ⟨XB,7,none⟩=some (.slice xm.fA xm.fn xm.fc):=X2.out.cell 0 rfl 7 rfl
 go_wp2_with fail
 refine (HSI.out _ X2.out.right).mono ?_
 rintro e wa ⟨rfl,m2,rfl⟩
 have X3:=Lib.hid (X2.out.drewN m2)
 generalize wb.drewN m2=wd at X3 ⊢
 clear X2 HSI x7
 have x5:=X3.out.cell 0 rfl 5 rfl
 have q5 : wd.frozen? ⟨XB,5,none⟩=false:=X3.out.free 0 rfl 5
 go_upto_region 27 with fail
 have X4:=Lib.hid (show SP w (wd.setCell ⟨XB,5,none⟩ (.int .i64 (SZ : Int))) ([.blk XB 125 #[.int .u32 x.e.src,.int .u32 x.e.dst,.int .u8 x.e.proto,.int .u16 x.e.id,.int .i64 x.e.begin_,.int .i64 (SZ : Int),.bool false,.slice xm.fA xm.fn xm.fc],.blk TB 70 #[.int .i64 lm,.int .i64 lf,.int .i64 now,.slice A3 n3 c3],.blk RB 70 #[.int .i64 0,.int .i64 0,.int .i64 0,.slice none 0 0],.blk HB 58 HC]++RQ) from X3.out.setB 0 rfl 5 (.int .i64 (SZ : Int)))
 generalize wd.setCell ⟨XB,5,none⟩ (.int .i64 (SZ : Int))=wf at X4 ⊢
 clear X3 x5 q5
 obtain ⟨fu,hfu⟩ : ∃ b,(!sp && decide (T=(SZ : Int)))=b:=⟨_,rfl⟩
 have HFU:=Lib.hid hfu
 clear hfu
 go_cut [180] (fun s180 wx=>s180 = .bool fu∧SP w wx ([.blk XB 125 #[.int .u32 x.e.src,.int .u32 x.e.dst,.int .u8 x.e.proto,.int .u16 x.e.id,.int .i64 x.e.begin_,.int .i64 (SZ : Int),.bool false,.slice xm.fA xm.fn xm.fc],.blk TB 70 #[.int .i64 lm,.int .i64 lf,.int .i64 now,.slice A3 n3 c3],.blk RB 70 #[.int .i64 0,.int .i64 0,.int .i64 0,.slice none 0 0],.blk HB 58 HC]++RQ))
 case first =>
  have x7 : wf.cell? ⟨XB,7,none⟩=some (.slice xm.fA xm.fn xm.fc):=X4.out.cell 0 rfl 7 rfl
  have x5 : wf.cell? ⟨XB,5,none⟩=some (.int .i64 (SZ : Int)):=X4.out.cell 0 rfl 5 rfl
  go_wp2_with fail
  refine (HSP.out _ X4.out.right).mono ?_
  rintro e wa ⟨rfl,m3,rfl⟩
  have X5:=Lib.hid (X4.out.drewN m3)
  cases sp
  ·by_cases hts : T=(SZ : Int)
   ·have d0 : (T == (SZ : Int))=true:=by simp [hts]
    have HTS:=Lib.hid hts
    clear hts
    go_wp2_with fail
    go_meet
    exact ⟨by rw [<- HFU.out,decide_eq_true HTS.out];rfl,X5.out⟩
   ·have d0 : (T == (SZ : Int))=false:=by simp [hts]
    have HTS:=Lib.hid hts
    clear hts
    go_wp2_with fail
    go_meet
    exact ⟨by rw [<- HFU.out,decide_eq_false HTS.out];rfl,X5.out⟩
  ·go_wp2_with fail
   go_meet
   exact ⟨by rw [<- HFU.out];rfl,X5.out⟩
 case rest =>
 obtain ⟨rfl,hX⟩:=hcut
 have X5:=Lib.hid hX
 clear hX X4 HSP
 rw [<- HPT.out]
 have HFU2:=Lib.hid (show (!sp && decide ((totF (x.e.fs++[frOf zs])).1=(SZ : Int)))=fu by rw [HPT.out];exact HFU.out)
 go_step
 refine r7put_180 w a r now zs K A n l k A3 n3 c3 l3 RQ x xm gs ag lm lf TB RB HB XB HC HA SZ sp fu HPZ HPS HFU2 _ X5 (Lib.hid ?_)
 intro y17 y19 y20 y21 y22 y23 y24 y180 y181 y182 y183 y184 y185 y186 y187 y188 y189 y190 y191 y192 y193 y194 y195 y196 y197 y198 y199 y200 y201 y202 y203 y204 y205 y206 y207 y208 y209 y210 y211 y212 y213 y214 y215 y216 y217 y218 y219 y220 y221 y222 y223 y224 y225 y226 y227 y228 y229 y230 y231 y232 y233 y234 y235 y236 y237 y238 y239 y240 y241 y242 y243 dd w6 hdd hX6
 go_step
 exact r7put_45 w a r now zs K A n l k A3 n3 c3 l3 RQ x xm gs ag lm lf TB RB HB XB HC HA SZ sp fu dd HPZ HPS HFU2 (Lib.hid hdd) _ (Lib.hid hX6)
end Go.Proofs.YtljbfnabnkkfeaaGreat
