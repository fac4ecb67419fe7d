import Derived.BigGuardPart
import Derived.Test.YtljbfnabnkkfeaaGreatSL18
import Derived.Test.YtljbfnabnkkfeaaGreatSL20
set_option linter.unusedVariables false
set_option linter.unusedSimpArgs false
/- Joined by program: FgYE, FgYF. -/
namespace Go.Proofs.YtljbfnabnkkfeaaGreat
open Go.RowKit
set_option maxHeartbeats 2000000 in
set_option maxRecDepth 100000 in
theorem r7find_any {u0 u1 u2 u4 u5 u6 u7 u8 u10 u11 u12 u15 u16 u17 u18 u19 u20 u21 u22 u23 u24 u25 u26 u27 u28 u29 u30 u31 u32 u33 u34 u35 u36 u37 u38 u39 u40 u41 u42 u43 u44 u45 u46 u47 u48 u49 u50 u51 u52 u53 u54 u55 u56 u57 u58 u59 u60 u61 u62 u63 u64 u65 u66 u67 u68 u69 u70 u71 u72 u73 u74 u75 u76 u77 u78 u79 u80 u81 u82 u83 u84 u85 u86 u87 u88 u89 u90 u91 u92 u93 u94 u95 u96 u97 u98 u99 u100 u101 u102 u103 u104 u105 u106 u107 u108 u109 u110 u111 u112 u113 u114 u115 u116 u117 u118 u119 u120 u121 u122 u123 u124 u125 u126 u127 u128 u129 u130 u131 u132 u133 u134 u135 u136 u137 u138 u139 u140 u141 u142 u143 u144 u145 u146 u147 u148 u149 u150 u151 u152 u153 u154 u155 u156 u157 u158 u159 u160 u161 u162 u163 u164 u165 u166 u167 u168 u169 u170 u171 u172 u173 u174 u175 u176 u177 u178 u179 u180 u181 u182 u183 u184 u185 u186 u187 u188 u189 u190 u191 u192 u193 u194 u195 u196 u197 u198 u199 u200 u201 u202 u203 u204 u205 u206 u207 u208 u209 u210 u211 u212 u213 u214 u215 u216 u217 u218 u219 u220 u221 u222 u223 u224 u225 u226 u227 u228 u229 u230 u231 u232 u233 u234 u235 u236 u237 u238 u239 u240 u241 u242 u243 u244 u245 u246 u247 u248 u249 u250 u251 u252 u253 u254 u255 u256 u257 u258 u259 u260 u261 u262 u263 u264 u265 u266 u267 u268 u269 u270 u271 u272 u273 u274 u275 u276 u277 : Value} {Q : Exit->Act->World->Prop} (w : World) (TB HB : Nat) (limit life now : Int) (A : Option Addr) (n c : Nat) (l : List EM) (H : HD) (oA : Option Addr) (on oc : Nat) (RO : List IT) (hn : n<=100000) (ER : Hid (∀ W,SP w W RO->EROW W A n c l)) (w1 : World) (X1 : Hid (SP w w1 ([.blk TB 70 #[.int .i64 limit,.int .i64 life,.int .i64 now,.slice A n c],.blk HB 58 #[.int .u8 H.tos,.int .u16 H.id,.bool H.df,.bool H.mf,.int .i64 H.off,.int .u8 H.ttl,.int .u8 H.proto,.int .u32 H.src,.int .u32 H.dst,.slice oA on oc]]++RO)))
 (HQ : Hid (∀ (y14 y15 y62 y63 y64 y65 y66 y67 y68 y69 y70 y71 y72 y73 y74 y75 y76 y77 y78 y79 y80 y81 y82 y83 y84 y85 y86 y87 y88 y89 y90 y91 y92 y93 y94 y95 y96 y97 y98 y99 y100 y101 : Value) (w' : World),SP w w' ([.blk TB 70 #[.int .i64 limit,.int .i64 life,.int .i64 now,.slice A n c],.blk HB 58 #[.int .u8 H.tos,.int .u16 H.id,.bool H.df,.bool H.mf,.int .i64 H.off,.int .u8 H.ttl,.int .u8 H.proto,.int .u32 H.src,.int .u32 H.dst,.slice oA on oc]]++RO)->Q (.exit 0) ⟨List.toArray (u0::u1::u2::.pointer (some ⟨TB,0,none⟩)::u4::u5::u6::u7::u8::.pointer (some ⟨HB,0,none⟩)::u10::u11::u12::.int .i64 (lastE H (l.map EM.e))::y14::y15::u16::u17::u18::u19::u20::u21::u22::u23::u24::u25::u26::u27::u28::u29::u30::u31::u32::u33::u34::u35::u36::u37::u38::u39::u40::u41::u42::u43::u44::u45::u46::u47::u48::u49::u50::u51::u52::u53::u54::u55::u56::u57::u58::u59::u60::u61::y62::y63::y64::y65::y66::y67::y68::y69::y70::y71::y72::y73::y74::y75::y76::y77::y78::y79::y80::y81::y82::y83::y84::y85::y86::y87::y88::y89::y90::y91::y92::y93::y94::y95::y96::y97::y98::y99::y100::y101::u102::u103::u104::u105::u106::u107::u108::u109::u110::u111::u112::u113::u114::u115::u116::u117::u118::u119::u120::u121::u122::u123::u124::u125::u126::u127::u128::u129::u130::u131::u132::u133::u134::u135::u136::u137::u138::u139::u140::u141::u142::u143::u144::u145::u146::u147::u148::u149::u150::u151::u152::u153::u154::u155::u156::u157::u158::u159::u160::u161::u162::u163::u164::u165::u166::u167::u168::u169::u170::u171::u172::u173::u174::u175::u176::u177::u178::u179::u180::u181::u182::u183::u184::u185::u186::u187::u188::u189::u190::u191::u192::u193::u194::u195::u196::u197::u198::u199::u200::u201::u202::u203::u204::u205::u206::u207::u208::u209::u210::u211::u212::u213::u214::u215::u216::u217::u218::u219::u220::u221::u222::u223::u224::u225::u226::u227::u228::u229::u230::u231::u232::u233::u234::u235::u236::u237::u238::u239::u240::u241::u242::u243::u244::u245::u246::u247::u248::u249::u250::u251::u252::u253::u254::u255::u256::u257::u258::u259::u260::u261::u262::u263::u264::u265::u266::u267::u268::u269::u270::u271::u272::u273::u274::u275::u276::u277::[]),[]⟩ w')) :
 Code.wp Tryz.prog (loopAt Tryz.f27 11) Q ⟨List.toArray (u0::u1::u2::.pointer (some ⟨TB,0,none⟩)::u4::u5::u6::u7::u8::.pointer (some ⟨HB,0,none⟩)::u10::u11::u12::.int .i64 (-1)::.int .i64 0::u15::u16::u17::u18::u19::u20::u21::u22::u23::u24::u25::u26::u27::u28::u29::u30::u31::u32::u33::u34::u35::u36::u37::u38::u39::u40::u41::u42::u43::u44::u45::u46::u47::u48::u49::u50::u51::u52::u53::u54::u55::u56::u57::u58::u59::u60::u61::u62::u63::u64::u65::u66::u67::u68::u69::u70::u71::u72::u73::u74::u75::u76::u77::u78::u79::u80::u81::u82::u83::u84::u85::u86::u87::u88::u89::u90::u91::u92::u93::u94::u95::u96::u97::u98::u99::u100::u101::u102::u103::u104::u105::u106::u107::u108::u109::u110::u111::u112::u113::u114::u115::u116::u117::u118::u119::u120::u121::u122::u123::u124::u125::u126::u127::u128::u129::u130::u131::u132::u133::u134::u135::u136::u137::u138::u139::u140::u141::u142::u143::u144::u145::u146::u147::u148::u149::u150::u151::u152::u153::u154::u155::u156::u157::u158::u159::u160::u161::u162::u163::u164::u165::u166::u167::u168::u169::u170::u171::u172::u173::u174::u175::u176::u177::u178::u179::u180::u181::u182::u183::u184::u185::u186::u187::u188::u189::u190::u191::u192::u193::u194::u195::u196::u197::u198::u199::u200::u201::u202::u203::u204::u205::u206::u207::u208::u209::u210::u211::u212::u213::u214::u215::u216::u217::u218::u219::u220::u221::u222::u223::u224::u225::u226::u227::u228::u229::u230::u231::u232::u233::u234::u235::u236::u237::u238::u239::u240::u241::u242::u243::u244::u245::u246::u247::u248::u249::u250::u251::u252::u253::u254::u255::u256::u257::u258::u259::u260::u261::u262::u263::u264::u265::u266::u267::u268::u269::u270::u271::u272::u273::u274::u275::u276::u277::[]),[]⟩ w1:=by
 conv=>arg 2;whnf
 have HLN:=Lib.hid (show (l.map EM.e).length=n by rw [List.length_map];exact (ER.out _ X1.out.right).len)
 go_loopw [13,14,15] (fun s13 s14 _ wr=>∃ k : Nat,k<=n∧s13 = .int .i64 (lastP H (l.map EM.e) k)∧s14 = .int .i64 (k : Int)∧SP w wr ([.blk TB 70 #[.int .i64 limit,.int .i64 life,.int .i64 now,.slice A n c],.blk HB 58 #[.int .u8 H.tos,.int .u16 H.id,.bool H.df,.bool H.mf,.int .i64 H.off,.int .u8 H.ttl,.int .u8 H.proto,.int .u32 H.src,.int .u32 H.dst,.slice oA on oc]]++RO)) (fun _ s14 _ _=>n - (intOf s14).toNat)
 case atStart=>exact ⟨0,Nat.zero_le _,rfl,rfl,X1.out⟩
 case round =>
  obtain ⟨k,hk,rfl,rfl,Y0⟩:=hrel
  have Y:=Lib.hid Y0
  clear Y0 X1
  have k3 : wr.cell? ⟨TB,3,none⟩=some (.slice A n c):=Y.out.cell 0 rfl 3 rfl
  by_cases hlt : k < n
  case neg =>
   obtain rfl : k=n:=by omega
   have t1 : ¬ (k : Int) < (k : Int):=by omega
   have e1 : lastP H (l.map EM.e) k=lastE H (l.map EM.e):=by rw [<- HLN.out];rfl
   rw [e1]
   go_wp2_with fail
   exact HQ.out _ _ _ _ _ _ _ _ _ _ _ _ _ _ _ _ _ _ _ _ _ _ _ _ _ _ _ _ _ _ _ _ _ _ _ _ _ _ _ _ _ _ _ Y.out
  have t1 : (k : Int) < (n : Int):=by omega
  have t0 : (0 : Int)<=(k : Int):=by omega
  have hE:=ER.out _ Y.out.right
  obtain ⟨x,hx⟩ : ∃ x,l[k]?=some x:=⟨_,List.getElem?_eq_getElem (by rw [hE.len];exact hlt)⟩
  have HX:=Lib.hid hx
  obtain ⟨g,off,rfl,hg,hc⟩:=hE.at_ k x hx
  have RA:=Lib.hid (show wr.rangeAt g (off + k * 8) [.int .u32 x.e.src,.int .u32 x.e.dst,.int .u8 x.e.proto,.int .u16 x.e.id,.int .i64 x.e.begin_,.int .i64 (x.e.bytes : Int),.bool x.e.dead] from fun j v hv=>hc j v (by
   have hj : j < x.gcells.length:=(List.getElem?_eq_some_iff.1 hv).1
   unfold EM.cells;rw [List.getElem?_append_left hj];exact hv))
  have e6 : IntKind.i64.wrap ((k : Int) + 1)=(k : Int) + 1:=IntWalk.i64_in _ (by omega)
  have HS:=Lib.hid (show lastP H (l.map EM.e) (k + 1)=if sameE H x.e then (k : Int) else lastP H (l.map EM.e) k from lastP_succ (by rw [List.getElem?_map,HX.out];rfl))
  clear hE hc hx hg
  obtain ⟨at_,hat⟩ : ∃ v,lastP H (l.map EM.e) k=v:=⟨_,rfl⟩
  have HAT:=Lib.hid hat
  rw [hat]
  clear hat
  obtain ⟨GB,hGB⟩ : ∃ b,wr.heap.size=b:=⟨_,rfl⟩
  have Z0:=Lib.hid ((Y.out.alloc' 122 (List.toArray [.int .u32 x.e.src,.int .u32 x.e.dst,.int .u8 x.e.proto,.int .u16 x.e.id,.int .i64 x.e.begin_,.int .i64 (x.e.bytes : Int),.bool x.e.dead]) hGB).rot)
  go_upto_region 14 with (refine wpList_load_mid (by rfl) 122 _ (by rfl) g (off + k * 8) (by rfl) [.int .u32 x.e.src,.int .u32 x.e.dst,.int .u8 x.e.proto,.int .u16 x.e.id,.int .i64 x.e.begin_,.int .i64 (x.e.bytes : Int),.bool x.e.dead] _ RA.out Tryz.underlying122 rfl (by kernel_rfl) ?_)
  try rw [hGB]
  generalize hwz : wr.alloc (.cells #[.int .u32 x.e.src,.int .u32 x.e.dst,.int .u8 x.e.proto,.int .u16 x.e.id,.int .i64 x.e.begin_,.int .i64 (x.e.bytes : Int),.bool x.e.dead] 122)=wz at ⊢
  replace Z0:=Lib.hid (show SP w wz (.blk GB 122 #[.int .u32 x.e.src,.int .u32 x.e.dst,.int .u8 x.e.proto,.int .u16 x.e.id,.int .i64 x.e.begin_,.int .i64 (x.e.bytes : Int),.bool x.e.dead]::([.blk TB 70 #[.int .i64 limit,.int .i64 life,.int .i64 now,.slice (some ⟨g,off,none⟩) n c],.blk HB 58 #[.int .u8 H.tos,.int .u16 H.id,.bool H.df,.bool H.mf,.int .i64 H.off,.int .u8 H.ttl,.int .u8 H.proto,.int .u32 H.src,.int .u32 H.dst,.slice oA on oc]]++RO)) from by rw [<- hwz];exact Z0.out)
  clear hwz hGB Y RA k3
  have x0 : wz.cell? ⟨GB,0,none⟩=some (.int .u32 x.e.src):=Z0.out.cell 0 rfl 0 rfl
  have x1 : wz.cell? ⟨GB,1,none⟩=some (.int .u32 x.e.dst):=Z0.out.cell 0 rfl 1 rfl
  have x2 : wz.cell? ⟨GB,2,none⟩=some (.int .u8 x.e.proto):=Z0.out.cell 0 rfl 2 rfl
  have x3 : wz.cell? ⟨GB,3,none⟩=some (.int .u16 x.e.id):=Z0.out.cell 0 rfl 3 rfl
  have h7 : wz.cell? ⟨HB,7,none⟩=some (.int .u32 H.src):=Z0.out.cell 2 rfl 7 rfl
  have h8 : wz.cell? ⟨HB,8,none⟩=some (.int .u32 H.dst):=Z0.out.cell 2 rfl 8 rfl
  have h6 : wz.cell? ⟨HB,6,none⟩=some (.int .u8 H.proto):=Z0.out.cell 2 rfl 6 rfl
  have h1 : wz.cell? ⟨HB,1,none⟩=some (.int .u16 H.id):=Z0.out.cell 2 rfl 1 rfl
  obtain ⟨sm,hsm⟩ : ∃ b,sameE H x.e=b:=⟨_,rfl⟩
  have HSM:=Lib.hid (show sm=(x.e.src == H.src && (x.e.dst == H.dst && (x.e.proto == H.proto && x.e.id == H.id))) by rw [<- hsm];rfl)
  rw [hsm] at HS
  clear hsm
  obtain ⟨a0,ha0⟩ : ∃ v,x.e.src=v:=⟨_,rfl⟩
  obtain ⟨a1,ha1⟩ : ∃ v,x.e.dst=v:=⟨_,rfl⟩
  obtain ⟨a2,ha2⟩ : ∃ v,x.e.proto=v:=⟨_,rfl⟩
  obtain ⟨a3,ha3⟩ : ∃ v,x.e.id=v:=⟨_,rfl⟩
  rw [ha0] at x0 HSM
  rw [ha1] at x1 HSM
  rw [ha2] at x2 HSM
  rw [ha3] at x3 HSM
  go_cut [100] from 75 to 100 (fun s100 wx=>s100 = .bool sm∧wx=wz)
  case first =>
   clear ha0 ha1 ha2 ha3
   by_cases c0 : a0=H.src
   ·by_cases c1 : a1=H.dst
    ·by_cases c2 : a2=H.proto
     ·by_cases c3 : a3=H.id
      ·have d0 : (a0 == H.src)=true:=by simp [c0]
       have d1 : (a1 == H.dst)=true:=by simp [c1]
       have d2 : (a2 == H.proto)=true:=by simp [c2]
       have d3 : (a3 == H.id)=true:=by simp [c3]
       clear c0 c1 c2 c3
       go_wp2_with fail
       go_meet
       exact ⟨by rw [HSM.out,d0,d1,d2,d3];rfl,rfl⟩
      ·have d0 : (a0 == H.src)=true:=by simp [c0]
       have d1 : (a1 == H.dst)=true:=by simp [c1]
       have d2 : (a2 == H.proto)=true:=by simp [c2]
       have d3 : (a3 == H.id)=false:=by simp [c3]
       clear c0 c1 c2 c3
       go_wp2_with fail
       go_meet
       exact ⟨by rw [HSM.out,d0,d1,d2,d3];rfl,rfl⟩
     ·have d0 : (a0 == H.src)=true:=by simp [c0]
      have d1 : (a1 == H.dst)=true:=by simp [c1]
      have d2 : (a2 == H.proto)=false:=by simp [c2]
      clear c0 c1 c2
      go_wp2_with fail
      go_meet
      exact ⟨by rw [HSM.out,d0,d1,d2];rfl,rfl⟩
    ·have d0 : (a0 == H.src)=true:=by simp [c0]
     have d1 : (a1 == H.dst)=false:=by simp [c1]
     clear c0 c1
     go_wp2_with fail
     go_meet
     exact ⟨by rw [HSM.out,d0,d1];rfl,rfl⟩
   ·have d0 : (a0 == H.src)=false:=by simp [c0]
    clear c0
    go_wp2_with fail
    go_meet
    exact ⟨by rw [HSM.out,d0];rfl,rfl⟩
  case rest =>
  obtain ⟨rfl,hwc⟩:=hcut
  rw [hwc]
  clear hwc wc x0 x1 x2 x3 h7 h8 h6 h1
  have Z1:=Lib.hid Z0.out.tail
  clear Z0
  cases sm
  ·go_wp2_with fail
   go_roundw
   case rel=>exact ⟨k + 1,by omega,by rw [HS.out,HAT.out];rfl,by go_num,Z1.out⟩
   case measure=>simp [intOf];omega
  ·go_wp2_with fail
   go_roundw
   case rel=>exact ⟨k + 1,by omega,by rw [HS.out];rfl,by go_num,Z1.out⟩
   case measure=>simp [intOf];omega
set_option maxHeartbeats 2000000 in
set_option maxRecDepth 100000 in
theorem r7of_any {u0 u2 u4 u5 u6 u7 u8 u10 u11 u12 u14 u15 u16 u17 u18 u19 u20 u21 u22 u23 u24 u25 u26 u27 u28 u29 u30 u31 u32 u33 u34 u35 u36 u37 u38 u39 u40 u41 u42 u43 u44 u45 u46 u47 u48 u49 u50 u51 u52 u53 u54 u55 u56 u57 u58 u59 u60 u61 u62 u63 u64 u65 u66 u67 u68 u69 u70 u71 u72 u73 u74 u75 u76 u77 u78 u79 u80 u81 u82 u83 u84 u85 u86 u87 u88 u89 u90 u91 u92 u93 u94 u95 u96 u97 u98 u99 u100 u101 u102 u104 u105 u106 u107 u108 u109 u110 u111 u112 u113 u114 u115 u116 u117 u118 u119 u120 u121 u122 u123 u124 u125 u126 u127 u128 u129 u130 u131 u132 u133 u134 u135 u136 u137 u138 u139 u140 u141 u142 u143 u144 u145 u146 u147 u148 u149 u150 u151 u152 u153 u154 u155 u156 u157 u158 u159 u160 u161 u162 u163 u164 u165 u166 u167 u168 u169 u170 u171 u172 u173 u174 u175 u176 u177 u178 u179 u180 u181 u182 u183 u184 u185 u186 u187 u188 u189 u190 u191 u192 u193 u194 u195 u196 u197 u198 u199 u200 u201 u202 u203 u204 u205 u206 u207 u208 u209 u210 u211 u212 u213 u214 u215 u216 u217 u218 u219 u220 u221 u222 u223 u224 u225 u226 u227 u228 u229 u230 u231 u232 u233 u234 u235 u236 u237 u238 u239 u240 u241 u242 u243 u244 u245 u246 u247 u248 u249 u250 u251 u252 u253 u254 u255 u256 u257 u258 u259 u260 u261 u262 u263 u264 u265 u266 u267 u268 u269 u270 u271 u272 u273 u274 u275 u276 u277 : Value} {Q : Exit->Act->World->Prop} (w : World) (TB HB : Nat) (limit life now : Int) (A : Option Addr) (n : Nat) (l : List EM) (A1 : Option Addr) (n1 c1 : Nat) (l1 : List EM) (H : HD) (oA : Option Addr) (on oc : Nat) (R2 RO : List IT) (r : RT) (K : Nat) (hn : n<=99999) (hr : r.limit=limit) (hl : 1<=limit) (HP : Hid (PASSR w r now K A n l RO A1 n1 c1 l1)) (w1 : World) (X1 : Hid (SP w w1 ([.blk TB 70 #[.int .i64 limit,.int .i64 life,.int .i64 now,.slice A1 n1 c1],.blk HB 58 #[.int .u8 H.tos,.int .u16 H.id,.bool H.df,.bool H.mf,.int .i64 H.off,.int .u8 H.ttl,.int .u8 H.proto,.int .u32 H.src,.int .u32 H.dst,.slice oA on oc]]++(R2++RO))))
 (HQ : Hid (∀ (y103 y104 y105 y106 y107 y108 y109 y110 y111 y112 y113 y114 y115 y116 y117 y118 y119 y120 y121 y122 y123 y124 y125 y126 y127 y128 y129 y130 y131 y132 y133 y134 : Value) (k : Nat) (B : Option Addr) (m d : Nat) (l' : List EM) (Y : List IT) (w' : World),FOUNDR w r now H K A n l (Y++RO) k B m d l'->SP w w' ([.blk TB 70 #[.int .i64 limit,.int .i64 life,.int .i64 now,.slice B m d],.blk HB 58 #[.int .u8 H.tos,.int .u16 H.id,.bool H.df,.bool H.mf,.int .i64 H.off,.int .u8 H.ttl,.int .u8 H.proto,.int .u32 H.src,.int .u32 H.dst,.slice oA on oc]]++(R2++(Y++RO)))->Q .normal ⟨List.toArray (u0::.int .i64 now::u2::.pointer (some ⟨TB,0,none⟩)::u4::u5::u6::u7::u8::.pointer (some ⟨HB,0,none⟩)::u10::u11::u12::.int .i64 (k : Int)::u14::u15::u16::u17::u18::u19::u20::u21::u22::u23::u24::u25::u26::u27::u28::u29::u30::u31::u32::u33::u34::u35::u36::u37::u38::u39::u40::u41::u42::u43::u44::u45::u46::u47::u48::u49::u50::u51::u52::u53::u54::u55::u56::u57::u58::u59::u60::u61::u62::u63::u64::u65::u66::u67::u68::u69::u70::u71::u72::u73::u74::u75::u76::u77::u78::u79::u80::u81::u82::u83::u84::u85::u86::u87::u88::u89::u90::u91::u92::u93::u94::u95::u96::u97::u98::u99::u100::u101::u102::y103::y104::y105::y106::y107::y108::y109::y110::y111::y112::y113::y114::y115::y116::y117::y118::y119::y120::y121::y122::y123::y124::y125::y126::y127::y128::y129::y130::y131::y132::y133::y134::u135::u136::u137::u138::u139::u140::u141::u142::u143::u144::u145::u146::u147::u148::u149::u150::u151::u152::u153::u154::u155::u156::u157::u158::u159::u160::u161::u162::u163::u164::u165::u166::u167::u168::u169::u170::u171::u172::u173::u174::u175::u176::u177::u178::u179::u180::u181::u182::u183::u184::u185::u186::u187::u188::u189::u190::u191::u192::u193::u194::u195::u196::u197::u198::u199::u200::u201::u202::u203::u204::u205::u206::u207::u208::u209::u210::u211::u212::u213::u214::u215::u216::u217::u218::u219::u220::u221::u222::u223::u224::u225::u226::u227::u228::u229::u230::u231::u232::u233::u234::u235::u236::u237::u238::u239::u240::u241::u242::u243::u244::u245::u246::u247::u248::u249::u250::u251::u252::u253::u254::u255::u256::u257::u258::u259::u260::u261::u262::u263::u264::u265::u266::u267::u268::u269::u270::u271::u272::u273::u274::u275::u276::u277::[]),[]⟩ w')) :
 Code.wp Tryz.prog (condAt Tryz.f27 103) Q ⟨List.toArray (u0::.int .i64 now::u2::.pointer (some ⟨TB,0,none⟩)::u4::u5::u6::u7::u8::.pointer (some ⟨HB,0,none⟩)::u10::u11::u12::.int .i64 (lastE H (l1.map EM.e))::u14::u15::u16::u17::u18::u19::u20::u21::u22::u23::u24::u25::u26::u27::u28::u29::u30::u31::u32::u33::u34::u35::u36::u37::u38::u39::u40::u41::u42::u43::u44::u45::u46::u47::u48::u49::u50::u51::u52::u53::u54::u55::u56::u57::u58::u59::u60::u61::u62::u63::u64::u65::u66::u67::u68::u69::u70::u71::u72::u73::u74::u75::u76::u77::u78::u79::u80::u81::u82::u83::u84::u85::u86::u87::u88::u89::u90::u91::u92::u93::u94::u95::u96::u97::u98::u99::u100::u101::u102::.bool (decide (lastE H (l1.map EM.e) < 0))::u104::u105::u106::u107::u108::u109::u110::u111::u112::u113::u114::u115::u116::u117::u118::u119::u120::u121::u122::u123::u124::u125::u126::u127::u128::u129::u130::u131::u132::u133::u134::u135::u136::u137::u138::u139::u140::u141::u142::u143::u144::u145::u146::u147::u148::u149::u150::u151::u152::u153::u154::u155::u156::u157::u158::u159::u160::u161::u162::u163::u164::u165::u166::u167::u168::u169::u170::u171::u172::u173::u174::u175::u176::u177::u178::u179::u180::u181::u182::u183::u184::u185::u186::u187::u188::u189::u190::u191::u192::u193::u194::u195::u196::u197::u198::u199::u200::u201::u202::u203::u204::u205::u206::u207::u208::u209::u210::u211::u212::u213::u214::u215::u216::u217::u218::u219::u220::u221::u222::u223::u224::u225::u226::u227::u228::u229::u230::u231::u232::u233::u234::u235::u236::u237::u238::u239::u240::u241::u242::u243::u244::u245::u246::u247::u248::u249::u250::u251::u252::u253::u254::u255::u256::u257::u258::u259::u260::u261::u262::u263::u264::u265::u266::u267::u268::u269::u270::u271::u272::u273::u274::u275::u276::u277::[]),[]⟩ w1:=by
 conv=>arg 2;whnf
 have hn1:=HP.out.hm
 have hll:=HP.out.len
 have hel : (l1.map EM.e).length=n1:=by rw [List.length_map];exact hll
 have hcap:=(HP.out.er _ X1.out.right.right).cap
 by_cases hq : lastE H (l1.map EM.e) = -1
 case neg =>
  obtain ⟨k,hk,hkn⟩ : ∃ k : Nat,lastE H (l1.map EM.e)=(k : Int)∧k < n1:=by
   rcases lastE_go H (l1.map EM.e) (l1.map EM.e).length (Nat.le_refl _) _ rfl with ⟨h1,_⟩ | ⟨k,h1,h2,_⟩
   ·exact absurd h1 hq
   ·exact ⟨k,h1,by rw [<- hel];exact h2⟩
  have HF:=Lib.hid (show FOUNDR w r now H K A n l ([]++RO) k A1 n1 c1 l1 from by
   have hof : ofR (passR r now) H=((passR r now).es,k):=by
    unfold ofR
    rw [<- HP.out.es,if_neg hq,hk]
    rfl
   exact ⟨HP.out.er,HP.out.ftk,HP.out.foot,by rw [hof];exact HP.out.es,by rw [hof],hkn,by omega,HP.out.fn⟩)
  rw [hk]
  clear hq hk hel hll hcap
  have t1 : decide ((k : Int) < 0)=false:=by simp
  rw [t1]
  go_wp2_with fail
  exact HQ.out _ _ _ _ _ _ _ _ _ _ _ _ _ _ _ _ _ _ _ _ _ _ _ _ _ _ _ _ _ _ _ _ k A1 n1 c1 l1 [] _ HF.out X1.out
 rw [hq]
 have HLQ:=Lib.hid hq
 have t1 : decide ((-1 : Int) < 0)=true:=rfl
 rw [t1]
 obtain ⟨i0,hi0,hz0,hz1,hz2⟩:=info_parts (show (Tryz.prog.info? 125).map (fun i=>(i.zero,i.size,i.bytes))=some (some (.agg #[.int .u32 0,.int .u32 0,.int .u8 0,.int .u16 0,.int .i64 0,.int .i64 0,.bool false,.slice none 0 0]),8,64) by kernel_rfl)
 obtain ⟨full,hfull⟩ : ∃ b,decide ((n1 : Int)=limit)=b:=⟨_,rfl⟩
 have HFU:=Lib.hid hfull
 clear hq t1 hel hfull
 have HLL:=Lib.hid hll
 clear hll
 have k3 : w1.cell? ⟨TB,3,none⟩=some (.slice A1 n1 c1):=X1.out.cell 0 rfl 3 rfl
 have k0 : w1.cell? ⟨TB,0,none⟩=some (.int .i64 limit):=X1.out.cell 0 rfl 0 rfl
 have q3 : w1.frozen? ⟨TB,3,none⟩=false:=X1.out.free 0 rfl 3
 go_upto_region 17 with fail
 go_cut [109] from 104 to 109 (fun s109 wx=>s109 = .bool full∧wx=w1)
 case first =>
  have hb : ((n1 : Int) == limit)=full:=by rw [<- HFU.out];rfl
  clear hcap
  go_wp2_with fail
  go_meet
  exact ⟨by first | rfl | (rw [<- HFU.out];rfl),rfl⟩
 case rest =>
 obtain ⟨rfl,hwc⟩:=hcut
 rw [hwc]
 clear hwc wc
 go_step
 go_cut [109] from 110 to 113 (fun s109 wx=>s109 = .bool full∧∃ (A2 : Option Addr) (n2 c2 : Nat) (l2 : List EM),n2<=n1∧l2.length=n2∧l2.map EM.e=(if (((passR r now).es.length : Nat) : Int)=(passR r now).limit then (passR r now).es.tail else (passR r now).es)∧(∀ x ∈ l2,x ∈ l1)∧(∀ W,SP w W RO->EROW W A2 n2 c2 l2)∧SP w wx ([.blk TB 70 #[.int .i64 limit,.int .i64 life,.int .i64 now,.slice A2 n2 c2],.blk HB 58 #[.int .u8 H.tos,.int .u16 H.id,.bool H.df,.bool H.mf,.int .i64 H.off,.int .u8 H.ttl,.int .u8 H.proto,.int .u32 H.src,.int .u32 H.dst,.slice oA on oc]]++(R2++RO)))
 case first =>
  have hlim : (passR r now).limit=limit:=hr
  have hel2 : ((passR r now).es.length : Int)=(n1 : Int):=by rw [<- HP.out.es,List.length_map,HLL.out]
  have HE2:=Lib.hid (And.intro hlim hel2)
  clear hlim hel2
  cases full
  ·go_wp2_with fail
   go_meet
   refine ⟨rfl,A1,n1,c1,l1,Nat.le_refl _,HLL.out,?_,fun x hx=>hx,HP.out.er,X1.out⟩
   have h1:=of_decide_eq_false HFU.out
   rw [if_neg (by rw [HE2.out.1,HE2.out.2];exact h1)]
   exact HP.out.es
  ·have h1 : (n1 : Int)=limit:=of_decide_eq_true HFU.out
   have g0 : 1<=n1:=by omega
   have s1:=fun W=>run_slice_loM (P:=Tryz.prog) W Tryz.underlying68 hi0 hz1 A1 n1 c1 1 1 (by omega) g0
   have HG:=Lib.hid h1
   clear h1
   go_wp2_with fail
   go_meet
   have X2:=X1.out.setB 0 rfl 3 (.slice (cutM 8 A1 c1 1) (n1 - 1) (c1 - 1))
   refine ⟨rfl,cutM 8 A1 c1 1,n1 - 1,c1 - 1,l1.drop 1,by omega,by rw [List.length_drop,HLL.out],?_,fun x hx=>List.mem_of_mem_drop hx,fun W h=>(HP.out.er W h).drop g0,X2⟩
   rw [if_pos (by rw [HE2.out.1,HE2.out.2];exact HG.out),<- HP.out.es,List.map_drop,List.drop_one]
 case rest =>
 obtain ⟨rfl,A2,n2,c2,l2,hn2,hl2,hes2,hsub,her,hX⟩:=hcut
 have X:=Lib.hid hX
 have H2:=Lib.hid (And.intro hl2 (And.intro hes2 (And.intro hsub her)))
 clear hX hl2 hes2 hsub her k3 k0 q3 X1 hcap
 have k3 : wc.cell? ⟨TB,3,none⟩=some (.slice A2 n2 c2):=X.out.cell 0 rfl 3 rfl
 go_upto_region 20 with fail
 clear k3
 refine wp_region_noPanic ?_
 refine wp_region_held_drew (S:=r7qS w TB HB limit life now now A2 n2 c2 l2 H oA on oc (R2++RO)) (by kernel_rfl) ⟨X.out.drew.cell 1 rfl 7 rfl,X.out.drew.cell 1 rfl 8 rfl,X.out.drew.cell 1 rfl 6 rfl,X.out.drew.cell 1 rfl 1 rfl⟩ (fun hHeld=>?_)
 clear hHeld
 refine r7q_0 (Lib.hid ⟨fun W h=>H2.out.2.2.2 W h.right,by omega⟩) (Lib.hid ?_) _ (Lib.hid X.out.drew)
 intro y117 y118 y119 y120 y121 y122 y123 y124 y125 y126 y127 y128 y129 y130 y131 y132 y133 y134 g117 A120 c120 g132 A133 c133 w' hX'
 have Z:=Lib.hid (SP.pickT (A:=[_,_,_]) (B:=[_,_,_]) hX' [2,0,1] rfl (by decide))
 clear hX' X
 obtain ⟨Y,hY1,hY2⟩:=SP.objOf Z.out
 have hrow:=Z.out.row 0 rfl
 have hge : ∀ p,A133=some p->w.heap.size<=p.block:=fun p hp=>by subst hp;exact (Z.out.ltm (x:=.row 125 8 (some p) (n2 + 1) c133 _) (List.mem_of_getElem? (i:=0) rfl) rfl).1
 have hRO:=hY1.right.right.right
 have hold:=H2.out.2.2.2 _ hRO
 have hrow' : EROW w' A133 (n2 + 1) c133 (l2++[EM.new now H]):=by
  refine erow_of_row (e:=125) (base:=w.heap.size) ?_ (by rw [List.length_append,H2.out.1];rfl) (row_le hrow) (fun x hx=>?_)
  ·rw [List.flatMap_append]
   exact hrow
  ·rcases List.mem_append.1 hx with hx | hx
   ·exact hold.ok x hx
   ·simp at hx;subst hx;exact em_new_ok _ _ _
 have hsub : ∀ x ∈ l2++[EM.new now H],(x ∈ l1)∨x=EM.new now H:=fun x hx=>by
  rcases List.mem_append.1 hx with hx | hx
  ·exact .inl (H2.out.2.2.1 x hx)
  ·simp at hx;exact .inr hx
 have hftk : EFT (FTK w (Y++RO)) A133 (l2++[EM.new now H]):=by
  refine EFT.of (fun x hx=>?_) (fun _ p hp=>.inr (KEPT.left (hY2 _ (by subst hp;rfl))))
  rcases hsub x hx with h | rfl
  ·exact (HP.out.ftk.mono (fun g h=>FTK.right h)).each h
  ·exact em_new_foot _ _ _
 have hfin:=SP.swap2 (T:=[_,_]) (A:=Y) (B:=R2) (C:=RO) (SP.swap (A:=Y) (B:=[_,_]) (C:=R2++RO) hY1)
 have hSP2 : SP w w' (Y++RO):=hfin.right.right
 have HF : FOUNDR w r now H K A n l (Y++RO) n2 A133 (n2 + 1) c133 (l2++[EM.new now H]):=by
  have hof : ofR (passR r now) H=(l2.map EM.e++[newE now H],n2):=by
   have h1 : lastE H (passR r now).es = -1:=by rw [<- HP.out.es];exact HLQ.out
   have h2:=H2.out.2.1
   have h3 : (if (((passR r now).es.length : Nat) : Int)=(passR r now).limit then (passR r now).es.tail else (passR r now).es).length=n2:=by rw [<- h2,List.length_map,H2.out.1]
   unfold ofR
   rw [if_pos h1,<- h2,List.length_map,H2.out.1]
   rfl
  refine ⟨rows_kept hSP2 hrow' hftk,hftk,fun X hX=>?_,by rw [hof,List.map_append];rfl,by rw [hof],by omega,by omega,fun x hx=>?_⟩
  ·refine EFT.of (fun x hx=>?_) (fun _ p hp=>.inr (hge p hp))
   rcases hsub x hx with h | rfl
   ·exact (HP.out.foot X hX).each h
   ·exact em_new_foot _ _ _
  ·rcases hsub x hx with h | rfl
   ·exact HP.out.fn x h
   ·exact Nat.zero_le _
 exact HQ.out _ _ _ _ _ _ _ _ _ _ _ _ _ _ _ _ _ _ _ _ _ _ _ _ _ _ _ _ _ _ _ _ n2 A133 (n2 + 1) c133 (l2++[EM.new now H]) Y _ HF hfin
end Go.Proofs.YtljbfnabnkkfeaaGreat
