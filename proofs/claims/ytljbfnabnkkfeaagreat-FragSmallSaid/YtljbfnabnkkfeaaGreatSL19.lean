import Derived.Test.YtljbfnabnkkfeaaGreatSL17
set_option linter.unusedVariables false
set_option linter.unusedSimpArgs false
/- Joined by program: FgTB. -/
namespace Go.Proofs.YtljbfnabnkkfeaaGreat
open Go.RowKit
theorem row_at {w : World} {base : Nat} {e : TypeId} {g n c i : Nat} {vs : List Value} {v : Value} (h : w.ownsRow base e 1 (.slice (some ⟨g,0,none⟩) n c) n vs) (hv : vs[i]?=some v) : w.cell? ⟨g,i,none⟩=some v:=by
 obtain ⟨ad,h1,h2⟩:=row_news h i v hv
 cases h1
 rw [Addr.add_mid,Nat.zero_add] at h2
 exact h2
set_option maxHeartbeats 1000000 in
set_option maxRecDepth 100000 in
theorem tells_inv {u0 u1 u2 u3 u4 u5 u6 u7 u8 u9 u10 u11 u12 u13 u14 u15 u16 u17 u18 u20 u21 u22 u23 u24 u25 u26 u27 u28 u29 u30 u31 u32 u33 u34 u35 u36 u37 u38 u39 u40 u41 u42 u43 u44 u45 u46 u47 u48 u49 u50 u51 u52 u53 u54 u55 u56 u57 u58 u59 u60 u61 u62 u63 u64 u65 u66 u67 u68 u69 u70 u71 u72 u73 u74 u75 u76 u77 u78 u79 u80 u81 u82 u83 u84 u85 u86 u87 u88 u89 u90 u91 u92 u93 u94 u95 u96 u97 u98 u99 u100 u101 u102 u103 u104 u105 u106 u107 u108 u109 u110 u111 u112 u113 u114 u115 u116 u117 u118 u119 u120 u121 u122 u123 u127 u128 u129 u130 u131 u132 u133 u134 u135 u136 u137 u138 u139 u140 u141 u142 u143 u144 u145 u146 u147 u148 u149 u150 u151 u152 u153 u154 u155 u156 u157 u158 u159 u160 u161 u162 u163 u164 u165 u166 u167 u168 u169 u170 u171 u172 u173 u174 u175 u176 u177 u178 u179 u180 u181 u182 u183 u184 u185 u186 u187 u188 u189 u190 u191 u192 u193 u194 u195 : Value} {Q : Exit->Act->World->Prop} (w : World) (g n1 N c c1 : Nat) (zs : List Int) (RO : List IT) (hn : n1<=N) (hN : N<=100000) (w1 : World) (X1 : Hid (SP w w1 ([.own .u8 5 (some ⟨g,0,none⟩) N c zs]++RO)))
 (HQ : Hid (∀ (y24 y126 y127 y128 y129 y130 y131 y132 y133 y134 y135 y136 y137 : Value) (zs' : List Int) (w' : World),SP w w' ([.own .u8 5 (some ⟨g,0,none⟩) N c zs']++RO)->Q (.exit 4) ⟨List.toArray (u0::u1::u2::u3::u4::u5::u6::u7::u8::u9::u10::u11::u12::u13::u14::u15::u16::u17::u18::.slice (some ⟨g,0,none⟩) n1 c1::u20::u21::u22::u23::y24::u25::u26::u27::u28::u29::u30::u31::u32::u33::u34::u35::u36::u37::u38::u39::u40::u41::u42::u43::u44::u45::u46::u47::u48::u49::u50::u51::u52::u53::u54::u55::u56::u57::u58::u59::u60::u61::u62::u63::u64::u65::u66::u67::u68::u69::u70::u71::u72::u73::u74::u75::u76::u77::u78::u79::u80::u81::u82::u83::u84::u85::u86::u87::u88::u89::u90::u91::u92::u93::u94::u95::u96::u97::u98::u99::u100::u101::u102::u103::u104::u105::u106::u107::u108::u109::u110::u111::u112::u113::u114::u115::u116::u117::u118::u119::u120::u121::u122::u123::.slice (some ⟨g,0,none⟩) n1 c1::.int .i64 (n1 : Int)::y126::y127::y128::y129::y130::y131::y132::y133::y134::y135::y136::y137::u138::u139::u140::u141::u142::u143::u144::u145::u146::u147::u148::u149::u150::u151::u152::u153::u154::u155::u156::u157::u158::u159::u160::u161::u162::u163::u164::u165::u166::u167::u168::u169::u170::u171::u172::u173::u174::u175::u176::u177::u178::u179::u180::u181::u182::u183::u184::u185::u186::u187::u188::u189::u190::u191::u192::u193::u194::u195::[]),[]⟩ w')) :
 Code.wp Tryz.prog (loopIn Tryz.f8 34) Q ⟨List.toArray (u0::u1::u2::u3::u4::u5::u6::u7::u8::u9::u10::u11::u12::u13::u14::u15::u16::u17::u18::.slice (some ⟨g,0,none⟩) n1 c1::u20::u21::u22::u23::u24::u25::u26::u27::u28::u29::u30::u31::u32::u33::u34::u35::u36::u37::u38::u39::u40::u41::u42::u43::u44::u45::u46::u47::u48::u49::u50::u51::u52::u53::u54::u55::u56::u57::u58::u59::u60::u61::u62::u63::u64::u65::u66::u67::u68::u69::u70::u71::u72::u73::u74::u75::u76::u77::u78::u79::u80::u81::u82::u83::u84::u85::u86::u87::u88::u89::u90::u91::u92::u93::u94::u95::u96::u97::u98::u99::u100::u101::u102::u103::u104::u105::u106::u107::u108::u109::u110::u111::u112::u113::u114::u115::u116::u117::u118::u119::u120::u121::u122::u123::.slice (some ⟨g,0,none⟩) n1 c1::.int .i64 (n1 : Int)::.int .i64 0::u127::u128::u129::u130::u131::u132::u133::u134::u135::u136::u137::u138::u139::u140::u141::u142::u143::u144::u145::u146::u147::u148::u149::u150::u151::u152::u153::u154::u155::u156::u157::u158::u159::u160::u161::u162::u163::u164::u165::u166::u167::u168::u169::u170::u171::u172::u173::u174::u175::u176::u177::u178::u179::u180::u181::u182::u183::u184::u185::u186::u187::u188::u189::u190::u191::u192::u193::u194::u195::[]),[]⟩ w1:=by
 conv=>arg 2;whnf
 go_loopw [24,126] (fun _ s126 wr=>∃ (i : Nat) (zs' : List Int),i<=n1∧s126 = .int .i64 (i : Int)∧SP w wr ([.own .u8 5 (some ⟨g,0,none⟩) N c zs']++RO)) (fun _ s126 _=>n1 - (intOf s126).toNat)
 case atStart=>exact ⟨0,zs,Nat.zero_le _,rfl,X1.out⟩
 case round =>
  obtain ⟨i,z2,hi,rfl,Y0⟩:=hrel
  have Y:=Lib.hid Y0
  clear Y0 X1
  by_cases hlt : i < n1
  ·have t1 : (i : Int) < (n1 : Int):=by omega
   have t0 : (0 : Int)<=(i : Int):=by omega
   have xc:=(Y.out.own 0 rfl).cell (show i < N by omega)
   have xf:=(Y.out.own 0 rfl).frozen i
   have e6 : IntKind.i64.wrap ((i : Int) + 1)=(i : Int) + 1:=IntWalk.i64_in _ (by omega)
   go_wp2_with fail
   go_roundw
   case rel=>exact ⟨i + 1,_,by omega,by go_num,Y.out.setO 0 rfl i _⟩
   case measure=>simp [intOf];omega
  ·have t1 : ¬ (i : Int) < (n1 : Int):=by omega
   obtain rfl : i=n1:=by omega
   go_wp2_with fail
   exact HQ.out _ _ _ _ _ _ _ _ _ _ _ _ _ z2 _ Y.out
attribute [local go_sem ↓] Go.wp_at_zero Go.wp_at_succ
structure tliP (w0 : World) (gg g1 g2 k kk gc m bc cc i : Nat) (vs : List Value) (z : List Int) (RO : List IT) : Prop where
 hk : kk + 1=k
 hk2 : k<=100000
 hi : i < m
 hm : m<=100000
 hv : vs[kk]?=some (.slice (some ⟨g2,0,none⟩) m cc)
def tliS (w0 : World) (gg g1 g2 k kk gc m bc cc i : Nat) (vs : List Value) (z : List Int) (RO : List IT) : World->Prop:=fun W=>W.cell? ⟨gg,kk,none⟩=some (.slice (some ⟨g2,0,none⟩) m cc)
set_option maxRecDepth 100000 in
def tliF (w0 : World) (gg g1 g2 k kk gc m bc cc i : Nat) (vs : List Value) (z : List Int) (RO : List IT) (Fr : Value->Value->Value->Value->Value->Value->Value->Value->Value->Value->Value->Value->Value->Value->Value->Value->Value->Value->Value->Value->Value->Value->Value->Value->Value->Value->Act) : Prop:=∃ u : Nat->Value,∀ y152 y153 y154 y155 y156 y157 y158 y159 y160 y161 y162 y163 y164 y165 y166 y167 y168 y169 y170 y171 y172 y173 y174 y175 y176 y177,Fr y152 y153 y154 y155 y156 y157 y158 y159 y160 y161 y162 y163 y164 y165 y166 y167 y168 y169 y170 y171 y172 y173 y174 y175 y176 y177=⟨List.toArray (u 0::u 1::u 2::u 3::u 4::u 5::u 6::u 7::u 8::u 9::u 10::u 11::u 12::u 13::.slice (some ⟨gg,0,none⟩) k gc::u 15::u 16::u 17::u 18::u 19::.slice (some ⟨g1,0,none⟩) m bc::u 21::u 22::u 23::u 24::.int .i64 (i : Int)::u 26::u 27::u 28::u 29::u 30::u 31::u 32::u 33::u 34::u 35::u 36::u 37::u 38::u 39::u 40::u 41::u 42::u 43::u 44::u 45::u 46::u 47::u 48::u 49::u 50::u 51::u 52::u 53::u 54::u 55::u 56::u 57::u 58::u 59::u 60::u 61::u 62::u 63::u 64::u 65::u 66::u 67::u 68::u 69::u 70::u 71::u 72::u 73::u 74::u 75::u 76::u 77::u 78::u 79::u 80::u 81::u 82::u 83::u 84::u 85::u 86::u 87::u 88::u 89::u 90::u 91::u 92::u 93::u 94::u 95::u 96::u 97::u 98::u 99::u 100::u 101::u 102::u 103::u 104::u 105::u 106::u 107::u 108::u 109::u 110::u 111::u 112::u 113::u 114::u 115::u 116::u 117::u 118::u 119::u 120::u 121::u 122::u 123::u 124::u 125::u 126::u 127::u 128::u 129::u 130::u 131::u 132::u 133::u 134::u 135::u 136::u 137::u 138::u 139::u 140::u 141::u 142::u 143::u 144::u 145::u 146::u 147::u 148::u 149::u 150::u 151::y152::y153::y154::y155::y156::y157::y158::y159::y160::y161::y162::y163::y164::y165::y166::y167::y168::y169::y170::y171::y172::y173::y174::y175::y176::y177::u 178::u 179::u 180::u 181::u 182::u 183::u 184::u 185::u 186::u 187::u 188::u 189::u 190::u 191::u 192::u 193::u 194::u 195::[]),[]⟩
def tliR (w0 : World) (gg g1 g2 k kk gc m bc cc i : Nat) (vs : List Value) (z : List Int) (RO : List IT) (Q : Exit->Act->World->Prop) (Fr : Value->Value->Value->Value->Value->Value->Value->Value->Value->Value->Value->Value->Value->Value->Value->Value->Value->Value->Value->Value->Value->Value->Value->Value->Value->Value->Act) : Prop:=∀ (y152 y153 y154 y155 y156 y157 y158 y159 y160 y161 y162 y163 y164 y165 y166 y167 y168 y169 y170 y171 y172 y173 y174 y175 y176 y177 : Value) (w' : World),SP w0 w' ([.row 22 1 (some ⟨gg,0,none⟩) k gc vs,.own .u8 5 (some ⟨g1,0,none⟩) m bc (z.set i (IntKind.u8.wrap (z[i]?.getD 0 + 1))),.own .u8 5 (some ⟨g2,0,none⟩) m cc (z.set i (IntKind.u8.wrap (z[i]?.getD 0 + 1)))]++RO)->Q .normal (Fr y152 y153 y154 y155 y156 y157 y158 y159 y160 y161 y162 y163 y164 y165 y166 y167 y168 y169 y170 y171 y172 y173 y174 y175 y176 y177) w'
def tliH (w0 : World) (gg g1 g2 k kk gc m bc cc i : Nat) (vs : List Value) (z : List Int) (RO : List IT) (Q : Exit->Act->World->Prop) (Fr : Value->Value->Value->Value->Value->Value->Value->Value->Value->Value->Value->Value->Value->Value->Value->Value->Value->Value->Value->Value->Value->Value->Value->Value->Value->Value->Act) : Prop:=Hid (tliP w0 gg g1 g2 k kk gc m bc cc i vs z RO)∧tliF w0 gg g1 g2 k kk gc m bc cc i vs z RO Fr∧Hid (tliR w0 gg g1 g2 k kk gc m bc cc i vs z RO Q Fr)
section
variable {Q : Exit->Act->World->Prop} {y152 y153 y154 y155 y156 y157 y158 y159 y160 y161 y162 y163 y164 y165 y166 y167 y168 y169 y170 y171 y172 y173 y174 y175 y176 y177 : Value} {w0 : World} {gg g1 g2 k kk gc m bc cc i : Nat} {vs : List Value} {z : List Int} {RO : List IT} {Fr : Value->Value->Value->Value->Value->Value->Value->Value->Value->Value->Value->Value->Value->Value->Value->Value->Value->Value->Value->Value->Value->Value->Value->Value->Value->Value->Act}
set_option maxHeartbeats 1000000 in
set_option maxRecDepth 100000 in
theorem tlis4 (H0 : tliH w0 gg g1 g2 k kk gc m bc cc i vs z RO Q Fr) (w : World) (X : Hid (SP w0 w ([.row 22 1 (some ⟨gg,0,none⟩) k gc vs,.own .u8 5 (some ⟨g1,0,none⟩) m bc (z.set i (IntKind.u8.wrap (z[i]?.getD 0 + 1))),.own .u8 5 (some ⟨g2,0,none⟩) m cc (z.set i (IntKind.u8.wrap (z[i]?.getD 0 + 1)))]++RO))) :
 wpAnyH Tryz.prog .any (opsAt Tryz.f8 41) (NoPanic Q) (tliS w0 gg g1 g2 k kk gc m bc cc i vs z RO) 0 #[true,true,true,true,true,true,true,true,true,true,true,true,true,true,true,true,true,true,true,true,true,true,true,true,true,true,true,true] (Fr y152 y153 y154 y155 y156 y157 y158 y159 y160 y161 y162 y163 y164 y165 y166 y167 y168 y169 y170 y171 y172 y173 y174 y175 y176 y177) w:=by
 have H1:=Lib.hid H0
 obtain ⟨HP,⟨u,hF⟩,HQ⟩:=H0
 rw [hF]
 have hk:=HP.out.hk
 have hk2:=HP.out.hk2
 have hi:=HP.out.hi
 have t1 : (i : Int) < (m : Int):=by omega
 have t0 : (0 : Int)<=(i : Int):=by omega
 have s1 : (kk : Int) < (k : Int):=by omega
 have s0 : (0 : Int)<=(kk : Int):=by omega
 have e1 : IntKind.i64.wrap ((k : Int) - 1)=(kk : Int):=by rw [IntWalk.i64_in _ (by omega)];omega
 have hHeld : (tliS w0 gg g1 g2 k kk gc m bc cc i vs z RO) w:=by exact row_at (X.out.row 0 rfl) HP.out.hv
 refine wpAnyH_done (by kernel_rfl) ?_ _
 refine NoPanic.normal ?_
 rw [<- hF]
 exact HQ.out _ _ _ _ _ _ _ _ _ _ _ _ _ _ _ _ _ _ _ _ _ _ _ _ _ _  _ X.out
set_option maxHeartbeats 1000000 in
set_option maxRecDepth 100000 in
theorem tlis3 (H0 : tliH w0 gg g1 g2 k kk gc m bc cc i vs z RO Q Fr) (w : World) (X : Hid (SP w0 w ([.row 22 1 (some ⟨gg,0,none⟩) k gc vs,.own .u8 5 (some ⟨g1,0,none⟩) m bc (z.set i (IntKind.u8.wrap (z[i]?.getD 0 + 1))),.own .u8 5 (some ⟨g2,0,none⟩) m cc z]++RO))) :
 wpAnyH Tryz.prog .any (opsAt Tryz.f8 41) (NoPanic Q) (tliS w0 gg g1 g2 k kk gc m bc cc i vs z RO) 1 #[true,true,true,true,true,true,true,true,true,true,true,true,true,true,true,true,true,true,true,true,true,true,true,true,true,true,true,false] (Fr y152 y153 y154 y155 y156 y157 y158 y159 y160 y161 y162 y163 y164 y165 y166 y167 y168 y169 y170 y171 y172 y173 y174 (.int .u8 (IntKind.u8.wrap (z[i]?.getD 0 + 1))) y176 (.pointer (some ⟨g2,i,none⟩))) w:=by
 have H1:=Lib.hid H0
 obtain ⟨HP,⟨u,hF⟩,HQ⟩:=H0
 rw [hF]
 have hk:=HP.out.hk
 have hk2:=HP.out.hk2
 have hi:=HP.out.hi
 have t1 : (i : Int) < (m : Int):=by omega
 have t0 : (0 : Int)<=(i : Int):=by omega
 have s1 : (kk : Int) < (k : Int):=by omega
 have s0 : (0 : Int)<=(kk : Int):=by omega
 have e1 : IntKind.i64.wrap ((k : Int) - 1)=(kk : Int):=by rw [IntWalk.i64_in _ (by omega)];omega
 have hHeld : (tliS w0 gg g1 g2 k kk gc m bc cc i vs z RO) w:=by exact row_at (X.out.row 0 rfl) HP.out.hv
 refine rdy [27] ?_
 refine cons_lit rfl (fun K hK=>?ss27x28) AllReadyH.nil
 case ss27x28 =>
  have xc:=(X.out.own 2 rfl).cell hi
  have xf:=(X.out.own 2 rfl).frozen i
  go_simp
  clear xc xf
  refine nameW' (fun v hv=>?_)
  have Y:=Lib.hid (show SP w0 v ([.row 22 1 (some ⟨gg,0,none⟩) k gc vs,.own .u8 5 (some ⟨g1,0,none⟩) m bc (z.set i (IntKind.u8.wrap (z[i]?.getD 0 + 1))),.own .u8 5 (some ⟨g2,0,none⟩) m cc (z.set i (IntKind.u8.wrap (z[i]?.getD 0 + 1)))]++RO) by rw [hv];exact X.out.setO 2 rfl i (IntKind.u8.wrap (z[i]?.getD 0 + 1)))
  clear hv
  refine hK.out _ _ (by exact row_at (Y.out.row 0 rfl) HP.out.hv) (fun hHeld=>?_)
  clear hK K
  try simp only [Act.put,jA,jB,jC]
  rw [<- hF]
  exact tlis4 H1.out  _ Y
set_option maxHeartbeats 1000000 in
set_option maxRecDepth 100000 in
theorem tlis2 (H0 : tliH w0 gg g1 g2 k kk gc m bc cc i vs z RO Q Fr) (w : World) (X : Hid (SP w0 w ([.row 22 1 (some ⟨gg,0,none⟩) k gc vs,.own .u8 5 (some ⟨g1,0,none⟩) m bc z,.own .u8 5 (some ⟨g2,0,none⟩) m cc z]++RO))) :
 wpAnyH Tryz.prog .any (opsAt Tryz.f8 41) (NoPanic Q) (tliS w0 gg g1 g2 k kk gc m bc cc i vs z RO) 3 #[true,true,true,true,true,true,true,true,true,true,true,true,true,true,true,true,true,true,true,true,true,true,true,true,true,false,false,false] (Fr y152 y153 y154 y155 y156 y157 y158 (.slice (some ⟨g2,0,none⟩) m cc) (.int .i64 (i : Int)) y161 y162 y163 y164 (.int .u8 (IntKind.u8.wrap (z[i]?.getD 0 + 1))) y166 y167 y168 y169 y170 y171 y172 y173 y174 (.int .u8 (IntKind.u8.wrap (z[i]?.getD 0 + 1))) (.pointer (some ⟨g1,i,none⟩)) y177) w:=by
 have H1:=Lib.hid H0
 obtain ⟨HP,⟨u,hF⟩,HQ⟩:=H0
 rw [hF]
 have hk:=HP.out.hk
 have hk2:=HP.out.hk2
 have hi:=HP.out.hi
 have t1 : (i : Int) < (m : Int):=by omega
 have t0 : (0 : Int)<=(i : Int):=by omega
 have s1 : (kk : Int) < (k : Int):=by omega
 have s0 : (0 : Int)<=(kk : Int):=by omega
 have e1 : IntKind.i64.wrap ((k : Int) - 1)=(kk : Int):=by rw [IntWalk.i64_in _ (by omega)];omega
 have hHeld : (tliS w0 gg g1 g2 k kk gc m bc cc i vs z RO) w:=by exact row_at (X.out.row 0 rfl) HP.out.hv
 refine rdy [25] ?_
 refine cons_lit rfl (fun K hK=>?ss25x26) AllReadyH.nil
 case ss25x26 =>
  have xc:=(X.out.own 1 rfl).cell hi
  have xf:=(X.out.own 1 rfl).frozen i
  go_simp
  clear xc xf
  refine nameW' (fun v hv=>?_)
  have Y:=Lib.hid (show SP w0 v ([.row 22 1 (some ⟨gg,0,none⟩) k gc vs,.own .u8 5 (some ⟨g1,0,none⟩) m bc (z.set i (IntKind.u8.wrap (z[i]?.getD 0 + 1))),.own .u8 5 (some ⟨g2,0,none⟩) m cc z]++RO) by rw [hv];exact X.out.setO 1 rfl i (IntKind.u8.wrap (z[i]?.getD 0 + 1)))
  clear hv
  refine hK.out _ _ (by exact row_at (Y.out.row 0 rfl) HP.out.hv) (fun hHeld=>?_)
  clear hK K
  try simp only [Act.put,jA,jB,jC]
  refine' tk (i:=26) rfl ?U27 ?V27
  case U27=>intro w' hSw;go_simp;try (with_reducible rfl)
  try simp only [Act.put,jA,jB,jC]
  rw [<- hF]
  exact tlis3 H1.out  _ Y
set_option maxHeartbeats 1000000 in
set_option maxRecDepth 100000 in
theorem tlis1 (H0 : tliH w0 gg g1 g2 k kk gc m bc cc i vs z RO Q Fr) (w : World) (X : Hid (SP w0 w ([.row 22 1 (some ⟨gg,0,none⟩) k gc vs,.own .u8 5 (some ⟨g1,0,none⟩) m bc z,.own .u8 5 (some ⟨g2,0,none⟩) m cc z]++RO))) :
 wpAnyH Tryz.prog .any (opsAt Tryz.f8 41) (NoPanic Q) (tliS w0 gg g1 g2 k kk gc m bc cc i vs z RO) 6 #[true,true,true,true,true,true,true,true,true,true,true,true,true,true,true,true,true,true,true,true,true,true,false,false,false,false,false,false] (Fr (.slice (some ⟨g1,0,none⟩) m bc) (.int .i64 (i : Int)) y154 y155 y156 y157 y158 (.slice (some ⟨g2,0,none⟩) m cc) (.int .i64 (i : Int)) y161 y162 y163 y164 (.int .u8 (IntKind.u8.wrap (z[i]?.getD 0 + 1))) y166 y167 y168 y169 y170 y171 y172 (.pointer (some ⟨g2,i,none⟩)) y174 y175 y176 y177) w:=by
 have H1:=Lib.hid H0
 obtain ⟨HP,⟨u,hF⟩,HQ⟩:=H0
 rw [hF]
 have hk:=HP.out.hk
 have hk2:=HP.out.hk2
 have hi:=HP.out.hi
 have t1 : (i : Int) < (m : Int):=by omega
 have t0 : (0 : Int)<=(i : Int):=by omega
 have s1 : (kk : Int) < (k : Int):=by omega
 have s0 : (0 : Int)<=(kk : Int):=by omega
 have e1 : IntKind.i64.wrap ((k : Int) - 1)=(kk : Int):=by rw [IntWalk.i64_in _ (by omega)];omega
 have hHeld : (tliS w0 gg g1 g2 k kk gc m bc cc i vs z RO) w:=by exact row_at (X.out.row 0 rfl) HP.out.hv
 refine rdy [22] ?_
 refine cons_lit rfl (fun K hK=>?ss22x23) AllReadyH.nil
 case ss22x23 =>
  have xc:=(X.out.own 2 rfl).cell hi
  go_simp
  clear xc
  have Y:=X
  refine hK.out _ _ (by exact row_at (Y.out.row 0 rfl) HP.out.hv) (fun hHeld=>?_)
  clear hK K
  try simp only [Act.put,jA,jB,jC]
  refine' tk (i:=23) rfl ?U24 ?V24
  case U24=>intro w' hSw;go_simp;try (with_reducible rfl)
  try simp only [Act.put,jA,jB,jC]
  refine' tk (i:=24) rfl ?U25 ?V25
  case U25=>intro w' hSw;go_simp;try (with_reducible rfl)
  try simp only [Act.put,jA,jB,jC]
  rw [<- hF]
  exact tlis2 H1.out  _ Y
set_option maxHeartbeats 1000000 in
set_option maxRecDepth 100000 in
theorem tlis5 (H0 : tliH w0 gg g1 g2 k kk gc m bc cc i vs z RO Q Fr) (w : World) (X : Hid (SP w0 w ([.row 22 1 (some ⟨gg,0,none⟩) k gc vs,.own .u8 5 (some ⟨g1,0,none⟩) m bc z,.own .u8 5 (some ⟨g2,0,none⟩) m cc z]++RO))) :
 wpAnyH Tryz.prog .any (opsAt Tryz.f8 41) (NoPanic Q) (tliS w0 gg g1 g2 k kk gc m bc cc i vs z RO) 6 #[true,true,true,true,true,true,true,true,true,true,true,true,false,false,true,true,true,true,true,true,true,true,true,true,false,false,false,false] (Fr (.slice (some ⟨g1,0,none⟩) m bc) (.int .i64 (i : Int)) y154 y155 y156 y157 y158 (.slice (some ⟨g2,0,none⟩) m cc) (.int .i64 (i : Int)) y161 y162 (.pointer (some ⟨g1,i,none⟩)) y164 y165 y166 y167 y168 y169 y170 y171 y172 y173 y174 (.int .u8 (IntKind.u8.wrap (z[i]?.getD 0 + 1))) y176 y177) w:=by
 have H1:=Lib.hid H0
 obtain ⟨HP,⟨u,hF⟩,HQ⟩:=H0
 rw [hF]
 have hk:=HP.out.hk
 have hk2:=HP.out.hk2
 have hi:=HP.out.hi
 have t1 : (i : Int) < (m : Int):=by omega
 have t0 : (0 : Int)<=(i : Int):=by omega
 have s1 : (kk : Int) < (k : Int):=by omega
 have s0 : (0 : Int)<=(kk : Int):=by omega
 have e1 : IntKind.i64.wrap ((k : Int) - 1)=(kk : Int):=by rw [IntWalk.i64_in _ (by omega)];omega
 have hHeld : (tliS w0 gg g1 g2 k kk gc m bc cc i vs z RO) w:=by exact row_at (X.out.row 0 rfl) HP.out.hv
 refine rdy [12] ?_
 refine cons_lit rfl (fun K hK=>?ss12x30) AllReadyH.nil
 case ss12x30 =>
  have xc:=(X.out.own 1 rfl).cell hi
  go_simp
  clear xc
  have Y:=X
  refine hK.out _ _ (by exact row_at (Y.out.row 0 rfl) HP.out.hv) (fun hHeld=>?_)
  clear hK K
  try simp only [Act.put,jA,jB,jC]
  refine' tk (i:=13) rfl ?U31 ?V31
  case U31=>intro w' hSw;go_simp;try (with_reducible rfl)
  try simp only [Act.put,jA,jB,jC]
  refine' tk (i:=24) rfl ?U32 ?V32
  case U32=>intro w' hSw;go_simp;try (with_reducible rfl)
  try simp only [Act.put,jA,jB,jC]
  rw [<- hF]
  exact tlis2 H1.out  _ Y
set_option maxHeartbeats 1000000 in
set_option maxRecDepth 100000 in
theorem tlis0 (H0 : tliH w0 gg g1 g2 k kk gc m bc cc i vs z RO Q Fr) (w : World) (X : Hid (SP w0 w ([.row 22 1 (some ⟨gg,0,none⟩) k gc vs,.own .u8 5 (some ⟨g1,0,none⟩) m bc z,.own .u8 5 (some ⟨g2,0,none⟩) m cc z]++RO))) :
 wpAnyH Tryz.prog .any (opsAt Tryz.f8 41) (NoPanic Q) (tliS w0 gg g1 g2 k kk gc m bc cc i vs z RO) 28 #[false,false,false,false,false,false,false,false,false,false,false,false,false,false,false,false,false,false,false,false,false,false,false,false,false,false,false,false] (Fr y152 y153 y154 y155 y156 y157 y158 y159 y160 y161 y162 y163 y164 y165 y166 y167 y168 y169 y170 y171 y172 y173 y174 y175 y176 y177) w:=by
 have H1:=Lib.hid H0
 obtain ⟨HP,⟨u,hF⟩,HQ⟩:=H0
 rw [hF]
 have hk:=HP.out.hk
 have hk2:=HP.out.hk2
 have hi:=HP.out.hi
 have t1 : (i : Int) < (m : Int):=by omega
 have t0 : (0 : Int)<=(i : Int):=by omega
 have s1 : (kk : Int) < (k : Int):=by omega
 have s0 : (0 : Int)<=(kk : Int):=by omega
 have e1 : IntKind.i64.wrap ((k : Int) - 1)=(kk : Int):=by rw [IntWalk.i64_in _ (by omega)];omega
 have hHeld : (tliS w0 gg g1 g2 k kk gc m bc cc i vs z RO) w:=by exact row_at (X.out.row 0 rfl) HP.out.hv
 refine' tk (i:=0) rfl ?U1 ?V1
 case U1=>intro w' hSw;go_simp;try (with_reducible rfl)
 try simp only [Act.put,jA,jB,jC]
 refine' tk (i:=1) rfl ?U2 ?V2
 case U2=>intro w' hSw;go_simp;try (with_reducible rfl)
 try simp only [Act.put,jA,jB,jC]
 refine' tk (i:=2) rfl ?U3 ?V3
 case U3=>intro w' hSw;go_simp;try (with_reducible rfl)
 try simp only [Act.put,jA,jB,jC]
 refine' tk (i:=3) rfl ?U4 ?V4
 case U4=>intro w' hSw;go_simp;try (with_reducible rfl)
 try simp only [Act.put,jA,jB,jC]
 refine' tk (i:=4) rfl ?U5 ?V5
 case U5=>intro w' hSw;go_simp;try (with_reducible rfl)
 try simp only [Act.put,jA,jB,jC]
 refine' tk (i:=5) rfl ?U6 ?V6
 case U6=>intro w' hSw;go_simp;try (with_reducible rfl)
 try simp only [Act.put,jA,jB,jC]
 refine' tk (i:=6) rfl ?U7 ?V7
 case U7=>intro w' hSw;go_simp;try (with_reducible rfl)
 try simp only [Act.put,jA,jB,jC]
 refine' tk (i:=7) rfl ?U8 ?V8
 case U8=>intro w' hSw;unfold tliS at hSw;(try dsimp only at hSw);go_simp;try (with_reducible rfl)
 try simp only [Act.put,jA,jB,jC]
 refine' tk (i:=8) rfl ?U9 ?V9
 case U9=>intro w' hSw;go_simp;try (with_reducible rfl)
 try simp only [Act.put,jA,jB,jC]
 refine' tk (i:=9) rfl ?U10 ?V10
 case U10=>intro w' hSw;go_simp;try (with_reducible rfl)
 try simp only [Act.put,jA,jB,jC]
 refine' tk (i:=10) rfl ?U11 ?V11
 case U11=>intro w' hSw;go_simp;try (with_reducible rfl)
 try simp only [Act.put,jA,jB,jC]
 refine' tk (i:=11) rfl ?U12 ?V12
 case U12=>intro w' hSw;go_simp;try (with_reducible rfl)
 try simp only [Act.put,jA,jB,jC]
 refine' tk (i:=14) rfl ?U13 ?V13
 case U13=>intro w' hSw;go_simp;try (with_reducible rfl)
 try simp only [Act.put,jA,jB,jC]
 refine' tk (i:=15) rfl ?U14 ?V14
 case U14=>intro w' hSw;go_simp;try (with_reducible rfl)
 try simp only [Act.put,jA,jB,jC]
 refine' tk (i:=16) rfl ?U15 ?V15
 case U15=>intro w' hSw;go_simp;try (with_reducible rfl)
 try simp only [Act.put,jA,jB,jC]
 refine' tk (i:=17) rfl ?U16 ?V16
 case U16=>intro w' hSw;go_simp;try (with_reducible rfl)
 try simp only [Act.put,jA,jB,jC]
 refine' tk (i:=18) rfl ?U17 ?V17
 case U17=>intro w' hSw;go_simp;try (with_reducible rfl)
 try simp only [Act.put,jA,jB,jC]
 refine' tk (i:=19) rfl ?U18 ?V18
 case U18=>intro w' hSw;unfold tliS at hSw;(try dsimp only at hSw);go_simp;try (with_reducible rfl)
 try simp only [Act.put,jA,jB,jC]
 refine' tk (i:=20) rfl ?U19 ?V19
 case U19=>intro w' hSw;go_simp;try (with_reducible rfl)
 try simp only [Act.put,jA,jB,jC]
 refine' tk (i:=21) rfl ?U20 ?V20
 case U20=>intro w' hSw;go_simp;try (with_reducible rfl)
 try simp only [Act.put,jA,jB,jC]
 refine rdy [12,22] ?_
 refine cons_lit rfl (fun K hK=>?ss12x21) (cons_lit rfl (fun K hK=>?ss22x21) AllReadyH.nil)
 case ss12x21 =>
  have xc:=(X.out.own 1 rfl).cell hi
  go_simp
  clear xc
  have Y:=X
  refine hK.out _ _ (by exact row_at (Y.out.row 0 rfl) HP.out.hv) (fun hHeld=>?_)
  clear hK K
  try simp only [Act.put,jA,jB,jC]
  refine' tk (i:=13) rfl ?U22 ?V22
  case U22=>intro w' hSw;go_simp;try (with_reducible rfl)
  try simp only [Act.put,jA,jB,jC]
  rw [<- hF]
  exact tlis1 H1.out  _ Y
 case ss22x21 =>
  have xc:=(X.out.own 2 rfl).cell hi
  go_simp
  clear xc
  have Y:=X
  refine hK.out _ _ (by exact row_at (Y.out.row 0 rfl) HP.out.hv) (fun hHeld=>?_)
  clear hK K
  try simp only [Act.put,jA,jB,jC]
  refine' tk (i:=23) rfl ?U29 ?V29
  case U29=>intro w' hSw;go_simp;try (with_reducible rfl)
  try simp only [Act.put,jA,jB,jC]
  rw [<- hF]
  exact tlis5 H1.out  _ Y
end
set_option maxRecDepth 100000 in
theorem tli_0 {u0 u1 u2 u3 u4 u5 u6 u7 u8 u9 u10 u11 u12 u13 u15 u16 u17 u18 u19 u21 u22 u23 u24 u26 u27 u28 u29 u30 u31 u32 u33 u34 u35 u36 u37 u38 u39 u40 u41 u42 u43 u44 u45 u46 u47 u48 u49 u50 u51 u52 u53 u54 u55 u56 u57 u58 u59 u60 u61 u62 u63 u64 u65 u66 u67 u68 u69 u70 u71 u72 u73 u74 u75 u76 u77 u78 u79 u80 u81 u82 u83 u84 u85 u86 u87 u88 u89 u90 u91 u92 u93 u94 u95 u96 u97 u98 u99 u100 u101 u102 u103 u104 u105 u106 u107 u108 u109 u110 u111 u112 u113 u114 u115 u116 u117 u118 u119 u120 u121 u122 u123 u124 u125 u126 u127 u128 u129 u130 u131 u132 u133 u134 u135 u136 u137 u138 u139 u140 u141 u142 u143 u144 u145 u146 u147 u148 u149 u150 u151 u152 u153 u154 u155 u156 u157 u158 u159 u160 u161 u162 u163 u164 u165 u166 u167 u168 u169 u170 u171 u172 u173 u174 u175 u176 u177 u178 u179 u180 u181 u182 u183 u184 u185 u186 u187 u188 u189 u190 u191 u192 u193 u194 u195 : Value} {Q : Exit->Act->World->Prop} {w0 : World} {gg g1 g2 k kk gc m bc cc i : Nat} {vs : List Value} {z : List Int} {RO : List IT} (HP : Hid (tliP w0 gg g1 g2 k kk gc m bc cc i vs z RO)) (HQ : Hid (∀ (y152 y153 y154 y155 y156 y157 y158 y159 y160 y161 y162 y163 y164 y165 y166 y167 y168 y169 y170 y171 y172 y173 y174 y175 y176 y177 : Value) (w' : World),SP w0 w' ([.row 22 1 (some ⟨gg,0,none⟩) k gc vs,.own .u8 5 (some ⟨g1,0,none⟩) m bc (z.set i (IntKind.u8.wrap (z[i]?.getD 0 + 1))),.own .u8 5 (some ⟨g2,0,none⟩) m cc (z.set i (IntKind.u8.wrap (z[i]?.getD 0 + 1)))]++RO)->Q .normal ⟨List.toArray (u0::u1::u2::u3::u4::u5::u6::u7::u8::u9::u10::u11::u12::u13::.slice (some ⟨gg,0,none⟩) k gc::u15::u16::u17::u18::u19::.slice (some ⟨g1,0,none⟩) m bc::u21::u22::u23::u24::.int .i64 (i : Int)::u26::u27::u28::u29::u30::u31::u32::u33::u34::u35::u36::u37::u38::u39::u40::u41::u42::u43::u44::u45::u46::u47::u48::u49::u50::u51::u52::u53::u54::u55::u56::u57::u58::u59::u60::u61::u62::u63::u64::u65::u66::u67::u68::u69::u70::u71::u72::u73::u74::u75::u76::u77::u78::u79::u80::u81::u82::u83::u84::u85::u86::u87::u88::u89::u90::u91::u92::u93::u94::u95::u96::u97::u98::u99::u100::u101::u102::u103::u104::u105::u106::u107::u108::u109::u110::u111::u112::u113::u114::u115::u116::u117::u118::u119::u120::u121::u122::u123::u124::u125::u126::u127::u128::u129::u130::u131::u132::u133::u134::u135::u136::u137::u138::u139::u140::u141::u142::u143::u144::u145::u146::u147::u148::u149::u150::u151::y152::y153::y154::y155::y156::y157::y158::y159::y160::y161::y162::y163::y164::y165::y166::y167::y168::y169::y170::y171::y172::y173::y174::y175::y176::y177::u178::u179::u180::u181::u182::u183::u184::u185::u186::u187::u188::u189::u190::u191::u192::u193::u194::u195::[]),[]⟩ w')) (w : World) (X : Hid (SP w0 w ([.row 22 1 (some ⟨gg,0,none⟩) k gc vs,.own .u8 5 (some ⟨g1,0,none⟩) m bc z,.own .u8 5 (some ⟨g2,0,none⟩) m cc z]++RO))) :
 wpAnyH Tryz.prog .any (opsAt Tryz.f8 41) (NoPanic Q) (tliS w0 gg g1 g2 k kk gc m bc cc i vs z RO) 28 #[false,false,false,false,false,false,false,false,false,false,false,false,false,false,false,false,false,false,false,false,false,false,false,false,false,false,false,false] ⟨List.toArray (u0::u1::u2::u3::u4::u5::u6::u7::u8::u9::u10::u11::u12::u13::.slice (some ⟨gg,0,none⟩) k gc::u15::u16::u17::u18::u19::.slice (some ⟨g1,0,none⟩) m bc::u21::u22::u23::u24::.int .i64 (i : Int)::u26::u27::u28::u29::u30::u31::u32::u33::u34::u35::u36::u37::u38::u39::u40::u41::u42::u43::u44::u45::u46::u47::u48::u49::u50::u51::u52::u53::u54::u55::u56::u57::u58::u59::u60::u61::u62::u63::u64::u65::u66::u67::u68::u69::u70::u71::u72::u73::u74::u75::u76::u77::u78::u79::u80::u81::u82::u83::u84::u85::u86::u87::u88::u89::u90::u91::u92::u93::u94::u95::u96::u97::u98::u99::u100::u101::u102::u103::u104::u105::u106::u107::u108::u109::u110::u111::u112::u113::u114::u115::u116::u117::u118::u119::u120::u121::u122::u123::u124::u125::u126::u127::u128::u129::u130::u131::u132::u133::u134::u135::u136::u137::u138::u139::u140::u141::u142::u143::u144::u145::u146::u147::u148::u149::u150::u151::u152::u153::u154::u155::u156::u157::u158::u159::u160::u161::u162::u163::u164::u165::u166::u167::u168::u169::u170::u171::u172::u173::u174::u175::u176::u177::u178::u179::u180::u181::u182::u183::u184::u185::u186::u187::u188::u189::u190::u191::u192::u193::u194::u195::[]),[]⟩ w :=
 tlis0 (Fr:=(fun y152 y153 y154 y155 y156 y157 y158 y159 y160 y161 y162 y163 y164 y165 y166 y167 y168 y169 y170 y171 y172 y173 y174 y175 y176 y177=>⟨List.toArray (u0::u1::u2::u3::u4::u5::u6::u7::u8::u9::u10::u11::u12::u13::.slice (some ⟨gg,0,none⟩) k gc::u15::u16::u17::u18::u19::.slice (some ⟨g1,0,none⟩) m bc::u21::u22::u23::u24::.int .i64 (i : Int)::u26::u27::u28::u29::u30::u31::u32::u33::u34::u35::u36::u37::u38::u39::u40::u41::u42::u43::u44::u45::u46::u47::u48::u49::u50::u51::u52::u53::u54::u55::u56::u57::u58::u59::u60::u61::u62::u63::u64::u65::u66::u67::u68::u69::u70::u71::u72::u73::u74::u75::u76::u77::u78::u79::u80::u81::u82::u83::u84::u85::u86::u87::u88::u89::u90::u91::u92::u93::u94::u95::u96::u97::u98::u99::u100::u101::u102::u103::u104::u105::u106::u107::u108::u109::u110::u111::u112::u113::u114::u115::u116::u117::u118::u119::u120::u121::u122::u123::u124::u125::u126::u127::u128::u129::u130::u131::u132::u133::u134::u135::u136::u137::u138::u139::u140::u141::u142::u143::u144::u145::u146::u147::u148::u149::u150::u151::y152::y153::y154::y155::y156::y157::y158::y159::y160::y161::y162::y163::y164::y165::y166::y167::y168::y169::y170::y171::y172::y173::y174::y175::y176::y177::u178::u179::u180::u181::u182::u183::u184::u185::u186::u187::u188::u189::u190::u191::u192::u193::u194::u195::[]),[]⟩)) ⟨HP,⟨fun i=>([u0,u1,u2,u3,u4,u5,u6,u7,u8,u9,u10,u11,u12,u13,undef,u15,u16,u17,u18,u19,undef,u21,u22,u23,u24,undef,u26,u27,u28,u29,u30,u31,u32,u33,u34,u35,u36,u37,u38,u39,u40,u41,u42,u43,u44,u45,u46,u47,u48,u49,u50,u51,u52,u53,u54,u55,u56,u57,u58,u59,u60,u61,u62,u63,u64,u65,u66,u67,u68,u69,u70,u71,u72,u73,u74,u75,u76,u77,u78,u79,u80,u81,u82,u83,u84,u85,u86,u87,u88,u89,u90,u91,u92,u93,u94,u95,u96,u97,u98,u99,u100,u101,u102,u103,u104,u105,u106,u107,u108,u109,u110,u111,u112,u113,u114,u115,u116,u117,u118,u119,u120,u121,u122,u123,u124,u125,u126,u127,u128,u129,u130,u131,u132,u133,u134,u135,u136,u137,u138,u139,u140,u141,u142,u143,u144,u145,u146,u147,u148,u149,u150,u151,u152,u153,u154,u155,u156,u157,u158,u159,u160,u161,u162,u163,u164,u165,u166,u167,u168,u169,u170,u171,u172,u173,u174,u175,u176,u177,u178,u179,u180,u181,u182,u183,u184,u185,u186,u187,u188,u189,u190,u191,u192,u193,u194,u195] : List Value)[i]?.getD undef,fun _ _ _ _ _ _ _ _ _ _ _ _ _ _ _ _ _ _ _ _ _ _ _ _ _ _=>rfl⟩,Lib.hid HQ.out⟩ w X
set_option maxHeartbeats 1000000 in
set_option maxRecDepth 100000 in
theorem tells_inc {u0 u1 u2 u3 u4 u5 u6 u7 u8 u9 u10 u11 u12 u13 u15 u16 u17 u18 u19 u21 u22 u23 u24 u25 u26 u27 u28 u29 u30 u31 u32 u33 u34 u35 u36 u37 u38 u39 u40 u41 u42 u43 u44 u45 u46 u47 u48 u49 u50 u51 u52 u53 u54 u55 u56 u57 u58 u59 u60 u61 u62 u63 u64 u65 u66 u67 u68 u69 u70 u71 u72 u73 u74 u75 u76 u77 u78 u79 u80 u81 u82 u83 u84 u85 u86 u87 u88 u89 u90 u91 u92 u93 u94 u95 u96 u97 u98 u99 u100 u101 u102 u103 u104 u105 u106 u107 u108 u109 u110 u111 u112 u113 u114 u115 u116 u117 u118 u119 u120 u121 u122 u123 u124 u125 u126 u127 u128 u129 u130 u131 u132 u133 u134 u135 u136 u137 u138 u139 u140 u141 u142 u143 u144 u145 u146 u150 u151 u152 u153 u154 u155 u156 u157 u158 u159 u160 u161 u162 u163 u164 u165 u166 u167 u168 u169 u170 u171 u172 u173 u174 u175 u176 u177 u178 u179 u180 u181 u182 u183 u184 u185 u186 u187 u188 u189 u190 u191 u192 u193 u194 u195 : Value} {Q : Exit->Act->World->Prop} (w : World) (gA bA cA : Option Addr) (k kk gc m bc cc : Nat) (vs : List Value) (z : List Int) (RO : List IT) (hk : kk + 1=k) (hk2 : k<=100000) (hm : m<=100000) (hv : Hid (vs[kk]?=some (.slice cA m cc))) (w1 : World) (X1 : Hid (SP w w1 ([.row 22 1 gA k gc vs,.own .u8 5 bA m bc z,.own .u8 5 cA m cc z]++RO)))
 (HQ : Hid (∀ (y25 y149 y150 y151 y152 y153 y154 y155 y156 y157 y158 y159 y160 y161 y162 y163 y164 y165 y166 y167 y168 y169 y170 y171 y172 y173 y174 y175 y176 y177 y178 : Value) (z' : List Int) (w' : World),SP w w' ([.row 22 1 gA k gc vs,.own .u8 5 bA m bc z',.own .u8 5 cA m cc z']++RO)->Q (.exit 6) ⟨List.toArray (u0::u1::u2::u3::u4::u5::u6::u7::u8::u9::u10::u11::u12::u13::.slice gA k gc::u15::u16::u17::u18::u19::.slice bA m bc::u21::u22::u23::u24::y25::u26::u27::u28::u29::u30::u31::u32::u33::u34::u35::u36::u37::u38::u39::u40::u41::u42::u43::u44::u45::u46::u47::u48::u49::u50::u51::u52::u53::u54::u55::u56::u57::u58::u59::u60::u61::u62::u63::u64::u65::u66::u67::u68::u69::u70::u71::u72::u73::u74::u75::u76::u77::u78::u79::u80::u81::u82::u83::u84::u85::u86::u87::u88::u89::u90::u91::u92::u93::u94::u95::u96::u97::u98::u99::u100::u101::u102::u103::u104::u105::u106::u107::u108::u109::u110::u111::u112::u113::u114::u115::u116::u117::u118::u119::u120::u121::u122::u123::u124::u125::u126::u127::u128::u129::u130::u131::u132::u133::u134::u135::u136::u137::u138::u139::u140::u141::u142::u143::u144::u145::u146::.slice bA m bc::.int .i64 (m : Int)::y149::y150::y151::y152::y153::y154::y155::y156::y157::y158::y159::y160::y161::y162::y163::y164::y165::y166::y167::y168::y169::y170::y171::y172::y173::y174::y175::y176::y177::y178::u179::u180::u181::u182::u183::u184::u185::u186::u187::u188::u189::u190::u191::u192::u193::u194::u195::[]),[]⟩ w')) :
 Code.wp Tryz.prog (loopIn Tryz.f8 40) Q ⟨List.toArray (u0::u1::u2::u3::u4::u5::u6::u7::u8::u9::u10::u11::u12::u13::.slice gA k gc::u15::u16::u17::u18::u19::.slice bA m bc::u21::u22::u23::u24::u25::u26::u27::u28::u29::u30::u31::u32::u33::u34::u35::u36::u37::u38::u39::u40::u41::u42::u43::u44::u45::u46::u47::u48::u49::u50::u51::u52::u53::u54::u55::u56::u57::u58::u59::u60::u61::u62::u63::u64::u65::u66::u67::u68::u69::u70::u71::u72::u73::u74::u75::u76::u77::u78::u79::u80::u81::u82::u83::u84::u85::u86::u87::u88::u89::u90::u91::u92::u93::u94::u95::u96::u97::u98::u99::u100::u101::u102::u103::u104::u105::u106::u107::u108::u109::u110::u111::u112::u113::u114::u115::u116::u117::u118::u119::u120::u121::u122::u123::u124::u125::u126::u127::u128::u129::u130::u131::u132::u133::u134::u135::u136::u137::u138::u139::u140::u141::u142::u143::u144::u145::u146::.slice bA m bc::.int .i64 (m : Int)::.int .i64 0::u150::u151::u152::u153::u154::u155::u156::u157::u158::u159::u160::u161::u162::u163::u164::u165::u166::u167::u168::u169::u170::u171::u172::u173::u174::u175::u176::u177::u178::u179::u180::u181::u182::u183::u184::u185::u186::u187::u188::u189::u190::u191::u192::u193::u194::u195::[]),[]⟩ w1:=by
 conv=>arg 2;whnf
 go_loopw [25,149] (fun _ s149 wr=>∃ (i : Nat) (z' : List Int),i<=m∧s149 = .int .i64 (i : Int)∧SP w wr ([.row 22 1 gA k gc vs,.own .u8 5 bA m bc z',.own .u8 5 cA m cc z']++RO)) (fun _ s149 _=>m - (intOf s149).toNat)
 case atStart=>exact ⟨0,z,Nat.zero_le _,rfl,X1.out⟩
 case round =>
  obtain ⟨i,z2,hi,rfl,Y0⟩:=hrel
  have Y:=Lib.hid Y0
  clear Y0 X1
  by_cases hlt : i < m
  ·have t1 : (i : Int) < (m : Int):=by omega
   have t0 : (0 : Int)<=(i : Int):=by omega
   have e6 : IntKind.i64.wrap ((i : Int) + 1)=(i : Int) + 1:=IntWalk.i64_in _ (by omega)
   obtain ⟨gg,hgg,_⟩:=row_head (Y.out.row 0 rfl) (by omega)
   obtain ⟨g1,hg1,_⟩:=(Y.out.own 1 rfl).form (by omega)
   obtain ⟨g2,hg2,_⟩:=(Y.out.own 2 rfl).form (by omega)
   subst hgg hg1 hg2
   go_upto_region 41 with fail
   refine wp_region_noPanic ?_
   refine wp_region_held_drew (S:=tliS w gg g1 g2 k kk gc m bc cc i vs z2 RO) (by kernel_rfl) (row_at (Y.out.drew.row 0 rfl) hv.out) (fun hHeld=>?_)
   clear hHeld
   refine tli_0 (Lib.hid ⟨hk,hk2,hlt,hm,hv.out⟩) (Lib.hid ?_) _ (Lib.hid Y.out.drew)
   intro y152 y153 y154 y155 y156 y157 y158 y159 y160 y161 y162 y163 y164 y165 y166 y167 y168 y169 y170 y171 y172 y173 y174 y175 y176 y177 w2 hX2
   have Z:=Lib.hid hX2
   clear hX2 Y
   go_wp2_with fail
   go_roundw
   case rel=>exact ⟨i + 1,_,by omega,by go_num,Z.out⟩
   case measure=>simp [intOf];omega
  ·have t1 : ¬ (i : Int) < (m : Int):=by omega
   obtain rfl : i=m:=by omega
   go_wp2_with fail
   exact HQ.out _ _ _ _ _ _ _ _ _ _ _ _ _ _ _ _ _ _ _ _ _ _ _ _ _ _ _ _ _ _ _ z2 _ Y.out
end Go.Proofs.YtljbfnabnkkfeaaGreat
