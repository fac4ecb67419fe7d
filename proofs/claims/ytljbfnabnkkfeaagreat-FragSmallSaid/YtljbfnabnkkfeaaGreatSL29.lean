import Derived.Test.YtljbfnabnkkfeaaGreatSL28
set_option linter.unusedVariables false
set_option linter.unusedSimpArgs false
/- Joined by program: FgSc, LFragSmall. -/
namespace Go.Proofs.YtljbfnabnkkfeaaGreat
open Go.RowKit
def OP.v (x : OP) : Value:=.slice x.A x.n x.c
theorem lk_of_row {w : World} {base g n c : Nat} {e : TypeId} {l : List OP} (h : w.ownsRow base e 1 (.slice (some ⟨g,0,none⟩) n c) n (l.map OP.v)) (hl : l.length=n) (h0 : 0 < n) (hok : ∀ x ∈ l,OPOK w x) : LK w g n l where
 len:=hl
 lt:=by
  have h1 : w.cell? ⟨g,0,none⟩=(l.map OP.v)[0]?:=World.ownsRow.cellAt h 0 (by omega)
  rw [List.getElem?_map,List.getElem?_eq_getElem (by omega : 0 < l.length)] at h1
  refine Classical.byContradiction fun hn=>?_
  have h2 : w.heap[g]?=none:=Array.getElem?_eq_none (by omega)
  unfold World.cell? at h1
  rw [h2] at h1
  cases h1
 at_:=fun i x hx=>by
  have hi : i < n:=by rw [<- hl];exact (List.getElem?_eq_some_iff.1 hx).1
  have h1 : w.cell? ⟨g,i,none⟩=(l.map OP.v)[i]?:=World.ownsRow.cellAt h i (by omega)
  rw [h1,List.getElem?_map,hx]
  rfl
 ok:=hok
theorem OPOK.own {w : World} {e : TypeId} {base : Nat} {A : Option Addr} {n c : Nat} {zs : List Int} (h : OWN .u8 e w base A n c zs) (hb : BD 255 zs) : OPOK w ⟨true,0,A,n,c,zs⟩:=⟨h.rd,hb,h.le.1,(by decide : -9223372036854775808<=(0 : Int)∧(0 : Int)<=9223372036854775807)⟩
set_option maxHeartbeats 1000000 in
set_option maxRecDepth 100000 in
theorem small7_1 {u0 u3 u4 u5 u6 u7 u8 u9 u10 u11 u12 u13 u14 u15 u16 u17 u18 u19 u20 u21 u22 u23 u24 u25 u26 u27 u28 u29 u30 u31 u32 u33 u34 u35 u36 u37 u38 u39 u40 u41 u42 u43 u44 u45 u46 u47 u48 u49 u50 u51 u52 u53 u54 u55 u56 u57 u58 u59 u60 u61 u62 u63 u64 u65 u66 u67 u68 u69 u70 u71 u72 u73 u74 u75 u76 u77 u78 u79 u80 u81 u82 u83 u84 u85 u86 u87 u88 u89 u90 u91 u92 u93 u94 u95 u96 u97 u98 u99 u100 u101 u102 u103 u104 u105 u106 u107 u108 u109 u110 u111 u112 u113 u114 u115 u116 u117 u118 u119 u120 u121 u122 u123 u124 u125 u126 u127 u128 u129 u130 u131 u132 u133 u134 u135 u136 u137 u138 u139 u140 u141 u142 u143 u144 u145 u146 u147 u148 u149 u150 u151 u152 u153 u154 u155 u156 u157 u158 u159 u160 u161 u162 u163 u164 u165 u166 u167 u168 u169 u170 u171 u172 u173 u174 u175 u176 u177 u178 u179 u180 u181 u182 u183 u184 u185 u186 u187 u188 u189 u190 u191 u192 u193 u194 u195 u196 u197 u198 u199 u200 u201 u202 u203 u204 u205 u206 : Value} {Q : Exit->Act->World->Prop} (w : World) (gb c : Nat) (RO : List IT) (hc : 40<=c) (HB : Hid (∀ W,SP w W RO->RD .u8 W W.heap.size (some ⟨gb,0,none⟩) 40 EX7)) (w1 : World) (X1 : Hid (SP w w1 RO))
 (HQ : Hid (∀ (y0 y2 y24 y25 y26 y27 y28 y29 y30 y31 y32 y33 y34 y35 y36 y37 y38 y39 : Value) (w' : World),SP w w' RO->Q (.exit 0) ⟨List.toArray (y0::.slice (some ⟨gb,0,none⟩) 40 c::y2::u3::u4::u5::u6::u7::u8::u9::u10::u11::u12::u13::u14::u15::u16::u17::u18::u19::u20::u21::u22::u23::y24::y25::y26::y27::y28::y29::y30::y31::y32::y33::y34::y35::y36::y37::y38::y39::u40::u41::u42::u43::u44::u45::u46::u47::u48::u49::u50::u51::u52::u53::u54::u55::u56::u57::u58::u59::u60::u61::u62::u63::u64::u65::u66::u67::u68::u69::u70::u71::u72::u73::u74::u75::u76::u77::u78::u79::u80::u81::u82::u83::u84::u85::u86::u87::u88::u89::u90::u91::u92::u93::u94::u95::u96::u97::u98::u99::u100::u101::u102::u103::u104::u105::u106::u107::u108::u109::u110::u111::u112::u113::u114::u115::u116::u117::u118::u119::u120::u121::u122::u123::u124::u125::u126::u127::u128::u129::u130::u131::u132::u133::u134::u135::u136::u137::u138::u139::u140::u141::u142::u143::u144::u145::u146::u147::u148::u149::u150::u151::u152::u153::u154::u155::u156::u157::u158::u159::u160::u161::u162::u163::u164::u165::u166::u167::u168::u169::u170::u171::u172::u173::u174::u175::u176::u177::u178::u179::u180::u181::u182::u183::u184::u185::u186::u187::u188::u189::u190::u191::u192::u193::u194::u195::u196::u197::u198::u199::u200::u201::u202::u203::u204::u205::u206::[]),[]⟩ w')) :
 Code.wp Tryz.prog (loopAt Tryz.f3 3) Q ⟨List.toArray (u0::.slice (some ⟨gb,0,none⟩) 40 c::.int .i64 (-8)::u3::u4::u5::u6::u7::u8::u9::u10::u11::u12::u13::u14::u15::u16::u17::u18::u19::u20::u21::u22::u23::u24::u25::u26::u27::u28::u29::u30::u31::u32::u33::u34::u35::u36::u37::u38::u39::u40::u41::u42::u43::u44::u45::u46::u47::u48::u49::u50::u51::u52::u53::u54::u55::u56::u57::u58::u59::u60::u61::u62::u63::u64::u65::u66::u67::u68::u69::u70::u71::u72::u73::u74::u75::u76::u77::u78::u79::u80::u81::u82::u83::u84::u85::u86::u87::u88::u89::u90::u91::u92::u93::u94::u95::u96::u97::u98::u99::u100::u101::u102::u103::u104::u105::u106::u107::u108::u109::u110::u111::u112::u113::u114::u115::u116::u117::u118::u119::u120::u121::u122::u123::u124::u125::u126::u127::u128::u129::u130::u131::u132::u133::u134::u135::u136::u137::u138::u139::u140::u141::u142::u143::u144::u145::u146::u147::u148::u149::u150::u151::u152::u153::u154::u155::u156::u157::u158::u159::u160::u161::u162::u163::u164::u165::u166::u167::u168::u169::u170::u171::u172::u173::u174::u175::u176::u177::u178::u179::u180::u181::u182::u183::u184::u185::u186::u187::u188::u189::u190::u191::u192::u193::u194::u195::u196::u197::u198::u199::u200::u201::u202::u203::u204::u205::u206::[]),[]⟩ w1:=by
 conv=>arg 2;whnf
 go_loopw [2] (fun s2 wr=>∃ x : Int,-8<=x∧x<=40∧s2 = .int .i64 x∧SP w wr RO) (fun s2 _=>(40 - intOf s2).toNat)
 case atStart=>exact ⟨-8,by omega,by omega,rfl,X1.out⟩
 case round =>
  obtain ⟨x,hx0,hx1,rfl,Y0⟩:=hrel
  have Y:=Lib.hid Y0
  clear Y0 X1
  by_cases hlt : x < 40
  ·obtain ⟨mm,hmm,hm⟩ : ∃ mm : Nat,bits .and .i64 x 31=(mm : Int)∧mm<=31:=by
    obtain ⟨h1,h2,_⟩:=and_small x 31 (by decide)
    have h3 : 0<=bits .and .i64 x 31:=h1
    have h4 : bits .and .i64 x 31<=31:=h2
    exact ⟨(bits .and .i64 x 31).toNat,by omega,by omega⟩
   have e6 : IntKind.i64.wrap (x + 1)=x + 1:=IntWalk.i64_in _ (by omega)
   have u1 : (0 : Int)<=(mm : Int):=by omega
   have u2 : (mm : Int)<=(c : Int):=by omega
   go_wp2_with fail
   refine (splits7_any (some ⟨gb,0,none⟩) 40 c EX7 x _ (HB.out _ Y.out) ex7_bd hc (by omega) (by omega)).mono ?_
   rintro e w2 ⟨rfl,hb2⟩
   have Z:=Lib.hid (Y.out.next hb2)
   clear hb2 Y
   go_wp2_with fail
   refine (splits7_any (some ⟨gb,0,none⟩) mm c (EX7.take mm) 8 _ ((HB.out _ Z.out).take (by omega)) (ex7_bd.take mm) (by omega) (by omega) (by omega)).mono ?_
   rintro e w3 ⟨rfl,hb3⟩
   have V:=Lib.hid (Z.out.next hb3)
   clear hb3 Z
   go_wp2_with fail
   go_roundw
   case rel=>exact ⟨x + 1,by omega,by omega,by go_num,V.out⟩
   case measure=>simp [intOf];omega
  ·go_wp2_with fail
   exact HQ.out _ _ _ _ _ _ _ _ _ _ _ _ _ _ _ _ _ _ _ Y.out
attribute [local go_sem ↓] Go.wp_at_zero Go.wp_at_succ
structure sm1P (w0 : World) (lg cl : Nat) (x0 x1 x2 x3 x4 x5 x6 x7 : OP) (RO : List IT) : Prop where
 lk : ∀ W,SP w0 W RO->(W.cell? ⟨lg,0,none⟩=some (.slice x0.A x0.n x0.c)∧W.cell? ⟨lg,1,none⟩=some (.slice x1.A x1.n x1.c)∧W.cell? ⟨lg,2,none⟩=some (.slice x2.A x2.n x2.c))
def sm1S (w0 : World) (lg cl : Nat) (x0 x1 x2 x3 x4 x5 x6 x7 : OP) (RO : List IT) : World->Prop:=fun W=>(W.cell? ⟨lg,0,none⟩=some (.slice x0.A x0.n x0.c)∧W.cell? ⟨lg,1,none⟩=some (.slice x1.A x1.n x1.c)∧W.cell? ⟨lg,2,none⟩=some (.slice x2.A x2.n x2.c))
set_option maxRecDepth 100000 in
def sm1F (w0 : World) (lg cl : Nat) (x0 x1 x2 x3 x4 x5 x6 x7 : OP) (RO : List IT) (Fr : Value->Value->Value->Value->Value->Value->Value->Value->Value->Value->Value->Value->Value->Value->Value->Value->Act) : Prop:=∃ u : Nat->Value,∀ y13 y67 y68 y69 y70 y71 y72 y73 y74 y75 y76 y77 y78 y79 y80 y81,Fr y13 y67 y68 y69 y70 y71 y72 y73 y74 y75 y76 y77 y78 y79 y80 y81=⟨List.toArray (u 0::.slice x7.A x7.n x7.c::u 2::.slice (some ⟨lg,0,none⟩) 3 cl::u 4::.slice x3.A x3.n x3.c::u 6::.slice x4.A x4.n x4.c::u 8::.slice x5.A x5.n x5.c::u 10::.slice x6.A x6.n x6.c::u 12::y13::u 14::u 15::u 16::u 17::u 18::u 19::u 20::u 21::u 22::u 23::u 24::u 25::u 26::u 27::u 28::u 29::u 30::u 31::u 32::u 33::u 34::u 35::u 36::u 37::u 38::u 39::u 40::u 41::u 42::u 43::u 44::u 45::u 46::u 47::u 48::u 49::u 50::u 51::u 52::u 53::u 54::u 55::u 56::u 57::u 58::u 59::u 60::u 61::u 62::u 63::u 64::u 65::u 66::y67::y68::y69::y70::y71::y72::y73::y74::y75::y76::y77::y78::y79::y80::y81::u 82::u 83::u 84::u 85::u 86::u 87::u 88::u 89::u 90::u 91::u 92::u 93::u 94::u 95::u 96::u 97::u 98::u 99::u 100::u 101::u 102::u 103::u 104::u 105::u 106::u 107::u 108::u 109::u 110::u 111::u 112::u 113::u 114::u 115::u 116::u 117::u 118::u 119::u 120::u 121::u 122::u 123::u 124::u 125::u 126::u 127::u 128::u 129::u 130::u 131::u 132::u 133::u 134::u 135::u 136::u 137::u 138::u 139::u 140::u 141::u 142::u 143::u 144::u 145::u 146::u 147::u 148::u 149::u 150::u 151::u 152::u 153::u 154::u 155::u 156::u 157::u 158::u 159::u 160::u 161::u 162::u 163::u 164::u 165::u 166::u 167::u 168::u 169::u 170::u 171::u 172::u 173::u 174::u 175::u 176::u 177::u 178::u 179::u 180::u 181::u 182::u 183::u 184::u 185::u 186::u 187::u 188::u 189::u 190::u 191::u 192::u 193::u 194::u 195::u 196::u 197::u 198::u 199::u 200::u 201::u 202::u 203::u 204::u 205::u 206::[]),[]⟩
def sm1R (w0 : World) (lg cl : Nat) (x0 x1 x2 x3 x4 x5 x6 x7 : OP) (RO : List IT) (Q : Exit->Act->World->Prop) (Fr : Value->Value->Value->Value->Value->Value->Value->Value->Value->Value->Value->Value->Value->Value->Value->Value->Act) : Prop:=∀ (y67 y68 y69 y70 y71 y72 y73 y74 y75 y76 y77 y78 y79 y80 y81 : Value) (gL : Nat) (w' : World),SP w0 w' ([.row 22 1 (some ⟨gL,0,none⟩) 8 8 [.slice x0.A x0.n x0.c,.slice x1.A x1.n x1.c,.slice x2.A x2.n x2.c,.slice x3.A x3.n x3.c,.slice x4.A x4.n x4.c,.slice x5.A x5.n x5.c,.slice x6.A x6.n x6.c,.slice x7.A x7.n x7.c]]++RO)->Q .normal (Fr (.slice (some ⟨gL,0,none⟩) 8 8) y67 y68 y69 y70 y71 y72 y73 y74 y75 y76 y77 y78 y79 y80 y81) w'
def sm1H (w0 : World) (lg cl : Nat) (x0 x1 x2 x3 x4 x5 x6 x7 : OP) (RO : List IT) (Q : Exit->Act->World->Prop) (Fr : Value->Value->Value->Value->Value->Value->Value->Value->Value->Value->Value->Value->Value->Value->Value->Value->Act) : Prop:=Hid (sm1P w0 lg cl x0 x1 x2 x3 x4 x5 x6 x7 RO)∧sm1F w0 lg cl x0 x1 x2 x3 x4 x5 x6 x7 RO Fr∧Hid (sm1R w0 lg cl x0 x1 x2 x3 x4 x5 x6 x7 RO Q Fr)
section
variable {Q : Exit->Act->World->Prop} {y13 y67 y68 y69 y70 y71 y72 y73 y74 y75 y76 y77 y78 y79 y80 y81 : Value} {w0 : World} {lg cl : Nat} {x0 x1 x2 x3 x4 x5 x6 x7 : OP} {RO : List IT} {Fr : Value->Value->Value->Value->Value->Value->Value->Value->Value->Value->Value->Value->Value->Value->Value->Value->Act}
set_option maxHeartbeats 1000000 in
set_option maxRecDepth 100000 in
theorem sm1s1 (H0 : sm1H w0 lg cl x0 x1 x2 x3 x4 x5 x6 x7 RO Q Fr) (gL : Nat) (w : World) (X : Hid (SP w0 w ([.row 22 1 (some ⟨gL,0,none⟩) 8 8 [.slice x0.A x0.n x0.c,.slice x1.A x1.n x1.c,.slice x2.A x2.n x2.c,.slice x3.A x3.n x3.c,.slice x4.A x4.n x4.c,.slice x5.A x5.n x5.c,.slice x6.A x6.n x6.c,.slice x7.A x7.n x7.c]]++RO))) :
 wpAnyH Tryz.prog .any (opsAt Tryz.f3 12) (NoPanic Q) (sm1S w0 lg cl x0 x1 x2 x3 x4 x5 x6 x7 RO) 0 #[true,true,true,true,true,true,true,true,true,true,true,true,true,true,true,true] (Fr (.slice (some ⟨gL,0,none⟩) 8 8) y67 y68 y69 y70 y71 y72 y73 y74 y75 y76 y77 y78 y79 y80 y81) w:=by
 have H1:=Lib.hid H0
 obtain ⟨HP,⟨u,hF⟩,HQ⟩:=H0
 rw [hF]
 have hHeld : (sm1S w0 lg cl x0 x1 x2 x3 x4 x5 x6 x7 RO) w:=by exact HP.out.lk _ X.out.right
 refine wpAnyH_done (by kernel_rfl) ?_ _
 refine NoPanic.normal ?_
 rw [<- hF]
 exact HQ.out _ _ _ _ _ _ _ _ _ _ _ _ _ _ _ gL _ X.out
set_option maxHeartbeats 1000000 in
set_option maxRecDepth 100000 in
theorem sm1s0 (H0 : sm1H w0 lg cl x0 x1 x2 x3 x4 x5 x6 x7 RO Q Fr) (w : World) (X : Hid (SP w0 w ([]++RO))) :
 wpAnyH Tryz.prog .any (opsAt Tryz.f3 12) (NoPanic Q) (sm1S w0 lg cl x0 x1 x2 x3 x4 x5 x6 x7 RO) 16 #[false,false,false,false,false,false,false,false,false,false,false,false,false,false,false,false] (Fr y13 y67 y68 y69 y70 y71 y72 y73 y74 y75 y76 y77 y78 y79 y80 y81) w:=by
 have H1:=Lib.hid H0
 obtain ⟨HP,⟨u,hF⟩,HQ⟩:=H0
 rw [hF]
 have hHeld : (sm1S w0 lg cl x0 x1 x2 x3 x4 x5 x6 x7 RO) w:=by exact HP.out.lk _ X.out.right
 refine' tk (i:=0) rfl ?U69 ?V69
 case U69=>intro w' hSw;go_simp;try (with_reducible rfl)
 try simp only [Act.put,jA,jB,jC]
 refine' tk (i:=1) rfl ?U70 ?V70
 case U70=>intro w' hSw;go_simp;try (with_reducible rfl)
 try simp only [Act.put,jA,jB,jC]
 refine' tk (i:=2) rfl ?U71 ?V71
 case U71=>intro w' hSw;unfold sm1S at hSw;(try dsimp only at hSw);go_simp;try (with_reducible rfl)
 try simp only [Act.put,jA,jB,jC]
 refine' tk (i:=3) rfl ?U72 ?V72
 case U72=>intro w' hSw;go_simp;try (with_reducible rfl)
 try simp only [Act.put,jA,jB,jC]
 refine' tk (i:=4) rfl ?U73 ?V73
 case U73=>intro w' hSw;go_simp;try (with_reducible rfl)
 try simp only [Act.put,jA,jB,jC]
 refine' tk (i:=5) rfl ?U74 ?V74
 case U74=>intro w' hSw;unfold sm1S at hSw;(try dsimp only at hSw);go_simp;try (with_reducible rfl)
 try simp only [Act.put,jA,jB,jC]
 refine' tk (i:=6) rfl ?U75 ?V75
 case U75=>intro w' hSw;go_simp;try (with_reducible rfl)
 try simp only [Act.put,jA,jB,jC]
 refine' tk (i:=7) rfl ?U76 ?V76
 case U76=>intro w' hSw;go_simp;try (with_reducible rfl)
 try simp only [Act.put,jA,jB,jC]
 refine' tk (i:=8) rfl ?U77 ?V77
 case U77=>intro w' hSw;unfold sm1S at hSw;(try dsimp only at hSw);go_simp;try (with_reducible rfl)
 try simp only [Act.put,jA,jB,jC]
 refine' tk (i:=9) rfl ?U78 ?V78
 case U78=>intro w' hSw;go_simp;try (with_reducible rfl)
 try simp only [Act.put,jA,jB,jC]
 refine' tk (i:=10) rfl ?U79 ?V79
 case U79=>intro w' hSw;go_simp;try (with_reducible rfl)
 try simp only [Act.put,jA,jB,jC]
 refine' tk (i:=11) rfl ?U80 ?V80
 case U80=>intro w' hSw;go_simp;try (with_reducible rfl)
 try simp only [Act.put,jA,jB,jC]
 refine' tk (i:=12) rfl ?U81 ?V81
 case U81=>intro w' hSw;go_simp;try (with_reducible rfl)
 try simp only [Act.put,jA,jB,jC]
 refine' tk (i:=13) rfl ?U82 ?V82
 case U82=>intro w' hSw;go_simp;try (with_reducible rfl)
 try simp only [Act.put,jA,jB,jC]
 refine rdy [14] ?_
 refine cons_lit rfl (fun K hK=>?ss14x83) AllReadyH.nil
 case ss14x83 =>
  go_simp
  obtain ⟨gL,hgL⟩ : ∃ g,g=w.heap.size:=⟨_,rfl⟩
  rw [<- hgL]
  refine nameW' (fun v hv=>?_)
  have Y:=Lib.hid (show SP w0 v ([.row 22 1 (some ⟨gL,0,none⟩) 8 8 [.slice x0.A x0.n x0.c,.slice x1.A x1.n x1.c,.slice x2.A x2.n x2.c,.slice x3.A x3.n x3.c,.slice x4.A x4.n x4.c,.slice x5.A x5.n x5.c,.slice x6.A x6.n x6.c,.slice x7.A x7.n x7.c]]++RO) by rw [hv];exact SP.pickT (A:=[_]) (B:=[_]) (C:=RO) (SP.rot (X.out.allocRow7 22 1 8 #[.slice x0.A x0.n x0.c,.slice x1.A x1.n x1.c,.slice x2.A x2.n x2.c,.slice x3.A x3.n x3.c,.slice x4.A x4.n x4.c,.slice x5.A x5.n x5.c,.slice x6.A x6.n x6.c,.slice x7.A x7.n x7.c] (by simp [maxLen]) rfl hgL.symm)) [0] rfl (by decide))
  clear hv hgL
  refine hK.out _ _ (by exact HP.out.lk _ Y.out.right) (fun hHeld=>?_)
  clear hK K
  try simp only [Act.put,jA,jB,jC]
  refine' tk (i:=15) rfl ?U84 ?V84
  case U84=>intro w' hSw;go_simp;try (with_reducible rfl)
  try simp only [Act.put,jA,jB,jC]
  rw [<- hF]
  exact sm1s1 H1.out gL _ Y
end
set_option maxRecDepth 100000 in
theorem sm1_0 {u0 u2 u4 u6 u8 u10 u12 u13 u14 u15 u16 u17 u18 u19 u20 u21 u22 u23 u24 u25 u26 u27 u28 u29 u30 u31 u32 u33 u34 u35 u36 u37 u38 u39 u40 u41 u42 u43 u44 u45 u46 u47 u48 u49 u50 u51 u52 u53 u54 u55 u56 u57 u58 u59 u60 u61 u62 u63 u64 u65 u66 u67 u68 u69 u70 u71 u72 u73 u74 u75 u76 u77 u78 u79 u80 u81 u82 u83 u84 u85 u86 u87 u88 u89 u90 u91 u92 u93 u94 u95 u96 u97 u98 u99 u100 u101 u102 u103 u104 u105 u106 u107 u108 u109 u110 u111 u112 u113 u114 u115 u116 u117 u118 u119 u120 u121 u122 u123 u124 u125 u126 u127 u128 u129 u130 u131 u132 u133 u134 u135 u136 u137 u138 u139 u140 u141 u142 u143 u144 u145 u146 u147 u148 u149 u150 u151 u152 u153 u154 u155 u156 u157 u158 u159 u160 u161 u162 u163 u164 u165 u166 u167 u168 u169 u170 u171 u172 u173 u174 u175 u176 u177 u178 u179 u180 u181 u182 u183 u184 u185 u186 u187 u188 u189 u190 u191 u192 u193 u194 u195 u196 u197 u198 u199 u200 u201 u202 u203 u204 u205 u206 : Value} {Q : Exit->Act->World->Prop} {w0 : World} {lg cl : Nat} {x0 x1 x2 x3 x4 x5 x6 x7 : OP} {RO : List IT} (HP : Hid (sm1P w0 lg cl x0 x1 x2 x3 x4 x5 x6 x7 RO)) (HQ : Hid (∀ (y67 y68 y69 y70 y71 y72 y73 y74 y75 y76 y77 y78 y79 y80 y81 : Value) (gL : Nat) (w' : World),SP w0 w' ([.row 22 1 (some ⟨gL,0,none⟩) 8 8 [.slice x0.A x0.n x0.c,.slice x1.A x1.n x1.c,.slice x2.A x2.n x2.c,.slice x3.A x3.n x3.c,.slice x4.A x4.n x4.c,.slice x5.A x5.n x5.c,.slice x6.A x6.n x6.c,.slice x7.A x7.n x7.c]]++RO)->Q .normal ⟨List.toArray (u0::.slice x7.A x7.n x7.c::u2::.slice (some ⟨lg,0,none⟩) 3 cl::u4::.slice x3.A x3.n x3.c::u6::.slice x4.A x4.n x4.c::u8::.slice x5.A x5.n x5.c::u10::.slice x6.A x6.n x6.c::u12::.slice (some ⟨gL,0,none⟩) 8 8::u14::u15::u16::u17::u18::u19::u20::u21::u22::u23::u24::u25::u26::u27::u28::u29::u30::u31::u32::u33::u34::u35::u36::u37::u38::u39::u40::u41::u42::u43::u44::u45::u46::u47::u48::u49::u50::u51::u52::u53::u54::u55::u56::u57::u58::u59::u60::u61::u62::u63::u64::u65::u66::y67::y68::y69::y70::y71::y72::y73::y74::y75::y76::y77::y78::y79::y80::y81::u82::u83::u84::u85::u86::u87::u88::u89::u90::u91::u92::u93::u94::u95::u96::u97::u98::u99::u100::u101::u102::u103::u104::u105::u106::u107::u108::u109::u110::u111::u112::u113::u114::u115::u116::u117::u118::u119::u120::u121::u122::u123::u124::u125::u126::u127::u128::u129::u130::u131::u132::u133::u134::u135::u136::u137::u138::u139::u140::u141::u142::u143::u144::u145::u146::u147::u148::u149::u150::u151::u152::u153::u154::u155::u156::u157::u158::u159::u160::u161::u162::u163::u164::u165::u166::u167::u168::u169::u170::u171::u172::u173::u174::u175::u176::u177::u178::u179::u180::u181::u182::u183::u184::u185::u186::u187::u188::u189::u190::u191::u192::u193::u194::u195::u196::u197::u198::u199::u200::u201::u202::u203::u204::u205::u206::[]),[]⟩ w')) (w : World) (X : Hid (SP w0 w ([]++RO))) :
 wpAnyH Tryz.prog .any (opsAt Tryz.f3 12) (NoPanic Q) (sm1S w0 lg cl x0 x1 x2 x3 x4 x5 x6 x7 RO) 16 #[false,false,false,false,false,false,false,false,false,false,false,false,false,false,false,false] ⟨List.toArray (u0::.slice x7.A x7.n x7.c::u2::.slice (some ⟨lg,0,none⟩) 3 cl::u4::.slice x3.A x3.n x3.c::u6::.slice x4.A x4.n x4.c::u8::.slice x5.A x5.n x5.c::u10::.slice x6.A x6.n x6.c::u12::u13::u14::u15::u16::u17::u18::u19::u20::u21::u22::u23::u24::u25::u26::u27::u28::u29::u30::u31::u32::u33::u34::u35::u36::u37::u38::u39::u40::u41::u42::u43::u44::u45::u46::u47::u48::u49::u50::u51::u52::u53::u54::u55::u56::u57::u58::u59::u60::u61::u62::u63::u64::u65::u66::u67::u68::u69::u70::u71::u72::u73::u74::u75::u76::u77::u78::u79::u80::u81::u82::u83::u84::u85::u86::u87::u88::u89::u90::u91::u92::u93::u94::u95::u96::u97::u98::u99::u100::u101::u102::u103::u104::u105::u106::u107::u108::u109::u110::u111::u112::u113::u114::u115::u116::u117::u118::u119::u120::u121::u122::u123::u124::u125::u126::u127::u128::u129::u130::u131::u132::u133::u134::u135::u136::u137::u138::u139::u140::u141::u142::u143::u144::u145::u146::u147::u148::u149::u150::u151::u152::u153::u154::u155::u156::u157::u158::u159::u160::u161::u162::u163::u164::u165::u166::u167::u168::u169::u170::u171::u172::u173::u174::u175::u176::u177::u178::u179::u180::u181::u182::u183::u184::u185::u186::u187::u188::u189::u190::u191::u192::u193::u194::u195::u196::u197::u198::u199::u200::u201::u202::u203::u204::u205::u206::[]),[]⟩ w :=
 sm1s0 (Fr:=(fun y13 y67 y68 y69 y70 y71 y72 y73 y74 y75 y76 y77 y78 y79 y80 y81=>⟨List.toArray (u0::.slice x7.A x7.n x7.c::u2::.slice (some ⟨lg,0,none⟩) 3 cl::u4::.slice x3.A x3.n x3.c::u6::.slice x4.A x4.n x4.c::u8::.slice x5.A x5.n x5.c::u10::.slice x6.A x6.n x6.c::u12::y13::u14::u15::u16::u17::u18::u19::u20::u21::u22::u23::u24::u25::u26::u27::u28::u29::u30::u31::u32::u33::u34::u35::u36::u37::u38::u39::u40::u41::u42::u43::u44::u45::u46::u47::u48::u49::u50::u51::u52::u53::u54::u55::u56::u57::u58::u59::u60::u61::u62::u63::u64::u65::u66::y67::y68::y69::y70::y71::y72::y73::y74::y75::y76::y77::y78::y79::y80::y81::u82::u83::u84::u85::u86::u87::u88::u89::u90::u91::u92::u93::u94::u95::u96::u97::u98::u99::u100::u101::u102::u103::u104::u105::u106::u107::u108::u109::u110::u111::u112::u113::u114::u115::u116::u117::u118::u119::u120::u121::u122::u123::u124::u125::u126::u127::u128::u129::u130::u131::u132::u133::u134::u135::u136::u137::u138::u139::u140::u141::u142::u143::u144::u145::u146::u147::u148::u149::u150::u151::u152::u153::u154::u155::u156::u157::u158::u159::u160::u161::u162::u163::u164::u165::u166::u167::u168::u169::u170::u171::u172::u173::u174::u175::u176::u177::u178::u179::u180::u181::u182::u183::u184::u185::u186::u187::u188::u189::u190::u191::u192::u193::u194::u195::u196::u197::u198::u199::u200::u201::u202::u203::u204::u205::u206::[]),[]⟩)) ⟨HP,⟨fun i=>([u0,undef,u2,undef,u4,undef,u6,undef,u8,undef,u10,undef,u12,u13,u14,u15,u16,u17,u18,u19,u20,u21,u22,u23,u24,u25,u26,u27,u28,u29,u30,u31,u32,u33,u34,u35,u36,u37,u38,u39,u40,u41,u42,u43,u44,u45,u46,u47,u48,u49,u50,u51,u52,u53,u54,u55,u56,u57,u58,u59,u60,u61,u62,u63,u64,u65,u66,u67,u68,u69,u70,u71,u72,u73,u74,u75,u76,u77,u78,u79,u80,u81,u82,u83,u84,u85,u86,u87,u88,u89,u90,u91,u92,u93,u94,u95,u96,u97,u98,u99,u100,u101,u102,u103,u104,u105,u106,u107,u108,u109,u110,u111,u112,u113,u114,u115,u116,u117,u118,u119,u120,u121,u122,u123,u124,u125,u126,u127,u128,u129,u130,u131,u132,u133,u134,u135,u136,u137,u138,u139,u140,u141,u142,u143,u144,u145,u146,u147,u148,u149,u150,u151,u152,u153,u154,u155,u156,u157,u158,u159,u160,u161,u162,u163,u164,u165,u166,u167,u168,u169,u170,u171,u172,u173,u174,u175,u176,u177,u178,u179,u180,u181,u182,u183,u184,u185,u186,u187,u188,u189,u190,u191,u192,u193,u194,u195,u196,u197,u198,u199,u200,u201,u202,u203,u204,u205,u206] : List Value)[i]?.getD undef,fun _ _ _ _ _ _ _ _ _ _ _ _ _ _ _ _=>rfl⟩,Lib.hid HQ.out⟩ w X
end Go.Proofs.YtljbfnabnkkfeaaGreat
namespace Go.Proofs.YtljbfnabnkkfeaaGreat
open Go.RowKit
def I9 : List Int:=[-1,0,1,63,64,65,16777215,16777216,4611686018427387904]
def H71 : HD:=⟨0,9,false,true,8,1,17,167772161,167772162⟩
theorem H71_wf : H71.WF:=⟨by simp [H71],by simp [H71],by simp [H71],by simp [H71],by simp [H71],by simp [H71],by simp [H71]⟩
set_option maxRecDepth 100000 in
theorem H71_bd : BD 255 (wrB H71 [] (List.replicate 16 0)):=bd_all (by decide)
def H72 : HD:=⟨0,9,false,true,24,1,17,167772161,167772162⟩
theorem H72_wf : H72.WF:=⟨by simp [H72],by simp [H72],by simp [H72],by simp [H72],by simp [H72],by simp [H72],by simp [H72]⟩
set_option maxRecDepth 100000 in
theorem H72_bd : BD 255 (wrB H72 [] (List.replicate 8 0)):=bd_all (by decide)
def H73 : HD:=⟨0,9,false,false,16,1,17,167772161,167772162⟩
theorem H73_wf : H73.WF:=⟨by simp [H73],by simp [H73],by simp [H73],by simp [H73],by simp [H73],by simp [H73],by simp [H73]⟩
set_option maxRecDepth 100000 in
theorem H73_bd : BD 255 (wrB H73 [] []):=bd_all (by decide)
def H74 : HD:=⟨0,8,false,false,16,1,17,167772161,167772162⟩
theorem H74_wf : H74.WF:=⟨by simp [H74],by simp [H74],by simp [H74],by simp [H74],by simp [H74],by simp [H74],by simp [H74]⟩
set_option maxRecDepth 100000 in
theorem H74_bd : BD 255 (wrB H74 [] []):=bd_all (by decide)
set_option maxHeartbeats 8000000 in
set_option maxRecDepth 100000 in
theorem fragSmall_walk (w : World) : Calls Tryz.prog 3 #[] w fun e w'=>e = .returned (.bool true)∧Below w.heap.size w w':=by
 have HEX:=Lib.hid (fun W=>ex7_any W)
 go_enter Tryz.func3,Tryz.ntmps3
 go_wp2_with fail
 refine (HEX.out _).mono ?_
 rintro e w1 ⟨Ae,ne,ce,rfl,ho,hb⟩
 have X1:=Lib.hid (show SP w w1 [.own .u8 5 Ae ne ce EX7] from (SP.start w).pushOwn hb ho)
 have hne : ne=40:=by have:=ho.len;rw [<- this];rfl
 subst hne
 have hle:=ho.le
 obtain ⟨gb,rfl,_,_,_⟩:=ho.form (by omega)
 have hc40 : 40<=ce:=hle.1
 clear ho hb hle
 go_upto_region 3 with fail
 refine small7_1 w gb ce _ hc40 (Lib.hid (fun W hS=>hS.rd 0 rfl)) w1 X1 (Lib.hid ?_)
 intro y0 y2 y24 y25 y26 y27 y28 y29 y30 y31 y32 y33 y34 y35 y36 y37 y38 y39 w2 S2
 have X2:=Lib.hid S2
 clear S2 X1
 go_step
 go_wp2_with fail
 refine (r7split_any (some ⟨gb,0,none⟩) 40 ce EX7 8 X2.out (fun W hS=>hS.rd 0 rfl) ex7_bd hc40 (by omega) (by omega) (by omega)).mono ?_
 rintro e w3 ⟨Al,cl,G,rfl,hG,hS⟩
 rw [ex7_split] at hG ⊢
 obtain ⟨⟨A0,n0,c0⟩,⟨A1,n1,c1⟩,⟨A2,n2,c2⟩,rfl⟩:=three hG
 have hn2 : n2=24:=by have h1 : P72.length=n2:=(hS.own 3 rfl).len;rw [<- h1];rfl
 have hc2:=(hS.own 3 rfl).le.1
 obtain ⟨lg,hlg,_⟩:=row_head (hS.row 0 rfl) (by simp)
 subst hlg
 have X3:=Lib.hid (show SP w w3 [.row 22 1 (some ⟨lg,0,none⟩) 3 cl [.slice A0 n0 c0,.slice A1 n1 c1,.slice A2 n2 c2],.own .u8 5 A0 n0 c0 P70,.own .u8 5 A1 n1 c1 P71,.own .u8 5 A2 n2 c2 P72,.own .u8 5 (some ⟨gb,0,none⟩) 40 ce EX7] from hS)
 clear hS hG X2
 obtain ⟨i0,hi,hz0,hz1,hz2⟩:=info_parts infoU8
 obtain ⟨wm3,hrun,own2,hb2,_⟩:=run_make_cap (P:=Tryz.prog) (k:=.u8) w3 22 i0 Tryz.underlying22 hi hz0 hz1 (by omega) (16 : Int) (16 : Int) 16 16 rfl rfl (Nat.le_refl _) (by omega)
 have XM:=Lib.hid (X3.out.pushOwn hb2 own2)
 clear own2 hb2
 generalize w3.heap.size=gm3 at hrun XM
 go_wp2_with fail
 clear hrun
 refine (write_any H71 none 0 0 [] (some ⟨gm3,0,none⟩) 16 16 (List.replicate 16 0) wm3 H71_wf RD.nil (fun x hx=>by cases hx) (XM.out.rd 5 rfl) (by omega) (by omega)).mono ?_
 rintro e w4 ⟨A3,n3,c3,rfl,ho,hb⟩
 have X4:=Lib.hid (show SP w w4 [.row 22 1 (some ⟨lg,0,none⟩) 3 cl [.slice A0 n0 c0,.slice A1 n1 c1,.slice A2 n2 c2],.own .u8 5 A0 n0 c0 P70,.own .u8 5 A1 n1 c1 P71,.own .u8 5 A2 n2 c2 P72,.own .u8 5 (some ⟨gb,0,none⟩) 40 ce EX7,.own .u8 5 A3 n3 c3 (wrB H71 [] (List.replicate 16 0))] from (XM.out.pushOwn hb ho).pick [0,1,2,3,4,6] (by decide) rfl)
 clear ho hb XM X3
 obtain ⟨wm4,hrun,own2,hb2,_⟩:=run_make_cap (P:=Tryz.prog) (k:=.u8) w4 22 i0 Tryz.underlying22 hi hz0 hz1 (by omega) (8 : Int) (8 : Int) 8 8 rfl rfl (Nat.le_refl _) (by omega)
 have XM:=Lib.hid (X4.out.pushOwn hb2 own2)
 clear own2 hb2
 generalize w4.heap.size=gm4 at hrun XM
 go_wp2_with fail
 clear hrun
 refine (write_any H72 none 0 0 [] (some ⟨gm4,0,none⟩) 8 8 (List.replicate 8 0) wm4 H72_wf RD.nil (fun x hx=>by cases hx) (XM.out.rd 6 rfl) (by omega) (by omega)).mono ?_
 rintro e w5 ⟨A4,n4,c4,rfl,ho,hb⟩
 have X5:=Lib.hid (show SP w w5 [.row 22 1 (some ⟨lg,0,none⟩) 3 cl [.slice A0 n0 c0,.slice A1 n1 c1,.slice A2 n2 c2],.own .u8 5 A0 n0 c0 P70,.own .u8 5 A1 n1 c1 P71,.own .u8 5 A2 n2 c2 P72,.own .u8 5 (some ⟨gb,0,none⟩) 40 ce EX7,.own .u8 5 A3 n3 c3 (wrB H71 [] (List.replicate 16 0)),.own .u8 5 A4 n4 c4 (wrB H72 [] (List.replicate 8 0))] from (XM.out.pushOwn hb ho).pick [0,1,2,3,4,5,7] (by decide) rfl)
 clear ho hb XM X4
 go_wp2_with fail
 refine (write_any H73 none 0 0 [] none 0 0 [] w5 H73_wf RD.nil (fun x hx=>by cases hx) RD.nil (by omega) (by omega)).mono ?_
 rintro e w6 ⟨A5,n5,c5,rfl,ho,hb⟩
 have X6:=Lib.hid (show SP w w6 [.row 22 1 (some ⟨lg,0,none⟩) 3 cl [.slice A0 n0 c0,.slice A1 n1 c1,.slice A2 n2 c2],.own .u8 5 A0 n0 c0 P70,.own .u8 5 A1 n1 c1 P71,.own .u8 5 A2 n2 c2 P72,.own .u8 5 (some ⟨gb,0,none⟩) 40 ce EX7,.own .u8 5 A3 n3 c3 (wrB H71 [] (List.replicate 16 0)),.own .u8 5 A4 n4 c4 (wrB H72 [] (List.replicate 8 0)),.own .u8 5 A5 n5 c5 (wrB H73 [] [])] from (X5.out.pushOwn hb ho).pick [0,1,2,3,4,5,6,7] (by decide) rfl)
 clear ho hb  X5
 go_wp2_with fail
 refine (write_any H74 none 0 0 [] none 0 0 [] w6 H74_wf RD.nil (fun x hx=>by cases hx) RD.nil (by omega) (by omega)).mono ?_
 rintro e w7 ⟨A6,n6,c6,rfl,ho,hb⟩
 have X7:=Lib.hid (show SP w w7 [.row 22 1 (some ⟨lg,0,none⟩) 3 cl [.slice A0 n0 c0,.slice A1 n1 c1,.slice A2 n2 c2],.own .u8 5 A0 n0 c0 P70,.own .u8 5 A1 n1 c1 P71,.own .u8 5 A2 n2 c2 P72,.own .u8 5 (some ⟨gb,0,none⟩) 40 ce EX7,.own .u8 5 A3 n3 c3 (wrB H71 [] (List.replicate 16 0)),.own .u8 5 A4 n4 c4 (wrB H72 [] (List.replicate 8 0)),.own .u8 5 A5 n5 c5 (wrB H73 [] []),.own .u8 5 A6 n6 c6 (wrB H74 [] [])] from (X6.out.pushOwn hb ho).pick [0,1,2,3,4,5,6,7,8] (by decide) rfl)
 clear ho hb  X6
 go_upto_region 12 with fail
 refine wp_region_noPanic ?_
 refine wp_region_held_drew (S:=sm1S w lg cl (OP.mk true 0 A0 n0 c0 P70) (OP.mk true 0 A1 n1 c1 P71) (OP.mk true 0 A2 n2 c2 P72) (OP.mk true 0 A3 n3 c3 (wrB H71 [] (List.replicate 16 0))) (OP.mk true 0 A4 n4 c4 (wrB H72 [] (List.replicate 8 0))) (OP.mk true 0 A5 n5 c5 (wrB H73 [] [])) (OP.mk true 0 A6 n6 c6 (wrB H74 [] [])) (OP.mk true 0 (some ⟨gb,0,none⟩) 40 ce EX7) [.row 22 1 (some ⟨lg,0,none⟩) 3 cl [.slice A0 n0 c0,.slice A1 n1 c1,.slice A2 n2 c2],.own .u8 5 A0 n0 c0 P70,.own .u8 5 A1 n1 c1 P71,.own .u8 5 A2 n2 c2 P72,.own .u8 5 (some ⟨gb,0,none⟩) 40 ce EX7,.own .u8 5 A3 n3 c3 (wrB H71 [] (List.replicate 16 0)),.own .u8 5 A4 n4 c4 (wrB H72 [] (List.replicate 8 0)),.own .u8 5 A5 n5 c5 (wrB H73 [] []),.own .u8 5 A6 n6 c6 (wrB H74 [] [])]) (by kernel_rfl) ⟨row_at (X7.out.drew.row 0 rfl) rfl,row_at (X7.out.drew.row 0 rfl) rfl,row_at (X7.out.drew.row 0 rfl) rfl⟩ (fun hHeld=>?_)
 clear hHeld
 refine sm1_0 (Lib.hid ⟨fun W hW=>⟨row_at (hW.row 0 rfl) rfl,row_at (hW.row 0 rfl) rfl,row_at (hW.row 0 rfl) rfl⟩⟩) (Lib.hid ?_) _ (Lib.hid X7.out.drew)
 intro y67 y68 y69 y70 y71 y72 y73 y74 y75 y76 y77 y78 y79 y80 y81 gL w8 hX8
 have X8:=Lib.hid (show SP w w8 [.row 22 1 (some ⟨gL,0,none⟩) 8 8 [.slice A0 n0 c0,.slice A1 n1 c1,.slice A2 n2 c2,.slice A3 n3 c3,.slice A4 n4 c4,.slice A5 n5 c5,.slice A6 n6 c6,.slice (some ⟨gb,0,none⟩) 40 ce],.row 22 1 (some ⟨lg,0,none⟩) 3 cl [.slice A0 n0 c0,.slice A1 n1 c1,.slice A2 n2 c2],.own .u8 5 A0 n0 c0 P70,.own .u8 5 A1 n1 c1 P71,.own .u8 5 A2 n2 c2 P72,.own .u8 5 (some ⟨gb,0,none⟩) 40 ce EX7,.own .u8 5 A3 n3 c3 (wrB H71 [] (List.replicate 16 0)),.own .u8 5 A4 n4 c4 (wrB H72 [] (List.replicate 8 0)),.own .u8 5 A5 n5 c5 (wrB H73 [] []),.own .u8 5 A6 n6 c6 (wrB H74 [] [])] from hX8)
 clear hX8 X7
 go_upto_region 14 with fail
 refine small7_2 w gL [(OP.mk true 0 A0 n0 c0 P70),(OP.mk true 0 A1 n1 c1 P71),(OP.mk true 0 A2 n2 c2 P72),(OP.mk true 0 A3 n3 c3 (wrB H71 [] (List.replicate 16 0))),(OP.mk true 0 A4 n4 c4 (wrB H72 [] (List.replicate 8 0))),(OP.mk true 0 A5 n5 c5 (wrB H73 [] [])),(OP.mk true 0 A6 n6 c6 (wrB H74 [] [])),(OP.mk true 0 (some ⟨gb,0,none⟩) 40 ce EX7)] _ (Lib.hid ?hl) w8 X8 (Lib.hid ?_)
 case hl =>
  intro W hW
  refine lk_of_row (hW.row 0 rfl) rfl (by decide) (fun x hx=>?_)
  simp only [List.mem_cons,List.not_mem_nil,or_false] at hx
  rcases hx with rfl | rfl | rfl | rfl | rfl | rfl | rfl | rfl
  ·exact OPOK.own (hW.own 2 rfl) p70_bd
  ·exact OPOK.own (hW.own 3 rfl) p71_bd
  ·exact OPOK.own (hW.own 4 rfl) p72_bd
  ·exact OPOK.own (hW.own 6 rfl) H71_bd
  ·exact OPOK.own (hW.own 7 rfl) H72_bd
  ·exact OPOK.own (hW.own 8 rfl) H73_bd
  ·exact OPOK.own (hW.own 9 rfl) H74_bd
  ·exact OPOK.own (hW.own 5 rfl) ex7_bd
 intro y0 y14 y15 y82 y83 y84 y85 y86 y87 y88 y89 y90 y91 y92 y93 y94 y95 y96 y97 y98 y99 y100 y101 y102 y103 y104 y105 y106 y107 y108 y109 y110 y111 y112 y113 y114 y115 y116 y117 y118 y119 y120 y121 y122 y123 y124 w9 hX9
 have X9:=Lib.hid hX9
 clear hX9 X8
 go_step
 obtain ⟨gX,hgX⟩ : ∃ b,w9.heap.size=b:=⟨_,rfl⟩
 have XB:=Lib.hid (X9.out.allocI' .i64 3 I9 (by decide) hgX)
 go_upto_region 20 with fail
 try rw [hgX]
 replace XB:=XB.out
 rw [show ((I9).map (Value.int .i64)).toArray = #[.int .i64 (-1),.int .i64 0,.int .i64 1,.int .i64 63,.int .i64 64,.int .i64 65,.int .i64 16777215,.int .i64 16777216,.int .i64 4611686018427387904] from rfl] at XB
 generalize hwX : w9.alloc (.cells #[.int .i64 (-1),.int .i64 0,.int .i64 1,.int .i64 63,.int .i64 64,.int .i64 65,.int .i64 16777215,.int .i64 16777216,.int .i64 4611686018427387904] 3)=wX at XB ⊢
 clear hwX hgX X9
 have X10:=Lib.hid (show SP w wX [.row 22 1 (some ⟨gL,0,none⟩) 8 8 [.slice A0 n0 c0,.slice A1 n1 c1,.slice A2 n2 c2,.slice A3 n3 c3,.slice A4 n4 c4,.slice A5 n5 c5,.slice A6 n6 c6,.slice (some ⟨gb,0,none⟩) 40 ce],.row 22 1 (some ⟨lg,0,none⟩) 3 cl [.slice A0 n0 c0,.slice A1 n1 c1,.slice A2 n2 c2],.own .u8 5 A0 n0 c0 P70,.own .u8 5 A1 n1 c1 P71,.own .u8 5 A2 n2 c2 P72,.own .u8 5 (some ⟨gb,0,none⟩) 40 ce EX7,.own .u8 5 A3 n3 c3 (wrB H71 [] (List.replicate 16 0)),.own .u8 5 A4 n4 c4 (wrB H72 [] (List.replicate 8 0)),.own .u8 5 A5 n5 c5 (wrB H73 [] []),.own .u8 5 A6 n6 c6 (wrB H74 [] []),.own .i64 3 (some ⟨gX,0,none⟩) 9 9 I9] from XB)
 clear XB
 refine small7_3 w lg cl gX (OP.mk true 0 A0 n0 c0 P70) (OP.mk true 0 A1 n1 c1 P71) (OP.mk true 0 A2 n2 c2 P72) _ (Lib.hid (fun W hW=>⟨⟨row_at (hW.row 1 rfl) rfl,row_at (hW.row 1 rfl) rfl,row_at (hW.row 1 rfl) rfl⟩,OPOK.own (hW.own 2 rfl) p70_bd,OPOK.own (hW.own 3 rfl) p71_bd,OPOK.own (hW.own 4 rfl) p72_bd⟩)) (by show 23<=n2;omega) hc2 (Lib.hid (fun W hW i hi9=>⟨_,(hW.own 10 rfl).cell hi9⟩)) wX X10 (Lib.hid ?_)
 intro y0 y17 y127 y128 y129 y130 y131 y132 y133 y134 y135 y136 y137 y138 y139 y140 y141 y142 y143 y144 y145 y146 y147 y148 y149 y150 y151 y152 y153 y154 y155 y156 y157 y158 y159 y160 y161 y162 y163 y164 y165 y166 y167 y168 w11 hX11
 have X11:=Lib.hid hX11
 clear hX11 X10
 go_step
 obtain ⟨TB,hTB⟩ : ∃ b,w11.heap.size=b:=⟨_,rfl⟩
 have XC:=X11.out.alloc' 44 #[.int .i64 0,.int .i64 0,.int .i64 0,.map none,.slice none 0 0] hTB
 have hP : (w11.alloc (.cells #[.int .i64 0,.int .i64 0,.int .i64 0,.map none,.slice none 0 0] 44)).heap.size=TB + 1:=by rw [<- hTB];simp
 have XD:=Lib.hid (XC.alloc' 40 #[.pointer none,.pointer (some ⟨TB,0,none⟩)] hP)
 clear XC hP
 go_upto_region 27 with fail
 try rw [hTB]
 generalize hwD : (w11.alloc (.cells #[.int .i64 0,.int .i64 0,.int .i64 0,.map none,.slice none 0 0] 44)).alloc (.cells #[.pointer none,.pointer (some ⟨TB,0,none⟩)] 40)=wD at XD ⊢
 clear hwD hTB X11
 refine small7_4 w (TB + 1) TB _ (Lib.hid (fun W hW=>⟨hW.cell 12 rfl 0 rfl,hW.cell 12 rfl 1 rfl,hW.cell 11 rfl 0 rfl⟩)) wD XD (Lib.hid ?_)
 intro y0 y20 y21 y22 y173 y174 y175 y176 y177 y178 y179 y180 y181 y182 y183 y184 y185 y186 y187 y188 y189 y190 y191 y192 y193 y194 y195 y196 y197 y198 y199 y200 y201 y202 y203 y204 y205 w12 hX12
 have X12:=Lib.hid hX12
 clear hX12 XD
 go_step
 go_wp2_with fail
 refine (awake7_any w12).mono ?_
 rintro e w13 ⟨rfl,hb⟩
 have XE:=Lib.hid (X12.out.next hb).bel
 clear hb X12
 go_wp2_with fail
 go_ret
 exact ⟨rfl,XE.out⟩
end Go.Proofs.YtljbfnabnkkfeaaGreat
