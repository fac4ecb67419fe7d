import Derived.Test.YtljbfnabnkkfeaaGreatSL17
set_option linter.unusedVariables false
set_option linter.unusedSimpArgs false
/- Joined by program: FgYA. -/
namespace Go.Proofs.YtljbfnabnkkfeaaGreat
open Go.RowKit
attribute [local go_sem ↓] Go.wp_at_zero Go.wp_at_succ
structure r7wP (w0 : World) (TB RB : Nat) (limit life now : Int) (A : Option Addr) (n c : Nat) (bA : Option Addr) (bn bc tt : Nat) (dz : List Int) (RO : List IT) : Prop where
 rd : ∀ W,SP w0 W RO->RD .u8 W W.heap.size bA tt dz
 ht : tt<=bn
 hb : bn<=bc
 h6 : tt<=65535
def r7wS (w0 : World) (TB RB : Nat) (limit life now : Int) (A : Option Addr) (n c : Nat) (bA : Option Addr) (bn bc tt : Nat) (dz : List Int) (RO : List IT) : World->Prop:=fun W=>BLOCK W TB 70 #[.int .i64 limit,.int .i64 life,.int .i64 now,.slice A n c]
set_option maxRecDepth 100000 in
def r7wF (w0 : World) (TB RB : Nat) (limit life now : Int) (A : Option Addr) (n c : Nat) (bA : Option Addr) (bn bc tt : Nat) (dz : List Int) (RO : List IT) (Fr : Value->Value->Value->Value->Value->Value->Value->Value->Act) : Prop:=∃ u : Nat->Value,∀ y7 y8 y56 y57 y58 y59 y60 y61,Fr y7 y8 y56 y57 y58 y59 y60 y61=⟨List.toArray (u 0::u 1::.slice bA bn bc::.pointer (some ⟨TB,0,none⟩)::u 4::u 5::.pointer (some ⟨RB,0,none⟩)::y7::y8::u 9::u 10::.int .i64 (tt : Int)::u 12::u 13::u 14::u 15::u 16::u 17::u 18::u 19::u 20::u 21::u 22::u 23::u 24::u 25::u 26::u 27::u 28::u 29::u 30::u 31::u 32::u 33::u 34::u 35::u 36::u 37::u 38::u 39::u 40::u 41::u 42::u 43::u 44::u 45::u 46::u 47::u 48::u 49::u 50::u 51::u 52::u 53::u 54::u 55::y56::y57::y58::y59::y60::y61::u 62::u 63::u 64::u 65::u 66::u 67::u 68::u 69::u 70::u 71::u 72::u 73::u 74::u 75::u 76::u 77::u 78::u 79::u 80::u 81::u 82::u 83::u 84::u 85::u 86::u 87::u 88::u 89::u 90::u 91::u 92::u 93::u 94::u 95::u 96::u 97::u 98::u 99::u 100::u 101::u 102::u 103::u 104::u 105::u 106::u 107::u 108::u 109::u 110::u 111::u 112::u 113::u 114::u 115::u 116::u 117::u 118::u 119::u 120::u 121::u 122::u 123::u 124::u 125::u 126::u 127::u 128::u 129::u 130::u 131::u 132::u 133::u 134::u 135::u 136::u 137::u 138::u 139::u 140::u 141::u 142::u 143::u 144::u 145::u 146::u 147::u 148::u 149::u 150::u 151::u 152::u 153::u 154::u 155::u 156::u 157::u 158::u 159::u 160::u 161::u 162::u 163::u 164::u 165::u 166::u 167::u 168::u 169::u 170::u 171::u 172::u 173::u 174::u 175::u 176::u 177::u 178::u 179::u 180::u 181::u 182::u 183::u 184::u 185::u 186::u 187::u 188::u 189::u 190::u 191::u 192::u 193::u 194::u 195::u 196::u 197::u 198::u 199::u 200::u 201::u 202::u 203::u 204::u 205::u 206::u 207::u 208::u 209::u 210::u 211::u 212::u 213::u 214::u 215::u 216::u 217::u 218::u 219::u 220::u 221::u 222::u 223::u 224::u 225::u 226::u 227::u 228::u 229::u 230::u 231::u 232::u 233::u 234::u 235::u 236::u 237::u 238::u 239::u 240::u 241::u 242::u 243::u 244::u 245::u 246::u 247::u 248::u 249::u 250::u 251::u 252::u 253::u 254::u 255::u 256::u 257::u 258::u 259::u 260::u 261::u 262::u 263::u 264::u 265::u 266::u 267::u 268::u 269::u 270::u 271::u 272::u 273::u 274::u 275::u 276::u 277::[]),[]⟩
def r7wR (w0 : World) (TB RB : Nat) (limit life now : Int) (A : Option Addr) (n c : Nat) (bA : Option Addr) (bn bc tt : Nat) (dz : List Int) (RO : List IT) (Q : Exit->Act->World->Prop) (Fr : Value->Value->Value->Value->Value->Value->Value->Value->Act) : Prop:=∀ (y56 y57 y58 y59 y60 y61 : Value) (g57 : Nat) (A61 : Option Addr) (c61 : Nat) (w' : World),SP w0 w' ([.blk TB 70 #[.int .i64 limit,.int .i64 life,.int .i64 now,.slice A n c],.blk RB 70 #[.int .i64 limit,.int .i64 life,.int .i64 now,.slice A n c],.own .u8 5 A61 tt c61 dz]++RO)->Q .normal (Fr (.slice A61 tt c61) (.int .i64 0) y56 y57 y58 y59 y60 y61) w'
def r7wH (w0 : World) (TB RB : Nat) (limit life now : Int) (A : Option Addr) (n c : Nat) (bA : Option Addr) (bn bc tt : Nat) (dz : List Int) (RO : List IT) (Q : Exit->Act->World->Prop) (Fr : Value->Value->Value->Value->Value->Value->Value->Value->Act) : Prop:=Hid (r7wP w0 TB RB limit life now A n c bA bn bc tt dz RO)∧r7wF w0 TB RB limit life now A n c bA bn bc tt dz RO Fr∧Hid (r7wR w0 TB RB limit life now A n c bA bn bc tt dz RO Q Fr)
section
variable {Q : Exit->Act->World->Prop} {y7 y8 y56 y57 y58 y59 y60 y61 : Value} {w0 : World} {TB RB : Nat} {limit life now : Int} {A : Option Addr} {n c : Nat} {bA : Option Addr} {bn bc tt : Nat} {dz : List Int} {RO : List IT} {Fr : Value->Value->Value->Value->Value->Value->Value->Value->Act}
set_option maxHeartbeats 1000000 in
set_option maxRecDepth 100000 in
theorem r7ws3 (H0 : r7wH w0 TB RB limit life now A n c bA bn bc tt dz RO Q Fr) (g57 : Nat) (A61 : Option Addr) (c61 : Nat) (w : World) (X : Hid (SP w0 w ([.blk TB 70 #[.int .i64 limit,.int .i64 life,.int .i64 now,.slice A n c],.blk RB 70 #[.int .i64 limit,.int .i64 life,.int .i64 now,.slice A n c],.own .u8 5 A61 tt c61 dz]++RO))) :
 wpAnyH Tryz.prog .any (opsAt Tryz.f27 8) (NoPanic Q) (r7wS w0 TB RB limit life now A n c bA bn bc tt dz RO) 0 #[true,true,true,true,true,true,true,true,true] (Fr (.slice A61 tt c61) (.int .i64 0) y56 y57 y58 y59 y60 y61) w:=by
 have H1:=Lib.hid H0
 obtain ⟨HP,⟨u,hF⟩,HQ⟩:=H0
 rw [hF]
 obtain ⟨i2,hi2,hv0,hv1,hv2⟩:=info_parts infoU8
 have ht:=HP.out.ht
 have hb:=HP.out.hb
 have h6:=HP.out.h6
 have g1 : (0 : Int)<=(tt : Int):=by omega
 have g2 : (tt : Int)<=(bc : Int):=by omega
 have hHeld : (r7wS w0 TB RB limit life now A n c bA bn bc tt dz RO) w:=by exact X.out.blk 0 rfl
 refine wpAnyH_done (by kernel_rfl) ?_ _
 refine NoPanic.normal ?_
 rw [<- hF]
 exact HQ.out _ _ _ _ _ _ g57 A61 c61 _ X.out
set_option maxHeartbeats 1000000 in
set_option maxRecDepth 100000 in
theorem r7ws2 (H0 : r7wH w0 TB RB limit life now A n c bA bn bc tt dz RO Q Fr) (g57 : Nat) (A61 : Option Addr) (c61 : Nat) (w : World) (X : Hid (SP w0 w ([.blk TB 70 #[.int .i64 limit,.int .i64 life,.int .i64 now,.slice A n c],.blk RB 70 #[.int .i64 0,.int .i64 0,.int .i64 0,.slice none 0 0],.own .u8 5 A61 tt c61 dz]++RO))) :
 wpAnyH Tryz.prog .any (opsAt Tryz.f27 8) (NoPanic Q) (r7wS w0 TB RB limit life now A n c bA bn bc tt dz RO) 3 #[true,true,true,true,true,true,false,false,false] (Fr y7 y8 (.agg #[.int .i64 limit,.int .i64 life,.int .i64 now,.slice A n c]) y57 y58 y59 y60 (.slice A61 tt c61)) w:=by
 have H1:=Lib.hid H0
 obtain ⟨HP,⟨u,hF⟩,HQ⟩:=H0
 rw [hF]
 obtain ⟨i2,hi2,hv0,hv1,hv2⟩:=info_parts infoU8
 have ht:=HP.out.ht
 have hb:=HP.out.hb
 have h6:=HP.out.h6
 have g1 : (0 : Int)<=(tt : Int):=by omega
 have g2 : (tt : Int)<=(bc : Int):=by omega
 have hHeld : (r7wS w0 TB RB limit life now A n c bA bn bc tt dz RO) w:=by exact X.out.blk 0 rfl
 refine rdy [6] ?_
 refine cons_lit rfl (fun K hK=>?ss6x7) AllReadyH.nil
 case ss6x7 =>
  refine step_store_row (by rfl) 70 _ _ (by rfl) RB #[.int .i64 limit,.int .i64 life,.int .i64 now,.slice A n c] (by rfl) (by rfl) 70 #[.int .i64 0,.int .i64 0,.int .i64 0,.slice none 0 0] (X.out.blk 1 rfl) (by kernel_rfl) rfl (by simp [Value.oneCell']) ?_
  refine nameW' (fun v hv=>?_)
  have Y:=Lib.hid (show SP w0 v ([.blk TB 70 #[.int .i64 limit,.int .i64 life,.int .i64 now,.slice A n c],.blk RB 70 #[.int .i64 limit,.int .i64 life,.int .i64 now,.slice A n c],.own .u8 5 A61 tt c61 dz]++RO) by rw [hv];exact SP.pickT (A:=[_,_,_]) (B:=[_,_,_]) (C:=RO) (X.out.setR 1 rfl #[.int .i64 limit,.int .i64 life,.int .i64 now,.slice A n c]) [0,1,2] rfl (by decide))
  clear hv
  refine hK.out _ _ (by exact Y.out.blk 0 rfl) (fun hHeld=>?_)
  clear hK K
  try simp only [Act.put,jA,jB,jC]
  refine' tk (i:=7) rfl ?U8 ?V8
  case U8=>intro w' hSw;go_simp;try (with_reducible rfl)
  try simp only [Act.put,jA,jB,jC]
  refine' tk (i:=8) rfl ?U9 ?V9
  case U9=>intro w' hSw;go_simp;try (with_reducible rfl)
  try simp only [Act.put,jA,jB,jC]
  rw [<- hF]
  exact r7ws3 H1.out g57 A61 c61 _ Y
set_option maxHeartbeats 1000000 in
set_option maxRecDepth 100000 in
theorem r7ws1 (H0 : r7wH w0 TB RB limit life now A n c bA bn bc tt dz RO Q Fr) (g57 : Nat) (w : World) (X : Hid (SP w0 w ([.blk TB 70 #[.int .i64 limit,.int .i64 life,.int .i64 now,.slice A n c],.blk RB 70 #[.int .i64 0,.int .i64 0,.int .i64 0,.slice none 0 0],.own .u8 5 (some ⟨g57,0,none⟩) 0 0 []]++RO))) :
 wpAnyH Tryz.prog .any (opsAt Tryz.f27 8) (NoPanic Q) (r7wS w0 TB RB limit life now A n c bA bn bc tt dz RO) 4 #[true,true,true,true,true,false,false,false,false] (Fr y7 y8 (.agg #[.int .i64 limit,.int .i64 life,.int .i64 now,.slice A n c]) (.slice (some ⟨g57,0,none⟩) 0 0) y58 y59 (.slice bA tt bc) y61) w:=by
 have H1:=Lib.hid H0
 obtain ⟨HP,⟨u,hF⟩,HQ⟩:=H0
 rw [hF]
 obtain ⟨i2,hi2,hv0,hv1,hv2⟩:=info_parts infoU8
 have ht:=HP.out.ht
 have hb:=HP.out.hb
 have h6:=HP.out.h6
 have g1 : (0 : Int)<=(tt : Int):=by omega
 have g2 : (tt : Int)<=(bc : Int):=by omega
 have hHeld : (r7wS w0 TB RB limit life now A n c bA bn bc tt dz RO) w:=by exact X.out.blk 0 rfl
 refine rdy [5] ?_
 refine cons_lit rfl (fun K hK=>?ss5x6) AllReadyH.nil
 case ss5x6 =>
  refine step_append_rd _ (by rfl) _ _ 22 (by rfl) .u8 w0.heap.size 5 i2 1 Tryz.underlying22 hi2 hv0 hv1 hv2 (some ⟨g57,0,none⟩) (0) 0 ([]) (by rfl) (by exact X.out.own 2 rfl) _ bA (tt) (bc) (dz) (by rfl) (HP.out.rd _ X.out.right) (by simp only [maxLen];omega) (by omega) X.out.size ?_
  intro A61 c61 v happ
  rw [Nat.zero_add,List.nil_append] at happ
  rw [Nat.zero_add]
  have Y:=Lib.hid (show SP w0 v ([.blk TB 70 #[.int .i64 limit,.int .i64 life,.int .i64 now,.slice A n c],.blk RB 70 #[.int .i64 0,.int .i64 0,.int .i64 0,.slice none 0 0],.own .u8 5 A61 tt c61 dz]++RO) from SP.pickT (A:=[_,_,_]) (B:=[_,_,_]) (C:=RO) (X.out.app 2 rfl happ) [0,1,2] rfl (by decide))
  clear happ
  refine hK.out _ _ (by exact Y.out.blk 0 rfl) (fun hHeld=>?_)
  clear hK K
  try simp only [Act.put,jA,jB,jC]
  rw [<- hF]
  exact r7ws2 H1.out g57 A61 c61 _ Y
set_option maxHeartbeats 1000000 in
set_option maxRecDepth 100000 in
theorem r7ws0 (H0 : r7wH w0 TB RB limit life now A n c bA bn bc tt dz RO Q Fr) (w : World) (X : Hid (SP w0 w ([.blk TB 70 #[.int .i64 limit,.int .i64 life,.int .i64 now,.slice A n c],.blk RB 70 #[.int .i64 0,.int .i64 0,.int .i64 0,.slice none 0 0]]++RO))) :
 wpAnyH Tryz.prog .any (opsAt Tryz.f27 8) (NoPanic Q) (r7wS w0 TB RB limit life now A n c bA bn bc tt dz RO) 9 #[false,false,false,false,false,false,false,false,false] (Fr y7 y8 y56 y57 y58 y59 y60 y61) w:=by
 have H1:=Lib.hid H0
 obtain ⟨HP,⟨u,hF⟩,HQ⟩:=H0
 rw [hF]
 obtain ⟨i2,hi2,hv0,hv1,hv2⟩:=info_parts infoU8
 have ht:=HP.out.ht
 have hb:=HP.out.hb
 have h6:=HP.out.h6
 have g1 : (0 : Int)<=(tt : Int):=by omega
 have g2 : (tt : Int)<=(bc : Int):=by omega
 have hHeld : (r7wS w0 TB RB limit life now A n c bA bn bc tt dz RO) w:=by exact X.out.blk 0 rfl
 refine' take_lit (i:=0) (v:=.agg (#[.int .i64 limit,.int .i64 life,.int .i64 now,.slice A n c])) rfl (by kernel_rfl) (by kernel_rfl) (by kernel_rfl) (fun _ _ _ h=>h) (Or.inl ⟨by rfl,?yy1⟩) (by assumption) ?rr1
 case yy1=>intro w' hSw;exact exec_load_row 70 _ rfl TB rfl 70 (#[.int .i64 limit,.int .i64 life,.int .i64 now,.slice A n c]) (0,0) _ (hSw) Tryz.underlying70 rfl (by kernel_rfl)
 try simp only [Act.put,jA,jB,jC]
 refine' tk (i:=2) rfl ?U2 ?V2
 case U2=>intro w' hSw;go_simp;try (with_reducible rfl)
 try simp only [Act.put,jA,jB,jC]
 refine' tk (i:=3) rfl ?U3 ?V3
 case U3=>intro w' hSw;go_simp;try (with_reducible rfl)
 try simp only [Act.put,jA,jB,jC]
 refine' tk (i:=4) rfl ?U4 ?V4
 case U4=>intro w' hSw;go_simp;try (with_reducible rfl)
 try simp only [Act.put,jA,jB,jC]
 refine rdy [1] ?_
 refine cons_lit rfl (fun K hK=>?ss1x5) AllReadyH.nil
 case ss1x5 =>
  go_simp
  obtain ⟨g57,hg57⟩ : ∃ g,g=w.heap.size:=⟨_,rfl⟩
  rw [<- hg57]
  refine nameW' (fun v hv=>?_)
  have Y:=Lib.hid (show SP w0 v ([.blk TB 70 #[.int .i64 limit,.int .i64 life,.int .i64 now,.slice A n c],.blk RB 70 #[.int .i64 0,.int .i64 0,.int .i64 0,.slice none 0 0],.own .u8 5 (some ⟨g57,0,none⟩) 0 0 []]++RO) by rw [hv];exact SP.pickT (A:=[_,_,_]) (B:=[_,_,_]) (C:=RO) (SP.rot (X.out.allocI' .u8 5 [] (Nat.zero_le _) hg57.symm)) [1,2,0] rfl (by decide))
  clear hv hg57
  refine hK.out _ _ (by exact Y.out.blk 0 rfl) (fun hHeld=>?_)
  clear hK K
  try simp only [Act.put,jA,jB,jC]
  rw [<- hF]
  exact r7ws1 H1.out g57 _ Y
end
set_option maxRecDepth 100000 in
theorem r7w_0 {u0 u1 u4 u5 u7 u8 u9 u10 u12 u13 u14 u15 u16 u17 u18 u19 u20 u21 u22 u23 u24 u25 u26 u27 u28 u29 u30 u31 u32 u33 u34 u35 u36 u37 u38 u39 u40 u41 u42 u43 u44 u45 u46 u47 u48 u49 u50 u51 u52 u53 u54 u55 u56 u57 u58 u59 u60 u61 u62 u63 u64 u65 u66 u67 u68 u69 u70 u71 u72 u73 u74 u75 u76 u77 u78 u79 u80 u81 u82 u83 u84 u85 u86 u87 u88 u89 u90 u91 u92 u93 u94 u95 u96 u97 u98 u99 u100 u101 u102 u103 u104 u105 u106 u107 u108 u109 u110 u111 u112 u113 u114 u115 u116 u117 u118 u119 u120 u121 u122 u123 u124 u125 u126 u127 u128 u129 u130 u131 u132 u133 u134 u135 u136 u137 u138 u139 u140 u141 u142 u143 u144 u145 u146 u147 u148 u149 u150 u151 u152 u153 u154 u155 u156 u157 u158 u159 u160 u161 u162 u163 u164 u165 u166 u167 u168 u169 u170 u171 u172 u173 u174 u175 u176 u177 u178 u179 u180 u181 u182 u183 u184 u185 u186 u187 u188 u189 u190 u191 u192 u193 u194 u195 u196 u197 u198 u199 u200 u201 u202 u203 u204 u205 u206 u207 u208 u209 u210 u211 u212 u213 u214 u215 u216 u217 u218 u219 u220 u221 u222 u223 u224 u225 u226 u227 u228 u229 u230 u231 u232 u233 u234 u235 u236 u237 u238 u239 u240 u241 u242 u243 u244 u245 u246 u247 u248 u249 u250 u251 u252 u253 u254 u255 u256 u257 u258 u259 u260 u261 u262 u263 u264 u265 u266 u267 u268 u269 u270 u271 u272 u273 u274 u275 u276 u277 : Value} {Q : Exit->Act->World->Prop} {w0 : World} {TB RB : Nat} {limit life now : Int} {A : Option Addr} {n c : Nat} {bA : Option Addr} {bn bc tt : Nat} {dz : List Int} {RO : List IT} (HP : Hid (r7wP w0 TB RB limit life now A n c bA bn bc tt dz RO)) (HQ : Hid (∀ (y56 y57 y58 y59 y60 y61 : Value) (g57 : Nat) (A61 : Option Addr) (c61 : Nat) (w' : World),SP w0 w' ([.blk TB 70 #[.int .i64 limit,.int .i64 life,.int .i64 now,.slice A n c],.blk RB 70 #[.int .i64 limit,.int .i64 life,.int .i64 now,.slice A n c],.own .u8 5 A61 tt c61 dz]++RO)->Q .normal ⟨List.toArray (u0::u1::.slice bA bn bc::.pointer (some ⟨TB,0,none⟩)::u4::u5::.pointer (some ⟨RB,0,none⟩)::.slice A61 tt c61::.int .i64 0::u9::u10::.int .i64 (tt : Int)::u12::u13::u14::u15::u16::u17::u18::u19::u20::u21::u22::u23::u24::u25::u26::u27::u28::u29::u30::u31::u32::u33::u34::u35::u36::u37::u38::u39::u40::u41::u42::u43::u44::u45::u46::u47::u48::u49::u50::u51::u52::u53::u54::u55::y56::y57::y58::y59::y60::y61::u62::u63::u64::u65::u66::u67::u68::u69::u70::u71::u72::u73::u74::u75::u76::u77::u78::u79::u80::u81::u82::u83::u84::u85::u86::u87::u88::u89::u90::u91::u92::u93::u94::u95::u96::u97::u98::u99::u100::u101::u102::u103::u104::u105::u106::u107::u108::u109::u110::u111::u112::u113::u114::u115::u116::u117::u118::u119::u120::u121::u122::u123::u124::u125::u126::u127::u128::u129::u130::u131::u132::u133::u134::u135::u136::u137::u138::u139::u140::u141::u142::u143::u144::u145::u146::u147::u148::u149::u150::u151::u152::u153::u154::u155::u156::u157::u158::u159::u160::u161::u162::u163::u164::u165::u166::u167::u168::u169::u170::u171::u172::u173::u174::u175::u176::u177::u178::u179::u180::u181::u182::u183::u184::u185::u186::u187::u188::u189::u190::u191::u192::u193::u194::u195::u196::u197::u198::u199::u200::u201::u202::u203::u204::u205::u206::u207::u208::u209::u210::u211::u212::u213::u214::u215::u216::u217::u218::u219::u220::u221::u222::u223::u224::u225::u226::u227::u228::u229::u230::u231::u232::u233::u234::u235::u236::u237::u238::u239::u240::u241::u242::u243::u244::u245::u246::u247::u248::u249::u250::u251::u252::u253::u254::u255::u256::u257::u258::u259::u260::u261::u262::u263::u264::u265::u266::u267::u268::u269::u270::u271::u272::u273::u274::u275::u276::u277::[]),[]⟩ w')) (w : World) (X : Hid (SP w0 w ([.blk TB 70 #[.int .i64 limit,.int .i64 life,.int .i64 now,.slice A n c],.blk RB 70 #[.int .i64 0,.int .i64 0,.int .i64 0,.slice none 0 0]]++RO))) :
 wpAnyH Tryz.prog .any (opsAt Tryz.f27 8) (NoPanic Q) (r7wS w0 TB RB limit life now A n c bA bn bc tt dz RO) 9 #[false,false,false,false,false,false,false,false,false] ⟨List.toArray (u0::u1::.slice bA bn bc::.pointer (some ⟨TB,0,none⟩)::u4::u5::.pointer (some ⟨RB,0,none⟩)::u7::u8::u9::u10::.int .i64 (tt : Int)::u12::u13::u14::u15::u16::u17::u18::u19::u20::u21::u22::u23::u24::u25::u26::u27::u28::u29::u30::u31::u32::u33::u34::u35::u36::u37::u38::u39::u40::u41::u42::u43::u44::u45::u46::u47::u48::u49::u50::u51::u52::u53::u54::u55::u56::u57::u58::u59::u60::u61::u62::u63::u64::u65::u66::u67::u68::u69::u70::u71::u72::u73::u74::u75::u76::u77::u78::u79::u80::u81::u82::u83::u84::u85::u86::u87::u88::u89::u90::u91::u92::u93::u94::u95::u96::u97::u98::u99::u100::u101::u102::u103::u104::u105::u106::u107::u108::u109::u110::u111::u112::u113::u114::u115::u116::u117::u118::u119::u120::u121::u122::u123::u124::u125::u126::u127::u128::u129::u130::u131::u132::u133::u134::u135::u136::u137::u138::u139::u140::u141::u142::u143::u144::u145::u146::u147::u148::u149::u150::u151::u152::u153::u154::u155::u156::u157::u158::u159::u160::u161::u162::u163::u164::u165::u166::u167::u168::u169::u170::u171::u172::u173::u174::u175::u176::u177::u178::u179::u180::u181::u182::u183::u184::u185::u186::u187::u188::u189::u190::u191::u192::u193::u194::u195::u196::u197::u198::u199::u200::u201::u202::u203::u204::u205::u206::u207::u208::u209::u210::u211::u212::u213::u214::u215::u216::u217::u218::u219::u220::u221::u222::u223::u224::u225::u226::u227::u228::u229::u230::u231::u232::u233::u234::u235::u236::u237::u238::u239::u240::u241::u242::u243::u244::u245::u246::u247::u248::u249::u250::u251::u252::u253::u254::u255::u256::u257::u258::u259::u260::u261::u262::u263::u264::u265::u266::u267::u268::u269::u270::u271::u272::u273::u274::u275::u276::u277::[]),[]⟩ w :=
 r7ws0 (Fr:=(fun y7 y8 y56 y57 y58 y59 y60 y61=>⟨List.toArray (u0::u1::.slice bA bn bc::.pointer (some ⟨TB,0,none⟩)::u4::u5::.pointer (some ⟨RB,0,none⟩)::y7::y8::u9::u10::.int .i64 (tt : Int)::u12::u13::u14::u15::u16::u17::u18::u19::u20::u21::u22::u23::u24::u25::u26::u27::u28::u29::u30::u31::u32::u33::u34::u35::u36::u37::u38::u39::u40::u41::u42::u43::u44::u45::u46::u47::u48::u49::u50::u51::u52::u53::u54::u55::y56::y57::y58::y59::y60::y61::u62::u63::u64::u65::u66::u67::u68::u69::u70::u71::u72::u73::u74::u75::u76::u77::u78::u79::u80::u81::u82::u83::u84::u85::u86::u87::u88::u89::u90::u91::u92::u93::u94::u95::u96::u97::u98::u99::u100::u101::u102::u103::u104::u105::u106::u107::u108::u109::u110::u111::u112::u113::u114::u115::u116::u117::u118::u119::u120::u121::u122::u123::u124::u125::u126::u127::u128::u129::u130::u131::u132::u133::u134::u135::u136::u137::u138::u139::u140::u141::u142::u143::u144::u145::u146::u147::u148::u149::u150::u151::u152::u153::u154::u155::u156::u157::u158::u159::u160::u161::u162::u163::u164::u165::u166::u167::u168::u169::u170::u171::u172::u173::u174::u175::u176::u177::u178::u179::u180::u181::u182::u183::u184::u185::u186::u187::u188::u189::u190::u191::u192::u193::u194::u195::u196::u197::u198::u199::u200::u201::u202::u203::u204::u205::u206::u207::u208::u209::u210::u211::u212::u213::u214::u215::u216::u217::u218::u219::u220::u221::u222::u223::u224::u225::u226::u227::u228::u229::u230::u231::u232::u233::u234::u235::u236::u237::u238::u239::u240::u241::u242::u243::u244::u245::u246::u247::u248::u249::u250::u251::u252::u253::u254::u255::u256::u257::u258::u259::u260::u261::u262::u263::u264::u265::u266::u267::u268::u269::u270::u271::u272::u273::u274::u275::u276::u277::[]),[]⟩)) ⟨HP,⟨fun i=>([u0,u1,undef,undef,u4,u5,undef,u7,u8,u9,u10,undef,u12,u13,u14,u15,u16,u17,u18,u19,u20,u21,u22,u23,u24,u25,u26,u27,u28,u29,u30,u31,u32,u33,u34,u35,u36,u37,u38,u39,u40,u41,u42,u43,u44,u45,u46,u47,u48,u49,u50,u51,u52,u53,u54,u55,u56,u57,u58,u59,u60,u61,u62,u63,u64,u65,u66,u67,u68,u69,u70,u71,u72,u73,u74,u75,u76,u77,u78,u79,u80,u81,u82,u83,u84,u85,u86,u87,u88,u89,u90,u91,u92,u93,u94,u95,u96,u97,u98,u99,u100,u101,u102,u103,u104,u105,u106,u107,u108,u109,u110,u111,u112,u113,u114,u115,u116,u117,u118,u119,u120,u121,u122,u123,u124,u125,u126,u127,u128,u129,u130,u131,u132,u133,u134,u135,u136,u137,u138,u139,u140,u141,u142,u143,u144,u145,u146,u147,u148,u149,u150,u151,u152,u153,u154,u155,u156,u157,u158,u159,u160,u161,u162,u163,u164,u165,u166,u167,u168,u169,u170,u171,u172,u173,u174,u175,u176,u177,u178,u179,u180,u181,u182,u183,u184,u185,u186,u187,u188,u189,u190,u191,u192,u193,u194,u195,u196,u197,u198,u199,u200,u201,u202,u203,u204,u205,u206,u207,u208,u209,u210,u211,u212,u213,u214,u215,u216,u217,u218,u219,u220,u221,u222,u223,u224,u225,u226,u227,u228,u229,u230,u231,u232,u233,u234,u235,u236,u237,u238,u239,u240,u241,u242,u243,u244,u245,u246,u247,u248,u249,u250,u251,u252,u253,u254,u255,u256,u257,u258,u259,u260,u261,u262,u263,u264,u265,u266,u267,u268,u269,u270,u271,u272,u273,u274,u275,u276,u277] : List Value)[i]?.getD undef,fun _ _ _ _ _ _ _ _=>rfl⟩,Lib.hid HQ.out⟩ w X
structure r7qP (w0 : World) (TB HB : Nat) (limit life now tick : Int) (A : Option Addr) (n c : Nat) (l : List EM) (H : HD) (oA : Option Addr) (on oc : Nat) (RO : List IT) : Prop where
 er : ∀ W,SP w0 W RO->EROW W A n c l
 hn : n<=100000
def r7qS (w0 : World) (TB HB : Nat) (limit life now tick : Int) (A : Option Addr) (n c : Nat) (l : List EM) (H : HD) (oA : Option Addr) (on oc : Nat) (RO : List IT) : World->Prop:=fun W=>W.cell? ⟨HB,7,none⟩=some (.int .u32 H.src)∧W.cell? ⟨HB,8,none⟩=some (.int .u32 H.dst)∧W.cell? ⟨HB,6,none⟩=some (.int .u8 H.proto)∧W.cell? ⟨HB,1,none⟩=some (.int .u16 H.id)
set_option maxRecDepth 100000 in
def r7qF (w0 : World) (TB HB : Nat) (limit life now tick : Int) (A : Option Addr) (n c : Nat) (l : List EM) (H : HD) (oA : Option Addr) (on oc : Nat) (RO : List IT) (Fr : Value->Value->Value->Value->Value->Value->Value->Value->Value->Value->Value->Value->Value->Value->Value->Value->Value->Value->Act) : Prop:=∃ u : Nat->Value,∀ y117 y118 y119 y120 y121 y122 y123 y124 y125 y126 y127 y128 y129 y130 y131 y132 y133 y134,Fr y117 y118 y119 y120 y121 y122 y123 y124 y125 y126 y127 y128 y129 y130 y131 y132 y133 y134=⟨List.toArray (u 0::.int .i64 tick::u 2::.pointer (some ⟨TB,0,none⟩)::u 4::u 5::u 6::u 7::u 8::.pointer (some ⟨HB,0,none⟩)::u 10::u 11::u 12::u 13::u 14::u 15::u 16::u 17::u 18::u 19::u 20::u 21::u 22::u 23::u 24::u 25::u 26::u 27::u 28::u 29::u 30::u 31::u 32::u 33::u 34::u 35::u 36::u 37::u 38::u 39::u 40::u 41::u 42::u 43::u 44::u 45::u 46::u 47::u 48::u 49::u 50::u 51::u 52::u 53::u 54::u 55::u 56::u 57::u 58::u 59::u 60::u 61::u 62::u 63::u 64::u 65::u 66::u 67::u 68::u 69::u 70::u 71::u 72::u 73::u 74::u 75::u 76::u 77::u 78::u 79::u 80::u 81::u 82::u 83::u 84::u 85::u 86::u 87::u 88::u 89::u 90::u 91::u 92::u 93::u 94::u 95::u 96::u 97::u 98::u 99::u 100::u 101::u 102::u 103::u 104::u 105::u 106::u 107::u 108::u 109::u 110::u 111::u 112::u 113::u 114::u 115::u 116::y117::y118::y119::y120::y121::y122::y123::y124::y125::y126::y127::y128::y129::y130::y131::y132::y133::y134::u 135::u 136::u 137::u 138::u 139::u 140::u 141::u 142::u 143::u 144::u 145::u 146::u 147::u 148::u 149::u 150::u 151::u 152::u 153::u 154::u 155::u 156::u 157::u 158::u 159::u 160::u 161::u 162::u 163::u 164::u 165::u 166::u 167::u 168::u 169::u 170::u 171::u 172::u 173::u 174::u 175::u 176::u 177::u 178::u 179::u 180::u 181::u 182::u 183::u 184::u 185::u 186::u 187::u 188::u 189::u 190::u 191::u 192::u 193::u 194::u 195::u 196::u 197::u 198::u 199::u 200::u 201::u 202::u 203::u 204::u 205::u 206::u 207::u 208::u 209::u 210::u 211::u 212::u 213::u 214::u 215::u 216::u 217::u 218::u 219::u 220::u 221::u 222::u 223::u 224::u 225::u 226::u 227::u 228::u 229::u 230::u 231::u 232::u 233::u 234::u 235::u 236::u 237::u 238::u 239::u 240::u 241::u 242::u 243::u 244::u 245::u 246::u 247::u 248::u 249::u 250::u 251::u 252::u 253::u 254::u 255::u 256::u 257::u 258::u 259::u 260::u 261::u 262::u 263::u 264::u 265::u 266::u 267::u 268::u 269::u 270::u 271::u 272::u 273::u 274::u 275::u 276::u 277::[]),[]⟩
def r7qR (w0 : World) (TB HB : Nat) (limit life now tick : Int) (A : Option Addr) (n c : Nat) (l : List EM) (H : HD) (oA : Option Addr) (on oc : Nat) (RO : List IT) (Q : Exit->Act->World->Prop) (Fr : Value->Value->Value->Value->Value->Value->Value->Value->Value->Value->Value->Value->Value->Value->Value->Value->Value->Value->Act) : Prop:=∀ (y117 y118 y119 y120 y121 y122 y123 y124 y125 y126 y127 y128 y129 y130 y131 y132 y133 y134 : Value) (g117 : Nat) (A120 : Option Addr) (c120 : Nat) (g132 : Nat) (A133 : Option Addr) (c133 : Nat) (w' : World),SP w0 w' ([.blk TB 70 #[.int .i64 limit,.int .i64 life,.int .i64 now,.slice A133 (n + 1) c133],.blk HB 58 #[.int .u8 H.tos,.int .u16 H.id,.bool H.df,.bool H.mf,.int .i64 H.off,.int .u8 H.ttl,.int .u8 H.proto,.int .u32 H.src,.int .u32 H.dst,.slice oA on oc],.row 125 8 A133 (n + 1) c133 (l.flatMap EM.cells++[.int .u32 H.src,.int .u32 H.dst,.int .u8 H.proto,.int .u16 H.id,.int .i64 tick,.int .i64 0,.bool false,.slice none 0 0])]++RO)->Q .normal (Fr y117 y118 y119 y120 y121 y122 y123 y124 y125 y126 y127 y128 y129 y130 y131 y132 y133 y134) w'
def r7qH (w0 : World) (TB HB : Nat) (limit life now tick : Int) (A : Option Addr) (n c : Nat) (l : List EM) (H : HD) (oA : Option Addr) (on oc : Nat) (RO : List IT) (Q : Exit->Act->World->Prop) (Fr : Value->Value->Value->Value->Value->Value->Value->Value->Value->Value->Value->Value->Value->Value->Value->Value->Value->Value->Act) : Prop:=Hid (r7qP w0 TB HB limit life now tick A n c l H oA on oc RO)∧r7qF w0 TB HB limit life now tick A n c l H oA on oc RO Fr∧Hid (r7qR w0 TB HB limit life now tick A n c l H oA on oc RO Q Fr)
section
variable {Q : Exit->Act->World->Prop} {y117 y118 y119 y120 y121 y122 y123 y124 y125 y126 y127 y128 y129 y130 y131 y132 y133 y134 : Value} {w0 : World} {TB HB : Nat} {limit life now tick : Int} {A : Option Addr} {n c : Nat} {l : List EM} {H : HD} {oA : Option Addr} {on oc : Nat} {RO : List IT} {Fr : Value->Value->Value->Value->Value->Value->Value->Value->Value->Value->Value->Value->Value->Value->Value->Value->Value->Value->Act}
set_option maxHeartbeats 1000000 in
set_option maxRecDepth 100000 in
theorem r7qs6 (H0 : r7qH w0 TB HB limit life now tick A n c l H oA on oc RO Q Fr) (g117 : Nat) (A120 : Option Addr) (c120 : Nat) (g132 : Nat) (A133 : Option Addr) (c133 : Nat) (w : World) (X : Hid (SP w0 w ([.blk TB 70 #[.int .i64 limit,.int .i64 life,.int .i64 now,.slice A133 (n + 1) c133],.blk HB 58 #[.int .u8 H.tos,.int .u16 H.id,.bool H.df,.bool H.mf,.int .i64 H.off,.int .u8 H.ttl,.int .u8 H.proto,.int .u32 H.src,.int .u32 H.dst,.slice oA on oc],.row 125 8 A133 (n + 1) c133 (l.flatMap EM.cells++[.int .u32 H.src,.int .u32 H.dst,.int .u8 H.proto,.int .u16 H.id,.int .i64 tick,.int .i64 0,.bool false,.slice none 0 0])]++RO))) :
 wpAnyH Tryz.prog .any (opsAt Tryz.f27 20) (NoPanic Q) (r7qS w0 TB HB limit life now tick A n c l H oA on oc RO) 0 #[true,true,true,true,true,true,true,true,true,true,true,true,true,true,true,true,true,true,true] (Fr y117 y118 y119 y120 y121 y122 y123 y124 y125 y126 y127 y128 y129 y130 y131 y132 y133 y134) w:=by
 have H1:=Lib.hid H0
 obtain ⟨HP,⟨u,hF⟩,HQ⟩:=H0
 rw [hF]
 obtain ⟨i0,hi0,hz0,hz1,hz2⟩:=info_parts info7E
 have hn:=HP.out.hn
 have hHeld : (r7qS w0 TB HB limit life now tick A n c l H oA on oc RO) w:=by exact ⟨X.out.cell 1 rfl 7 rfl,X.out.cell 1 rfl 8 rfl,X.out.cell 1 rfl 6 rfl,X.out.cell 1 rfl 1 rfl⟩
 refine wpAnyH_done (by kernel_rfl) ?_ _
 refine NoPanic.normal ?_
 rw [<- hF]
 exact HQ.out _ _ _ _ _ _ _ _ _ _ _ _ _ _ _ _ _ _ g117 A120 c120 g132 A133 c133 _ X.out
set_option maxHeartbeats 1000000 in
set_option maxRecDepth 100000 in
theorem r7qs5 (H0 : r7qH w0 TB HB limit life now tick A n c l H oA on oc RO Q Fr) (g117 : Nat) (A120 : Option Addr) (c120 : Nat) (g132 : Nat) (A133 : Option Addr) (c133 : Nat) (w : World) (X : Hid (SP w0 w ([.blk TB 70 #[.int .i64 limit,.int .i64 life,.int .i64 now,.slice A n c],.blk HB 58 #[.int .u8 H.tos,.int .u16 H.id,.bool H.df,.bool H.mf,.int .i64 H.off,.int .u8 H.ttl,.int .u8 H.proto,.int .u32 H.src,.int .u32 H.dst,.slice oA on oc],.row 125 8 A133 (n + 1) c133 (l.flatMap EM.cells++[.int .u32 H.src,.int .u32 H.dst,.int .u8 H.proto,.int .u16 H.id,.int .i64 tick,.int .i64 0,.bool false,.slice none 0 0])]++RO))) :
 wpAnyH Tryz.prog .any (opsAt Tryz.f27 20) (NoPanic Q) (r7qS w0 TB HB limit life now tick A n c l H oA on oc RO) 1 #[true,true,true,true,true,true,true,true,true,true,true,true,true,true,true,true,true,true,false] (Fr y117 y118 y119 y120 y121 y122 y123 y124 y125 y126 y127 y128 y129 y130 y131 y132 (.slice A133 (n + 1) c133) (.pointer (some ⟨TB,3,none⟩))) w:=by
 have H1:=Lib.hid H0
 obtain ⟨HP,⟨u,hF⟩,HQ⟩:=H0
 rw [hF]
 obtain ⟨i0,hi0,hz0,hz1,hz2⟩:=info_parts info7E
 have hn:=HP.out.hn
 have hHeld : (r7qS w0 TB HB limit life now tick A n c l H oA on oc RO) w:=by exact ⟨X.out.cell 1 rfl 7 rfl,X.out.cell 1 rfl 8 rfl,X.out.cell 1 rfl 6 rfl,X.out.cell 1 rfl 1 rfl⟩
 refine rdy [18] ?_
 refine cons_lit rfl (fun K hK=>?ss18x28) AllReadyH.nil
 case ss18x28 =>
  have xc:=X.out.cell 0 rfl 3 rfl
  have xf:=X.out.free 0 rfl 3
  go_simp
  clear xc xf
  refine nameW' (fun v hv=>?_)
  have Y:=Lib.hid (show SP w0 v ([.blk TB 70 #[.int .i64 limit,.int .i64 life,.int .i64 now,.slice A133 (n + 1) c133],.blk HB 58 #[.int .u8 H.tos,.int .u16 H.id,.bool H.df,.bool H.mf,.int .i64 H.off,.int .u8 H.ttl,.int .u8 H.proto,.int .u32 H.src,.int .u32 H.dst,.slice oA on oc],.row 125 8 A133 (n + 1) c133 (l.flatMap EM.cells++[.int .u32 H.src,.int .u32 H.dst,.int .u8 H.proto,.int .u16 H.id,.int .i64 tick,.int .i64 0,.bool false,.slice none 0 0])]++RO) by rw [hv];exact SP.pickT (A:=[_,_,_]) (B:=[_,_,_]) (C:=RO) (X.out.setB 0 rfl 3 (.slice A133 (n + 1) c133)) [0,1,2] rfl (by decide))
  clear hv
  refine hK.out _ _ (by exact ⟨Y.out.cell 1 rfl 7 rfl,Y.out.cell 1 rfl 8 rfl,Y.out.cell 1 rfl 6 rfl,Y.out.cell 1 rfl 1 rfl⟩) (fun hHeld=>?_)
  clear hK K
  try simp only [Act.put,jA,jB,jC]
  rw [<- hF]
  exact r7qs6 H1.out g117 A120 c120 g132 A133 c133 _ Y
set_option maxHeartbeats 1000000 in
set_option maxRecDepth 100000 in
theorem r7qs4 (H0 : r7qH w0 TB HB limit life now tick A n c l H oA on oc RO Q Fr) (g117 : Nat) (A120 : Option Addr) (c120 : Nat) (g132 : Nat) (w : World) (X : Hid (SP w0 w ([.blk TB 70 #[.int .i64 limit,.int .i64 life,.int .i64 now,.slice A n c],.blk HB 58 #[.int .u8 H.tos,.int .u16 H.id,.bool H.df,.bool H.mf,.int .i64 H.off,.int .u8 H.ttl,.int .u8 H.proto,.int .u32 H.src,.int .u32 H.dst,.slice oA on oc],.row 125 8 A120 n c120 (l.flatMap EM.cells),.row 125 8 (some ⟨g132,0,none⟩) 1 1 [.int .u32 H.src,.int .u32 H.dst,.int .u8 H.proto,.int .u16 H.id,.int .i64 tick,.int .i64 0,.bool false,.slice none 0 0]]++RO))) :
 wpAnyH Tryz.prog .any (opsAt Tryz.f27 20) (NoPanic Q) (r7qS w0 TB HB limit life now tick A n c l H oA on oc RO) 3 #[true,true,true,true,true,true,true,true,true,true,true,true,true,true,true,true,false,false,false] (Fr y117 y118 y119 (.slice A120 n c120) y121 y122 y123 y124 y125 y126 y127 y128 y129 y130 y131 (.slice (some ⟨g132,0,none⟩) 1 1) y133 y134) w:=by
 have H1:=Lib.hid H0
 obtain ⟨HP,⟨u,hF⟩,HQ⟩:=H0
 rw [hF]
 obtain ⟨i0,hi0,hz0,hz1,hz2⟩:=info_parts info7E
 have hn:=HP.out.hn
 have hHeld : (r7qS w0 TB HB limit life now tick A n c l H oA on oc RO) w:=by exact ⟨X.out.cell 1 rfl 7 rfl,X.out.cell 1 rfl 8 rfl,X.out.cell 1 rfl 6 rfl,X.out.cell 1 rfl 1 rfl⟩
 refine rdy [16] ?_
 refine cons_lit rfl (fun K hK=>?ss16x26) AllReadyH.nil
 case ss16x26 =>
  refine step_append_rowO _ (by rfl) _ _ 68 (by rfl) w0.heap.size 125 i0 _ 8 64 Tryz.underlying68 hi0 hz0 hz1 hz2 (by rfl) (by decide) A120 (n) c120 (l.flatMap EM.cells) (by rfl) (by exact X.out.row 2 rfl) (some ⟨g132,0,none⟩) (1) (1) ([.int .u32 H.src,.int .u32 H.dst,.int .u8 H.proto,.int .u16 H.id,.int .i64 tick,.int .i64 0,.bool false,.slice none 0 0]) (by rfl) (by rfl) (row_news (X.out.row 3 rfl)) (by intro u hu;simp at hu;rcases hu with rfl | rfl | rfl | rfl | rfl | rfl | rfl | rfl <;> rfl) (by simp only [maxLen];omega) (by omega) X.out.size ?_
  intro A133 c133 v hrow hgrow hat
  have Y:=Lib.hid (show SP w0 v ([.blk TB 70 #[.int .i64 limit,.int .i64 life,.int .i64 now,.slice A n c],.blk HB 58 #[.int .u8 H.tos,.int .u16 H.id,.bool H.df,.bool H.mf,.int .i64 H.off,.int .u8 H.ttl,.int .u8 H.proto,.int .u32 H.src,.int .u32 H.dst,.slice oA on oc],.row 125 8 A133 (n + 1) c133 (l.flatMap EM.cells++[.int .u32 H.src,.int .u32 H.dst,.int .u8 H.proto,.int .u16 H.id,.int .i64 tick,.int .i64 0,.bool false,.slice none 0 0])]++RO) from SP.pickT (A:=[_,_,_,_]) (B:=[_,_,_]) (C:=RO) (X.out.appRow 2 rfl hrow hgrow hat) [0,1,2] rfl (by decide))
  clear hrow hgrow hat
  refine hK.out _ _ (by exact ⟨Y.out.cell 1 rfl 7 rfl,Y.out.cell 1 rfl 8 rfl,Y.out.cell 1 rfl 6 rfl,Y.out.cell 1 rfl 1 rfl⟩) (fun hHeld=>?_)
  clear hK K
  try simp only [Act.put,jA,jB,jC]
  refine' tk (i:=17) rfl ?U27 ?V27
  case U27=>intro w' hSw;go_simp;try (with_reducible rfl)
  try simp only [Act.put,jA,jB,jC]
  rw [<- hF]
  exact r7qs5 H1.out g117 A120 c120 g132 A133 c133 _ Y
set_option maxHeartbeats 1000000 in
set_option maxRecDepth 100000 in
theorem r7qs3 (H0 : r7qH w0 TB HB limit life now tick A n c l H oA on oc RO Q Fr) (g117 : Nat) (A120 : Option Addr) (c120 : Nat) (w : World) (X : Hid (SP w0 w ([.blk TB 70 #[.int .i64 limit,.int .i64 life,.int .i64 now,.slice A n c],.blk HB 58 #[.int .u8 H.tos,.int .u16 H.id,.bool H.df,.bool H.mf,.int .i64 H.off,.int .u8 H.ttl,.int .u8 H.proto,.int .u32 H.src,.int .u32 H.dst,.slice oA on oc],.row 125 8 A120 n c120 (l.flatMap EM.cells)]++RO))) :
 wpAnyH Tryz.prog .any (opsAt Tryz.f27 20) (NoPanic Q) (r7qS w0 TB HB limit life now tick A n c l H oA on oc RO) 4 #[true,true,true,true,true,true,true,true,true,true,true,true,true,true,true,false,false,false,false] (Fr y117 y118 y119 (.slice A120 n c120) y121 y122 y123 y124 y125 y126 y127 y128 y129 y130 (.agg #[.int .u32 H.src,.int .u32 H.dst,.int .u8 H.proto,.int .u16 H.id,.int .i64 tick,.int .i64 0,.bool false,.slice none 0 0]) y132 y133 y134) w:=by
 have H1:=Lib.hid H0
 obtain ⟨HP,⟨u,hF⟩,HQ⟩:=H0
 rw [hF]
 obtain ⟨i0,hi0,hz0,hz1,hz2⟩:=info_parts info7E
 have hn:=HP.out.hn
 have hHeld : (r7qS w0 TB HB limit life now tick A n c l H oA on oc RO) w:=by exact ⟨X.out.cell 1 rfl 7 rfl,X.out.cell 1 rfl 8 rfl,X.out.cell 1 rfl 6 rfl,X.out.cell 1 rfl 1 rfl⟩
 refine rdy [15] ?_
 refine cons_lit rfl (fun K hK=>?ss15x25) AllReadyH.nil
 case ss15x25 =>
  go_simp
  obtain ⟨g132,hg132⟩ : ∃ g,g=w.heap.size:=⟨_,rfl⟩
  rw [<- hg132]
  refine nameW' (fun v hv=>?_)
  have Y:=Lib.hid (show SP w0 v ([.blk TB 70 #[.int .i64 limit,.int .i64 life,.int .i64 now,.slice A n c],.blk HB 58 #[.int .u8 H.tos,.int .u16 H.id,.bool H.df,.bool H.mf,.int .i64 H.off,.int .u8 H.ttl,.int .u8 H.proto,.int .u32 H.src,.int .u32 H.dst,.slice oA on oc],.row 125 8 A120 n c120 (l.flatMap EM.cells),.row 125 8 (some ⟨g132,0,none⟩) 1 1 [.int .u32 H.src,.int .u32 H.dst,.int .u8 H.proto,.int .u16 H.id,.int .i64 tick,.int .i64 0,.bool false,.slice none 0 0]]++RO) by rw [hv];exact SP.pickT (A:=[_,_,_,_]) (B:=[_,_,_,_]) (C:=RO) (SP.rot (X.out.allocRow7 125 8 1 #[.int .u32 H.src,.int .u32 H.dst,.int .u8 H.proto,.int .u16 H.id,.int .i64 tick,.int .i64 0,.bool false,.slice none 0 0] (by simp [maxLen]) rfl hg132.symm)) [1,2,3,0] rfl (by decide))
  clear hv hg132
  refine hK.out _ _ (by exact ⟨Y.out.cell 1 rfl 7 rfl,Y.out.cell 1 rfl 8 rfl,Y.out.cell 1 rfl 6 rfl,Y.out.cell 1 rfl 1 rfl⟩) (fun hHeld=>?_)
  clear hK K
  try simp only [Act.put,jA,jB,jC]
  rw [<- hF]
  exact r7qs4 H1.out g117 A120 c120 g132 _ Y
set_option maxHeartbeats 1000000 in
set_option maxRecDepth 100000 in
theorem r7qs7 (H0 : r7qH w0 TB HB limit life now tick A n c l H oA on oc RO Q Fr) (g117 : Nat) (g132 : Nat) (w : World) (X : Hid (SP w0 w ([.blk TB 70 #[.int .i64 limit,.int .i64 life,.int .i64 now,.slice A n c],.blk HB 58 #[.int .u8 H.tos,.int .u16 H.id,.bool H.df,.bool H.mf,.int .i64 H.off,.int .u8 H.ttl,.int .u8 H.proto,.int .u32 H.src,.int .u32 H.dst,.slice oA on oc],.row 125 8 (some ⟨g117,0,none⟩) 0 0 [],.row 125 8 (some ⟨g132,0,none⟩) 1 1 [.int .u32 H.src,.int .u32 H.dst,.int .u8 H.proto,.int .u16 H.id,.int .i64 tick,.int .i64 0,.bool false,.slice none 0 0]]++RO))) :
 wpAnyH Tryz.prog .any (opsAt Tryz.f27 20) (NoPanic Q) (r7qS w0 TB HB limit life now tick A n c l H oA on oc RO) 4 #[true,true,true,false,true,true,true,true,true,true,true,true,true,true,true,true,false,false,false] (Fr (.slice (some ⟨g117,0,none⟩) 0 0) y118 (.slice A n c) y120 y121 y122 y123 y124 y125 y126 y127 y128 y129 y130 y131 (.slice (some ⟨g132,0,none⟩) 1 1) y133 y134) w:=by
 have H1:=Lib.hid H0
 obtain ⟨HP,⟨u,hF⟩,HQ⟩:=H0
 rw [hF]
 obtain ⟨i0,hi0,hz0,hz1,hz2⟩:=info_parts info7E
 have hn:=HP.out.hn
 have hHeld : (r7qS w0 TB HB limit life now tick A n c l H oA on oc RO) w:=by exact ⟨X.out.cell 1 rfl 7 rfl,X.out.cell 1 rfl 8 rfl,X.out.cell 1 rfl 6 rfl,X.out.cell 1 rfl 1 rfl⟩
 refine rdy [3] ?_
 refine cons_lit rfl (fun K hK=>?ss3x29) AllReadyH.nil
 case ss3x29 =>
  refine step_append_rowO _ (by rfl) _ _ 68 (by rfl) w0.heap.size 125 i0 _ 8 64 Tryz.underlying68 hi0 hz0 hz1 hz2 (by rfl) (by decide) (some ⟨g117,0,none⟩) (0) 0 ([]) (by rfl) (by exact X.out.row 2 rfl) A (n) (c) (l.flatMap EM.cells) (by rfl) (by rw [flat_len EM.cells 8 em_len,(HP.out.er _ X.out.right).len]) ((HP.out.er _ X.out.right).news) (ems_one l) (by simp only [maxLen];omega) (by omega) X.out.size ?_
  intro A120 c120 v hrow hgrow hat
  rw [Nat.zero_add] at hrow ⊢
  rw [List.nil_append] at hrow
  have Y:=Lib.hid (show SP w0 v ([.blk TB 70 #[.int .i64 limit,.int .i64 life,.int .i64 now,.slice A n c],.blk HB 58 #[.int .u8 H.tos,.int .u16 H.id,.bool H.df,.bool H.mf,.int .i64 H.off,.int .u8 H.ttl,.int .u8 H.proto,.int .u32 H.src,.int .u32 H.dst,.slice oA on oc],.row 125 8 A120 n c120 (l.flatMap EM.cells),.row 125 8 (some ⟨g132,0,none⟩) 1 1 [.int .u32 H.src,.int .u32 H.dst,.int .u8 H.proto,.int .u16 H.id,.int .i64 tick,.int .i64 0,.bool false,.slice none 0 0]]++RO) from SP.pickT (A:=[_,_,_,_]) (B:=[_,_,_,_]) (C:=RO) (X.out.appRow 2 rfl hrow hgrow hat) [0,1,2,3] rfl (by decide))
  clear hrow hgrow hat
  refine hK.out _ _ (by exact ⟨Y.out.cell 1 rfl 7 rfl,Y.out.cell 1 rfl 8 rfl,Y.out.cell 1 rfl 6 rfl,Y.out.cell 1 rfl 1 rfl⟩) (fun hHeld=>?_)
  clear hK K
  try simp only [Act.put,jA,jB,jC]
  rw [<- hF]
  exact r7qs4 H1.out g117 A120 c120 g132 _ Y
set_option maxHeartbeats 1000000 in
set_option maxRecDepth 100000 in
theorem r7qs2 (H0 : r7qH w0 TB HB limit life now tick A n c l H oA on oc RO Q Fr) (g117 : Nat) (w : World) (X : Hid (SP w0 w ([.blk TB 70 #[.int .i64 limit,.int .i64 life,.int .i64 now,.slice A n c],.blk HB 58 #[.int .u8 H.tos,.int .u16 H.id,.bool H.df,.bool H.mf,.int .i64 H.off,.int .u8 H.ttl,.int .u8 H.proto,.int .u32 H.src,.int .u32 H.dst,.slice oA on oc],.row 125 8 (some ⟨g117,0,none⟩) 0 0 []]++RO))) :
 wpAnyH Tryz.prog .any (opsAt Tryz.f27 20) (NoPanic Q) (r7qS w0 TB HB limit life now tick A n c l H oA on oc RO) 5 #[true,true,true,false,true,true,true,true,true,true,true,true,true,true,true,false,false,false,false] (Fr (.slice (some ⟨g117,0,none⟩) 0 0) y118 (.slice A n c) y120 y121 y122 y123 y124 y125 y126 y127 y128 y129 y130 (.agg #[.int .u32 H.src,.int .u32 H.dst,.int .u8 H.proto,.int .u16 H.id,.int .i64 tick,.int .i64 0,.bool false,.slice none 0 0]) y132 y133 y134) w:=by
 have H1:=Lib.hid H0
 obtain ⟨HP,⟨u,hF⟩,HQ⟩:=H0
 rw [hF]
 obtain ⟨i0,hi0,hz0,hz1,hz2⟩:=info_parts info7E
 have hn:=HP.out.hn
 have hHeld : (r7qS w0 TB HB limit life now tick A n c l H oA on oc RO) w:=by exact ⟨X.out.cell 1 rfl 7 rfl,X.out.cell 1 rfl 8 rfl,X.out.cell 1 rfl 6 rfl,X.out.cell 1 rfl 1 rfl⟩
 refine rdy [3,15] ?_
 refine cons_lit rfl (fun K hK=>?ss3x24) (cons_lit rfl (fun K hK=>?ss15x24) AllReadyH.nil)
 case ss3x24 =>
  refine step_append_rowO _ (by rfl) _ _ 68 (by rfl) w0.heap.size 125 i0 _ 8 64 Tryz.underlying68 hi0 hz0 hz1 hz2 (by rfl) (by decide) (some ⟨g117,0,none⟩) (0) 0 ([]) (by rfl) (by exact X.out.row 2 rfl) A (n) (c) (l.flatMap EM.cells) (by rfl) (by rw [flat_len EM.cells 8 em_len,(HP.out.er _ X.out.right).len]) ((HP.out.er _ X.out.right).news) (ems_one l) (by simp only [maxLen];omega) (by omega) X.out.size ?_
  intro A120 c120 v hrow hgrow hat
  rw [Nat.zero_add] at hrow ⊢
  rw [List.nil_append] at hrow
  have Y:=Lib.hid (show SP w0 v ([.blk TB 70 #[.int .i64 limit,.int .i64 life,.int .i64 now,.slice A n c],.blk HB 58 #[.int .u8 H.tos,.int .u16 H.id,.bool H.df,.bool H.mf,.int .i64 H.off,.int .u8 H.ttl,.int .u8 H.proto,.int .u32 H.src,.int .u32 H.dst,.slice oA on oc],.row 125 8 A120 n c120 (l.flatMap EM.cells)]++RO) from SP.pickT (A:=[_,_,_]) (B:=[_,_,_]) (C:=RO) (X.out.appRow 2 rfl hrow hgrow hat) [0,1,2] rfl (by decide))
  clear hrow hgrow hat
  refine hK.out _ _ (by exact ⟨Y.out.cell 1 rfl 7 rfl,Y.out.cell 1 rfl 8 rfl,Y.out.cell 1 rfl 6 rfl,Y.out.cell 1 rfl 1 rfl⟩) (fun hHeld=>?_)
  clear hK K
  try simp only [Act.put,jA,jB,jC]
  rw [<- hF]
  exact r7qs3 H1.out g117 A120 c120 _ Y
 case ss15x24 =>
  go_simp
  obtain ⟨g132,hg132⟩ : ∃ g,g=w.heap.size:=⟨_,rfl⟩
  rw [<- hg132]
  refine nameW' (fun v hv=>?_)
  have Y:=Lib.hid (show SP w0 v ([.blk TB 70 #[.int .i64 limit,.int .i64 life,.int .i64 now,.slice A n c],.blk HB 58 #[.int .u8 H.tos,.int .u16 H.id,.bool H.df,.bool H.mf,.int .i64 H.off,.int .u8 H.ttl,.int .u8 H.proto,.int .u32 H.src,.int .u32 H.dst,.slice oA on oc],.row 125 8 (some ⟨g117,0,none⟩) 0 0 [],.row 125 8 (some ⟨g132,0,none⟩) 1 1 [.int .u32 H.src,.int .u32 H.dst,.int .u8 H.proto,.int .u16 H.id,.int .i64 tick,.int .i64 0,.bool false,.slice none 0 0]]++RO) by rw [hv];exact SP.pickT (A:=[_,_,_,_]) (B:=[_,_,_,_]) (C:=RO) (SP.rot (X.out.allocRow7 125 8 1 #[.int .u32 H.src,.int .u32 H.dst,.int .u8 H.proto,.int .u16 H.id,.int .i64 tick,.int .i64 0,.bool false,.slice none 0 0] (by simp [maxLen]) rfl hg132.symm)) [1,2,3,0] rfl (by decide))
  clear hv hg132
  refine hK.out _ _ (by exact ⟨Y.out.cell 1 rfl 7 rfl,Y.out.cell 1 rfl 8 rfl,Y.out.cell 1 rfl 6 rfl,Y.out.cell 1 rfl 1 rfl⟩) (fun hHeld=>?_)
  clear hK K
  try simp only [Act.put,jA,jB,jC]
  rw [<- hF]
  exact r7qs7 H1.out g117 g132 _ Y
set_option maxHeartbeats 1000000 in
set_option maxRecDepth 100000 in
theorem r7qs8 (H0 : r7qH w0 TB HB limit life now tick A n c l H oA on oc RO Q Fr) (g117 : Nat) (g132 : Nat) (w : World) (X : Hid (SP w0 w ([.blk TB 70 #[.int .i64 limit,.int .i64 life,.int .i64 now,.slice A n c],.blk HB 58 #[.int .u8 H.tos,.int .u16 H.id,.bool H.df,.bool H.mf,.int .i64 H.off,.int .u8 H.ttl,.int .u8 H.proto,.int .u32 H.src,.int .u32 H.dst,.slice oA on oc],.row 125 8 (some ⟨g117,0,none⟩) 0 0 [],.row 125 8 (some ⟨g132,0,none⟩) 1 1 [.int .u32 H.src,.int .u32 H.dst,.int .u8 H.proto,.int .u16 H.id,.int .i64 tick,.int .i64 0,.bool false,.slice none 0 0]]++RO))) :
 wpAnyH Tryz.prog .any (opsAt Tryz.f27 20) (NoPanic Q) (r7qS w0 TB HB limit life now tick A n c l H oA on oc RO) 5 #[true,true,false,false,true,true,true,true,true,true,true,true,true,true,true,true,false,false,false] (Fr (.slice (some ⟨g117,0,none⟩) 0 0) (.pointer (some ⟨TB,3,none⟩)) y119 y120 y121 y122 y123 y124 y125 y126 y127 y128 y129 y130 y131 (.slice (some ⟨g132,0,none⟩) 1 1) y133 y134) w:=by
 have H1:=Lib.hid H0
 obtain ⟨HP,⟨u,hF⟩,HQ⟩:=H0
 rw [hF]
 obtain ⟨i0,hi0,hz0,hz1,hz2⟩:=info_parts info7E
 have hn:=HP.out.hn
 have hHeld : (r7qS w0 TB HB limit life now tick A n c l H oA on oc RO) w:=by exact ⟨X.out.cell 1 rfl 7 rfl,X.out.cell 1 rfl 8 rfl,X.out.cell 1 rfl 6 rfl,X.out.cell 1 rfl 1 rfl⟩
 refine rdy [2] ?_
 refine cons_lit rfl (fun K hK=>?ss2x30) AllReadyH.nil
 case ss2x30 =>
  have xc:=X.out.cell 0 rfl 3 rfl
  go_simp
  clear xc
  have Y:=X
  refine hK.out _ _ (by exact ⟨Y.out.cell 1 rfl 7 rfl,Y.out.cell 1 rfl 8 rfl,Y.out.cell 1 rfl 6 rfl,Y.out.cell 1 rfl 1 rfl⟩) (fun hHeld=>?_)
  clear hK K
  try simp only [Act.put,jA,jB,jC]
  rw [<- hF]
  exact r7qs7 H1.out g117 g132 _ Y
set_option maxHeartbeats 1000000 in
set_option maxRecDepth 100000 in
theorem r7qs1 (H0 : r7qH w0 TB HB limit life now tick A n c l H oA on oc RO Q Fr) (g117 : Nat) (w : World) (X : Hid (SP w0 w ([.blk TB 70 #[.int .i64 limit,.int .i64 life,.int .i64 now,.slice A n c],.blk HB 58 #[.int .u8 H.tos,.int .u16 H.id,.bool H.df,.bool H.mf,.int .i64 H.off,.int .u8 H.ttl,.int .u8 H.proto,.int .u32 H.src,.int .u32 H.dst,.slice oA on oc],.row 125 8 (some ⟨g117,0,none⟩) 0 0 []]++RO))) :
 wpAnyH Tryz.prog .any (opsAt Tryz.f27 20) (NoPanic Q) (r7qS w0 TB HB limit life now tick A n c l H oA on oc RO) 6 #[true,true,false,false,true,true,true,true,true,true,true,true,true,true,true,false,false,false,false] (Fr (.slice (some ⟨g117,0,none⟩) 0 0) (.pointer (some ⟨TB,3,none⟩)) y119 y120 y121 y122 y123 y124 y125 y126 y127 y128 y129 y130 (.agg #[.int .u32 H.src,.int .u32 H.dst,.int .u8 H.proto,.int .u16 H.id,.int .i64 tick,.int .i64 0,.bool false,.slice none 0 0]) y132 y133 y134) w:=by
 have H1:=Lib.hid H0
 obtain ⟨HP,⟨u,hF⟩,HQ⟩:=H0
 rw [hF]
 obtain ⟨i0,hi0,hz0,hz1,hz2⟩:=info_parts info7E
 have hn:=HP.out.hn
 have hHeld : (r7qS w0 TB HB limit life now tick A n c l H oA on oc RO) w:=by exact ⟨X.out.cell 1 rfl 7 rfl,X.out.cell 1 rfl 8 rfl,X.out.cell 1 rfl 6 rfl,X.out.cell 1 rfl 1 rfl⟩
 refine rdy [2,15] ?_
 refine cons_lit rfl (fun K hK=>?ss2x23) (cons_lit rfl (fun K hK=>?ss15x23) AllReadyH.nil)
 case ss2x23 =>
  have xc:=X.out.cell 0 rfl 3 rfl
  go_simp
  clear xc
  have Y:=X
  refine hK.out _ _ (by exact ⟨Y.out.cell 1 rfl 7 rfl,Y.out.cell 1 rfl 8 rfl,Y.out.cell 1 rfl 6 rfl,Y.out.cell 1 rfl 1 rfl⟩) (fun hHeld=>?_)
  clear hK K
  try simp only [Act.put,jA,jB,jC]
  rw [<- hF]
  exact r7qs2 H1.out g117 _ Y
 case ss15x23 =>
  go_simp
  obtain ⟨g132,hg132⟩ : ∃ g,g=w.heap.size:=⟨_,rfl⟩
  rw [<- hg132]
  refine nameW' (fun v hv=>?_)
  have Y:=Lib.hid (show SP w0 v ([.blk TB 70 #[.int .i64 limit,.int .i64 life,.int .i64 now,.slice A n c],.blk HB 58 #[.int .u8 H.tos,.int .u16 H.id,.bool H.df,.bool H.mf,.int .i64 H.off,.int .u8 H.ttl,.int .u8 H.proto,.int .u32 H.src,.int .u32 H.dst,.slice oA on oc],.row 125 8 (some ⟨g117,0,none⟩) 0 0 [],.row 125 8 (some ⟨g132,0,none⟩) 1 1 [.int .u32 H.src,.int .u32 H.dst,.int .u8 H.proto,.int .u16 H.id,.int .i64 tick,.int .i64 0,.bool false,.slice none 0 0]]++RO) by rw [hv];exact SP.pickT (A:=[_,_,_,_]) (B:=[_,_,_,_]) (C:=RO) (SP.rot (X.out.allocRow7 125 8 1 #[.int .u32 H.src,.int .u32 H.dst,.int .u8 H.proto,.int .u16 H.id,.int .i64 tick,.int .i64 0,.bool false,.slice none 0 0] (by simp [maxLen]) rfl hg132.symm)) [1,2,3,0] rfl (by decide))
  clear hv hg132
  refine hK.out _ _ (by exact ⟨Y.out.cell 1 rfl 7 rfl,Y.out.cell 1 rfl 8 rfl,Y.out.cell 1 rfl 6 rfl,Y.out.cell 1 rfl 1 rfl⟩) (fun hHeld=>?_)
  clear hK K
  try simp only [Act.put,jA,jB,jC]
  rw [<- hF]
  exact r7qs8 H1.out g117 g132 _ Y
set_option maxHeartbeats 1000000 in
set_option maxRecDepth 100000 in
theorem r7qs10 (H0 : r7qH w0 TB HB limit life now tick A n c l H oA on oc RO Q Fr) (g132 : Nat) (w : World) (X : Hid (SP w0 w ([.blk TB 70 #[.int .i64 limit,.int .i64 life,.int .i64 now,.slice A n c],.blk HB 58 #[.int .u8 H.tos,.int .u16 H.id,.bool H.df,.bool H.mf,.int .i64 H.off,.int .u8 H.ttl,.int .u8 H.proto,.int .u32 H.src,.int .u32 H.dst,.slice oA on oc],.row 125 8 (some ⟨g132,0,none⟩) 1 1 [.int .u32 H.src,.int .u32 H.dst,.int .u8 H.proto,.int .u16 H.id,.int .i64 tick,.int .i64 0,.bool false,.slice none 0 0]]++RO))) :
 wpAnyH Tryz.prog .any (opsAt Tryz.f27 20) (NoPanic Q) (r7qS w0 TB HB limit life now tick A n c l H oA on oc RO) 5 #[false,true,true,false,true,true,true,true,true,true,true,true,true,true,true,true,false,false,false] (Fr y117 y118 (.slice A n c) y120 y121 y122 y123 y124 y125 y126 y127 y128 y129 y130 y131 (.slice (some ⟨g132,0,none⟩) 1 1) y133 y134) w:=by
 have H1:=Lib.hid H0
 obtain ⟨HP,⟨u,hF⟩,HQ⟩:=H0
 rw [hF]
 obtain ⟨i0,hi0,hz0,hz1,hz2⟩:=info_parts info7E
 have hn:=HP.out.hn
 have hHeld : (r7qS w0 TB HB limit life now tick A n c l H oA on oc RO) w:=by exact ⟨X.out.cell 1 rfl 7 rfl,X.out.cell 1 rfl 8 rfl,X.out.cell 1 rfl 6 rfl,X.out.cell 1 rfl 1 rfl⟩
 refine rdy [0] ?_
 refine cons_lit rfl (fun K hK=>?ss0x32) AllReadyH.nil
 case ss0x32 =>
  go_simp
  obtain ⟨g117,hg117⟩ : ∃ g,g=w.heap.size:=⟨_,rfl⟩
  rw [<- hg117]
  refine nameW' (fun v hv=>?_)
  have Y:=Lib.hid (show SP w0 v ([.blk TB 70 #[.int .i64 limit,.int .i64 life,.int .i64 now,.slice A n c],.blk HB 58 #[.int .u8 H.tos,.int .u16 H.id,.bool H.df,.bool H.mf,.int .i64 H.off,.int .u8 H.ttl,.int .u8 H.proto,.int .u32 H.src,.int .u32 H.dst,.slice oA on oc],.row 125 8 (some ⟨g117,0,none⟩) 0 0 [],.row 125 8 (some ⟨g132,0,none⟩) 1 1 [.int .u32 H.src,.int .u32 H.dst,.int .u8 H.proto,.int .u16 H.id,.int .i64 tick,.int .i64 0,.bool false,.slice none 0 0]]++RO) by rw [hv];exact SP.pickT (A:=[_,_,_,_]) (B:=[_,_,_,_]) (C:=RO) (SP.rot (X.out.allocRow7 125 8 0 #[] (Nat.zero_le _) rfl hg117.symm)) [1,2,0,3] rfl (by decide))
  clear hv hg117
  refine hK.out _ _ (by exact ⟨Y.out.cell 1 rfl 7 rfl,Y.out.cell 1 rfl 8 rfl,Y.out.cell 1 rfl 6 rfl,Y.out.cell 1 rfl 1 rfl⟩) (fun hHeld=>?_)
  clear hK K
  try simp only [Act.put,jA,jB,jC]
  rw [<- hF]
  exact r7qs7 H1.out g117 g132 _ Y
set_option maxHeartbeats 1000000 in
set_option maxRecDepth 100000 in
theorem r7qs9 (H0 : r7qH w0 TB HB limit life now tick A n c l H oA on oc RO Q Fr) (w : World) (X : Hid (SP w0 w ([.blk TB 70 #[.int .i64 limit,.int .i64 life,.int .i64 now,.slice A n c],.blk HB 58 #[.int .u8 H.tos,.int .u16 H.id,.bool H.df,.bool H.mf,.int .i64 H.off,.int .u8 H.ttl,.int .u8 H.proto,.int .u32 H.src,.int .u32 H.dst,.slice oA on oc]]++RO))) :
 wpAnyH Tryz.prog .any (opsAt Tryz.f27 20) (NoPanic Q) (r7qS w0 TB HB limit life now tick A n c l H oA on oc RO) 6 #[false,true,true,false,true,true,true,true,true,true,true,true,true,true,true,false,false,false,false] (Fr y117 y118 (.slice A n c) y120 y121 y122 y123 y124 y125 y126 y127 y128 y129 y130 (.agg #[.int .u32 H.src,.int .u32 H.dst,.int .u8 H.proto,.int .u16 H.id,.int .i64 tick,.int .i64 0,.bool false,.slice none 0 0]) y132 y133 y134) w:=by
 have H1:=Lib.hid H0
 obtain ⟨HP,⟨u,hF⟩,HQ⟩:=H0
 rw [hF]
 obtain ⟨i0,hi0,hz0,hz1,hz2⟩:=info_parts info7E
 have hn:=HP.out.hn
 have hHeld : (r7qS w0 TB HB limit life now tick A n c l H oA on oc RO) w:=by exact ⟨X.out.cell 1 rfl 7 rfl,X.out.cell 1 rfl 8 rfl,X.out.cell 1 rfl 6 rfl,X.out.cell 1 rfl 1 rfl⟩
 refine rdy [0,15] ?_
 refine cons_lit rfl (fun K hK=>?ss0x31) (cons_lit rfl (fun K hK=>?ss15x31) AllReadyH.nil)
 case ss0x31 =>
  go_simp
  obtain ⟨g117,hg117⟩ : ∃ g,g=w.heap.size:=⟨_,rfl⟩
  rw [<- hg117]
  refine nameW' (fun v hv=>?_)
  have Y:=Lib.hid (show SP w0 v ([.blk TB 70 #[.int .i64 limit,.int .i64 life,.int .i64 now,.slice A n c],.blk HB 58 #[.int .u8 H.tos,.int .u16 H.id,.bool H.df,.bool H.mf,.int .i64 H.off,.int .u8 H.ttl,.int .u8 H.proto,.int .u32 H.src,.int .u32 H.dst,.slice oA on oc],.row 125 8 (some ⟨g117,0,none⟩) 0 0 []]++RO) by rw [hv];exact SP.pickT (A:=[_,_,_]) (B:=[_,_,_]) (C:=RO) (SP.rot (X.out.allocRow7 125 8 0 #[] (Nat.zero_le _) rfl hg117.symm)) [1,2,0] rfl (by decide))
  clear hv hg117
  refine hK.out _ _ (by exact ⟨Y.out.cell 1 rfl 7 rfl,Y.out.cell 1 rfl 8 rfl,Y.out.cell 1 rfl 6 rfl,Y.out.cell 1 rfl 1 rfl⟩) (fun hHeld=>?_)
  clear hK K
  try simp only [Act.put,jA,jB,jC]
  rw [<- hF]
  exact r7qs2 H1.out g117 _ Y
 case ss15x31 =>
  go_simp
  obtain ⟨g132,hg132⟩ : ∃ g,g=w.heap.size:=⟨_,rfl⟩
  rw [<- hg132]
  refine nameW' (fun v hv=>?_)
  have Y:=Lib.hid (show SP w0 v ([.blk TB 70 #[.int .i64 limit,.int .i64 life,.int .i64 now,.slice A n c],.blk HB 58 #[.int .u8 H.tos,.int .u16 H.id,.bool H.df,.bool H.mf,.int .i64 H.off,.int .u8 H.ttl,.int .u8 H.proto,.int .u32 H.src,.int .u32 H.dst,.slice oA on oc],.row 125 8 (some ⟨g132,0,none⟩) 1 1 [.int .u32 H.src,.int .u32 H.dst,.int .u8 H.proto,.int .u16 H.id,.int .i64 tick,.int .i64 0,.bool false,.slice none 0 0]]++RO) by rw [hv];exact SP.pickT (A:=[_,_,_]) (B:=[_,_,_]) (C:=RO) (SP.rot (X.out.allocRow7 125 8 1 #[.int .u32 H.src,.int .u32 H.dst,.int .u8 H.proto,.int .u16 H.id,.int .i64 tick,.int .i64 0,.bool false,.slice none 0 0] (by simp [maxLen]) rfl hg132.symm)) [1,2,0] rfl (by decide))
  clear hv hg132
  refine hK.out _ _ (by exact ⟨Y.out.cell 1 rfl 7 rfl,Y.out.cell 1 rfl 8 rfl,Y.out.cell 1 rfl 6 rfl,Y.out.cell 1 rfl 1 rfl⟩) (fun hHeld=>?_)
  clear hK K
  try simp only [Act.put,jA,jB,jC]
  rw [<- hF]
  exact r7qs10 H1.out g132 _ Y
set_option maxHeartbeats 1000000 in
set_option maxRecDepth 100000 in
theorem r7qs11 (H0 : r7qH w0 TB HB limit life now tick A n c l H oA on oc RO Q Fr) (g132 : Nat) (w : World) (X : Hid (SP w0 w ([.blk TB 70 #[.int .i64 limit,.int .i64 life,.int .i64 now,.slice A n c],.blk HB 58 #[.int .u8 H.tos,.int .u16 H.id,.bool H.df,.bool H.mf,.int .i64 H.off,.int .u8 H.ttl,.int .u8 H.proto,.int .u32 H.src,.int .u32 H.dst,.slice oA on oc],.row 125 8 (some ⟨g132,0,none⟩) 1 1 [.int .u32 H.src,.int .u32 H.dst,.int .u8 H.proto,.int .u16 H.id,.int .i64 tick,.int .i64 0,.bool false,.slice none 0 0]]++RO))) :
 wpAnyH Tryz.prog .any (opsAt Tryz.f27 20) (NoPanic Q) (r7qS w0 TB HB limit life now tick A n c l H oA on oc RO) 6 #[false,true,false,false,true,true,true,true,true,true,true,true,true,true,true,true,false,false,false] (Fr y117 (.pointer (some ⟨TB,3,none⟩)) y119 y120 y121 y122 y123 y124 y125 y126 y127 y128 y129 y130 y131 (.slice (some ⟨g132,0,none⟩) 1 1) y133 y134) w:=by
 have H1:=Lib.hid H0
 obtain ⟨HP,⟨u,hF⟩,HQ⟩:=H0
 rw [hF]
 obtain ⟨i0,hi0,hz0,hz1,hz2⟩:=info_parts info7E
 have hn:=HP.out.hn
 have hHeld : (r7qS w0 TB HB limit life now tick A n c l H oA on oc RO) w:=by exact ⟨X.out.cell 1 rfl 7 rfl,X.out.cell 1 rfl 8 rfl,X.out.cell 1 rfl 6 rfl,X.out.cell 1 rfl 1 rfl⟩
 refine rdy [0,2] ?_
 refine cons_lit rfl (fun K hK=>?ss0x33) (cons_lit rfl (fun K hK=>?ss2x33) AllReadyH.nil)
 case ss0x33 =>
  go_simp
  obtain ⟨g117,hg117⟩ : ∃ g,g=w.heap.size:=⟨_,rfl⟩
  rw [<- hg117]
  refine nameW' (fun v hv=>?_)
  have Y:=Lib.hid (show SP w0 v ([.blk TB 70 #[.int .i64 limit,.int .i64 life,.int .i64 now,.slice A n c],.blk HB 58 #[.int .u8 H.tos,.int .u16 H.id,.bool H.df,.bool H.mf,.int .i64 H.off,.int .u8 H.ttl,.int .u8 H.proto,.int .u32 H.src,.int .u32 H.dst,.slice oA on oc],.row 125 8 (some ⟨g117,0,none⟩) 0 0 [],.row 125 8 (some ⟨g132,0,none⟩) 1 1 [.int .u32 H.src,.int .u32 H.dst,.int .u8 H.proto,.int .u16 H.id,.int .i64 tick,.int .i64 0,.bool false,.slice none 0 0]]++RO) by rw [hv];exact SP.pickT (A:=[_,_,_,_]) (B:=[_,_,_,_]) (C:=RO) (SP.rot (X.out.allocRow7 125 8 0 #[] (Nat.zero_le _) rfl hg117.symm)) [1,2,0,3] rfl (by decide))
  clear hv hg117
  refine hK.out _ _ (by exact ⟨Y.out.cell 1 rfl 7 rfl,Y.out.cell 1 rfl 8 rfl,Y.out.cell 1 rfl 6 rfl,Y.out.cell 1 rfl 1 rfl⟩) (fun hHeld=>?_)
  clear hK K
  try simp only [Act.put,jA,jB,jC]
  rw [<- hF]
  exact r7qs8 H1.out g117 g132 _ Y
 case ss2x33 =>
  have xc:=X.out.cell 0 rfl 3 rfl
  go_simp
  clear xc
  have Y:=X
  refine hK.out _ _ (by exact ⟨Y.out.cell 1 rfl 7 rfl,Y.out.cell 1 rfl 8 rfl,Y.out.cell 1 rfl 6 rfl,Y.out.cell 1 rfl 1 rfl⟩) (fun hHeld=>?_)
  clear hK K
  try simp only [Act.put,jA,jB,jC]
  rw [<- hF]
  exact r7qs10 H1.out g132 _ Y
set_option maxHeartbeats 1000000 in
set_option maxRecDepth 100000 in
theorem r7qs0 (H0 : r7qH w0 TB HB limit life now tick A n c l H oA on oc RO Q Fr) (w : World) (X : Hid (SP w0 w ([.blk TB 70 #[.int .i64 limit,.int .i64 life,.int .i64 now,.slice A n c],.blk HB 58 #[.int .u8 H.tos,.int .u16 H.id,.bool H.df,.bool H.mf,.int .i64 H.off,.int .u8 H.ttl,.int .u8 H.proto,.int .u32 H.src,.int .u32 H.dst,.slice oA on oc]]++RO))) :
 wpAnyH Tryz.prog .any (opsAt Tryz.f27 20) (NoPanic Q) (r7qS w0 TB HB limit life now tick A n c l H oA on oc RO) 19 #[false,false,false,false,false,false,false,false,false,false,false,false,false,false,false,false,false,false,false] (Fr y117 y118 y119 y120 y121 y122 y123 y124 y125 y126 y127 y128 y129 y130 y131 y132 y133 y134) w:=by
 have H1:=Lib.hid H0
 obtain ⟨HP,⟨u,hF⟩,HQ⟩:=H0
 rw [hF]
 obtain ⟨i0,hi0,hz0,hz1,hz2⟩:=info_parts info7E
 have hn:=HP.out.hn
 have hHeld : (r7qS w0 TB HB limit life now tick A n c l H oA on oc RO) w:=by exact ⟨X.out.cell 1 rfl 7 rfl,X.out.cell 1 rfl 8 rfl,X.out.cell 1 rfl 6 rfl,X.out.cell 1 rfl 1 rfl⟩
 refine' tk (i:=1) rfl ?U10 ?V10
 case U10=>intro w' hSw;go_simp;try (with_reducible rfl)
 try simp only [Act.put,jA,jB,jC]
 refine' tk (i:=4) rfl ?U11 ?V11
 case U11=>intro w' hSw;go_simp;try (with_reducible rfl)
 try simp only [Act.put,jA,jB,jC]
 refine' tk (i:=5) rfl ?U12 ?V12
 case U12=>intro w' hSw;unfold r7qS at hSw;(try dsimp only at hSw);go_simp;try (with_reducible rfl)
 try simp only [Act.put,jA,jB,jC]
 refine' tk (i:=6) rfl ?U13 ?V13
 case U13=>intro w' hSw;go_simp;try (with_reducible rfl)
 try simp only [Act.put,jA,jB,jC]
 refine' tk (i:=7) rfl ?U14 ?V14
 case U14=>intro w' hSw;unfold r7qS at hSw;(try dsimp only at hSw);go_simp;try (with_reducible rfl)
 try simp only [Act.put,jA,jB,jC]
 refine' tk (i:=8) rfl ?U15 ?V15
 case U15=>intro w' hSw;go_simp;try (with_reducible rfl)
 try simp only [Act.put,jA,jB,jC]
 refine' tk (i:=9) rfl ?U16 ?V16
 case U16=>intro w' hSw;unfold r7qS at hSw;(try dsimp only at hSw);go_simp;try (with_reducible rfl)
 try simp only [Act.put,jA,jB,jC]
 refine' tk (i:=10) rfl ?U17 ?V17
 case U17=>intro w' hSw;go_simp;try (with_reducible rfl)
 try simp only [Act.put,jA,jB,jC]
 refine' tk (i:=11) rfl ?U18 ?V18
 case U18=>intro w' hSw;unfold r7qS at hSw;(try dsimp only at hSw);go_simp;try (with_reducible rfl)
 try simp only [Act.put,jA,jB,jC]
 refine' tk (i:=12) rfl ?U19 ?V19
 case U19=>intro w' hSw;go_simp;try (with_reducible rfl)
 try simp only [Act.put,jA,jB,jC]
 refine' tk (i:=13) rfl ?U20 ?V20
 case U20=>intro w' hSw;go_simp;try (with_reducible rfl)
 try simp only [Act.put,jA,jB,jC]
 refine' tk (i:=14) rfl ?U21 ?V21
 case U21=>intro w' hSw;go_simp;try (with_reducible rfl)
 try simp only [Act.put,jA,jB,jC]
 refine rdy [0,2,15] ?_
 refine cons_lit rfl (fun K hK=>?ss0x22) (cons_lit rfl (fun K hK=>?ss2x22) (cons_lit rfl (fun K hK=>?ss15x22) AllReadyH.nil))
 case ss0x22 =>
  go_simp
  obtain ⟨g117,hg117⟩ : ∃ g,g=w.heap.size:=⟨_,rfl⟩
  rw [<- hg117]
  refine nameW' (fun v hv=>?_)
  have Y:=Lib.hid (show SP w0 v ([.blk TB 70 #[.int .i64 limit,.int .i64 life,.int .i64 now,.slice A n c],.blk HB 58 #[.int .u8 H.tos,.int .u16 H.id,.bool H.df,.bool H.mf,.int .i64 H.off,.int .u8 H.ttl,.int .u8 H.proto,.int .u32 H.src,.int .u32 H.dst,.slice oA on oc],.row 125 8 (some ⟨g117,0,none⟩) 0 0 []]++RO) by rw [hv];exact SP.pickT (A:=[_,_,_]) (B:=[_,_,_]) (C:=RO) (SP.rot (X.out.allocRow7 125 8 0 #[] (Nat.zero_le _) rfl hg117.symm)) [1,2,0] rfl (by decide))
  clear hv hg117
  refine hK.out _ _ (by exact ⟨Y.out.cell 1 rfl 7 rfl,Y.out.cell 1 rfl 8 rfl,Y.out.cell 1 rfl 6 rfl,Y.out.cell 1 rfl 1 rfl⟩) (fun hHeld=>?_)
  clear hK K
  try simp only [Act.put,jA,jB,jC]
  rw [<- hF]
  exact r7qs1 H1.out g117 _ Y
 case ss2x22 =>
  have xc:=X.out.cell 0 rfl 3 rfl
  go_simp
  clear xc
  have Y:=X
  refine hK.out _ _ (by exact ⟨Y.out.cell 1 rfl 7 rfl,Y.out.cell 1 rfl 8 rfl,Y.out.cell 1 rfl 6 rfl,Y.out.cell 1 rfl 1 rfl⟩) (fun hHeld=>?_)
  clear hK K
  try simp only [Act.put,jA,jB,jC]
  rw [<- hF]
  exact r7qs9 H1.out  _ Y
 case ss15x22 =>
  go_simp
  obtain ⟨g132,hg132⟩ : ∃ g,g=w.heap.size:=⟨_,rfl⟩
  rw [<- hg132]
  refine nameW' (fun v hv=>?_)
  have Y:=Lib.hid (show SP w0 v ([.blk TB 70 #[.int .i64 limit,.int .i64 life,.int .i64 now,.slice A n c],.blk HB 58 #[.int .u8 H.tos,.int .u16 H.id,.bool H.df,.bool H.mf,.int .i64 H.off,.int .u8 H.ttl,.int .u8 H.proto,.int .u32 H.src,.int .u32 H.dst,.slice oA on oc],.row 125 8 (some ⟨g132,0,none⟩) 1 1 [.int .u32 H.src,.int .u32 H.dst,.int .u8 H.proto,.int .u16 H.id,.int .i64 tick,.int .i64 0,.bool false,.slice none 0 0]]++RO) by rw [hv];exact SP.pickT (A:=[_,_,_]) (B:=[_,_,_]) (C:=RO) (SP.rot (X.out.allocRow7 125 8 1 #[.int .u32 H.src,.int .u32 H.dst,.int .u8 H.proto,.int .u16 H.id,.int .i64 tick,.int .i64 0,.bool false,.slice none 0 0] (by simp [maxLen]) rfl hg132.symm)) [1,2,0] rfl (by decide))
  clear hv hg132
  refine hK.out _ _ (by exact ⟨Y.out.cell 1 rfl 7 rfl,Y.out.cell 1 rfl 8 rfl,Y.out.cell 1 rfl 6 rfl,Y.out.cell 1 rfl 1 rfl⟩) (fun hHeld=>?_)
  clear hK K
  try simp only [Act.put,jA,jB,jC]
  rw [<- hF]
  exact r7qs11 H1.out g132 _ Y
end
set_option maxRecDepth 100000 in
theorem r7q_0 {u0 u2 u4 u5 u6 u7 u8 u10 u11 u12 u13 u14 u15 u16 u17 u18 u19 u20 u21 u22 u23 u24 u25 u26 u27 u28 u29 u30 u31 u32 u33 u34 u35 u36 u37 u38 u39 u40 u41 u42 u43 u44 u45 u46 u47 u48 u49 u50 u51 u52 u53 u54 u55 u56 u57 u58 u59 u60 u61 u62 u63 u64 u65 u66 u67 u68 u69 u70 u71 u72 u73 u74 u75 u76 u77 u78 u79 u80 u81 u82 u83 u84 u85 u86 u87 u88 u89 u90 u91 u92 u93 u94 u95 u96 u97 u98 u99 u100 u101 u102 u103 u104 u105 u106 u107 u108 u109 u110 u111 u112 u113 u114 u115 u116 u117 u118 u119 u120 u121 u122 u123 u124 u125 u126 u127 u128 u129 u130 u131 u132 u133 u134 u135 u136 u137 u138 u139 u140 u141 u142 u143 u144 u145 u146 u147 u148 u149 u150 u151 u152 u153 u154 u155 u156 u157 u158 u159 u160 u161 u162 u163 u164 u165 u166 u167 u168 u169 u170 u171 u172 u173 u174 u175 u176 u177 u178 u179 u180 u181 u182 u183 u184 u185 u186 u187 u188 u189 u190 u191 u192 u193 u194 u195 u196 u197 u198 u199 u200 u201 u202 u203 u204 u205 u206 u207 u208 u209 u210 u211 u212 u213 u214 u215 u216 u217 u218 u219 u220 u221 u222 u223 u224 u225 u226 u227 u228 u229 u230 u231 u232 u233 u234 u235 u236 u237 u238 u239 u240 u241 u242 u243 u244 u245 u246 u247 u248 u249 u250 u251 u252 u253 u254 u255 u256 u257 u258 u259 u260 u261 u262 u263 u264 u265 u266 u267 u268 u269 u270 u271 u272 u273 u274 u275 u276 u277 : Value} {Q : Exit->Act->World->Prop} {w0 : World} {TB HB : Nat} {limit life now tick : Int} {A : Option Addr} {n c : Nat} {l : List EM} {H : HD} {oA : Option Addr} {on oc : Nat} {RO : List IT} (HP : Hid (r7qP w0 TB HB limit life now tick A n c l H oA on oc RO)) (HQ : Hid (∀ (y117 y118 y119 y120 y121 y122 y123 y124 y125 y126 y127 y128 y129 y130 y131 y132 y133 y134 : Value) (g117 : Nat) (A120 : Option Addr) (c120 : Nat) (g132 : Nat) (A133 : Option Addr) (c133 : Nat) (w' : World),SP w0 w' ([.blk TB 70 #[.int .i64 limit,.int .i64 life,.int .i64 now,.slice A133 (n + 1) c133],.blk HB 58 #[.int .u8 H.tos,.int .u16 H.id,.bool H.df,.bool H.mf,.int .i64 H.off,.int .u8 H.ttl,.int .u8 H.proto,.int .u32 H.src,.int .u32 H.dst,.slice oA on oc],.row 125 8 A133 (n + 1) c133 (l.flatMap EM.cells++[.int .u32 H.src,.int .u32 H.dst,.int .u8 H.proto,.int .u16 H.id,.int .i64 tick,.int .i64 0,.bool false,.slice none 0 0])]++RO)->Q .normal ⟨List.toArray (u0::.int .i64 tick::u2::.pointer (some ⟨TB,0,none⟩)::u4::u5::u6::u7::u8::.pointer (some ⟨HB,0,none⟩)::u10::u11::u12::u13::u14::u15::u16::u17::u18::u19::u20::u21::u22::u23::u24::u25::u26::u27::u28::u29::u30::u31::u32::u33::u34::u35::u36::u37::u38::u39::u40::u41::u42::u43::u44::u45::u46::u47::u48::u49::u50::u51::u52::u53::u54::u55::u56::u57::u58::u59::u60::u61::u62::u63::u64::u65::u66::u67::u68::u69::u70::u71::u72::u73::u74::u75::u76::u77::u78::u79::u80::u81::u82::u83::u84::u85::u86::u87::u88::u89::u90::u91::u92::u93::u94::u95::u96::u97::u98::u99::u100::u101::u102::u103::u104::u105::u106::u107::u108::u109::u110::u111::u112::u113::u114::u115::u116::y117::y118::y119::y120::y121::y122::y123::y124::y125::y126::y127::y128::y129::y130::y131::y132::y133::y134::u135::u136::u137::u138::u139::u140::u141::u142::u143::u144::u145::u146::u147::u148::u149::u150::u151::u152::u153::u154::u155::u156::u157::u158::u159::u160::u161::u162::u163::u164::u165::u166::u167::u168::u169::u170::u171::u172::u173::u174::u175::u176::u177::u178::u179::u180::u181::u182::u183::u184::u185::u186::u187::u188::u189::u190::u191::u192::u193::u194::u195::u196::u197::u198::u199::u200::u201::u202::u203::u204::u205::u206::u207::u208::u209::u210::u211::u212::u213::u214::u215::u216::u217::u218::u219::u220::u221::u222::u223::u224::u225::u226::u227::u228::u229::u230::u231::u232::u233::u234::u235::u236::u237::u238::u239::u240::u241::u242::u243::u244::u245::u246::u247::u248::u249::u250::u251::u252::u253::u254::u255::u256::u257::u258::u259::u260::u261::u262::u263::u264::u265::u266::u267::u268::u269::u270::u271::u272::u273::u274::u275::u276::u277::[]),[]⟩ w')) (w : World) (X : Hid (SP w0 w ([.blk TB 70 #[.int .i64 limit,.int .i64 life,.int .i64 now,.slice A n c],.blk HB 58 #[.int .u8 H.tos,.int .u16 H.id,.bool H.df,.bool H.mf,.int .i64 H.off,.int .u8 H.ttl,.int .u8 H.proto,.int .u32 H.src,.int .u32 H.dst,.slice oA on oc]]++RO))) :
 wpAnyH Tryz.prog .any (opsAt Tryz.f27 20) (NoPanic Q) (r7qS w0 TB HB limit life now tick A n c l H oA on oc RO) 19 #[false,false,false,false,false,false,false,false,false,false,false,false,false,false,false,false,false,false,false] ⟨List.toArray (u0::.int .i64 tick::u2::.pointer (some ⟨TB,0,none⟩)::u4::u5::u6::u7::u8::.pointer (some ⟨HB,0,none⟩)::u10::u11::u12::u13::u14::u15::u16::u17::u18::u19::u20::u21::u22::u23::u24::u25::u26::u27::u28::u29::u30::u31::u32::u33::u34::u35::u36::u37::u38::u39::u40::u41::u42::u43::u44::u45::u46::u47::u48::u49::u50::u51::u52::u53::u54::u55::u56::u57::u58::u59::u60::u61::u62::u63::u64::u65::u66::u67::u68::u69::u70::u71::u72::u73::u74::u75::u76::u77::u78::u79::u80::u81::u82::u83::u84::u85::u86::u87::u88::u89::u90::u91::u92::u93::u94::u95::u96::u97::u98::u99::u100::u101::u102::u103::u104::u105::u106::u107::u108::u109::u110::u111::u112::u113::u114::u115::u116::u117::u118::u119::u120::u121::u122::u123::u124::u125::u126::u127::u128::u129::u130::u131::u132::u133::u134::u135::u136::u137::u138::u139::u140::u141::u142::u143::u144::u145::u146::u147::u148::u149::u150::u151::u152::u153::u154::u155::u156::u157::u158::u159::u160::u161::u162::u163::u164::u165::u166::u167::u168::u169::u170::u171::u172::u173::u174::u175::u176::u177::u178::u179::u180::u181::u182::u183::u184::u185::u186::u187::u188::u189::u190::u191::u192::u193::u194::u195::u196::u197::u198::u199::u200::u201::u202::u203::u204::u205::u206::u207::u208::u209::u210::u211::u212::u213::u214::u215::u216::u217::u218::u219::u220::u221::u222::u223::u224::u225::u226::u227::u228::u229::u230::u231::u232::u233::u234::u235::u236::u237::u238::u239::u240::u241::u242::u243::u244::u245::u246::u247::u248::u249::u250::u251::u252::u253::u254::u255::u256::u257::u258::u259::u260::u261::u262::u263::u264::u265::u266::u267::u268::u269::u270::u271::u272::u273::u274::u275::u276::u277::[]),[]⟩ w :=
 r7qs0 (Fr:=(fun y117 y118 y119 y120 y121 y122 y123 y124 y125 y126 y127 y128 y129 y130 y131 y132 y133 y134=>⟨List.toArray (u0::.int .i64 tick::u2::.pointer (some ⟨TB,0,none⟩)::u4::u5::u6::u7::u8::.pointer (some ⟨HB,0,none⟩)::u10::u11::u12::u13::u14::u15::u16::u17::u18::u19::u20::u21::u22::u23::u24::u25::u26::u27::u28::u29::u30::u31::u32::u33::u34::u35::u36::u37::u38::u39::u40::u41::u42::u43::u44::u45::u46::u47::u48::u49::u50::u51::u52::u53::u54::u55::u56::u57::u58::u59::u60::u61::u62::u63::u64::u65::u66::u67::u68::u69::u70::u71::u72::u73::u74::u75::u76::u77::u78::u79::u80::u81::u82::u83::u84::u85::u86::u87::u88::u89::u90::u91::u92::u93::u94::u95::u96::u97::u98::u99::u100::u101::u102::u103::u104::u105::u106::u107::u108::u109::u110::u111::u112::u113::u114::u115::u116::y117::y118::y119::y120::y121::y122::y123::y124::y125::y126::y127::y128::y129::y130::y131::y132::y133::y134::u135::u136::u137::u138::u139::u140::u141::u142::u143::u144::u145::u146::u147::u148::u149::u150::u151::u152::u153::u154::u155::u156::u157::u158::u159::u160::u161::u162::u163::u164::u165::u166::u167::u168::u169::u170::u171::u172::u173::u174::u175::u176::u177::u178::u179::u180::u181::u182::u183::u184::u185::u186::u187::u188::u189::u190::u191::u192::u193::u194::u195::u196::u197::u198::u199::u200::u201::u202::u203::u204::u205::u206::u207::u208::u209::u210::u211::u212::u213::u214::u215::u216::u217::u218::u219::u220::u221::u222::u223::u224::u225::u226::u227::u228::u229::u230::u231::u232::u233::u234::u235::u236::u237::u238::u239::u240::u241::u242::u243::u244::u245::u246::u247::u248::u249::u250::u251::u252::u253::u254::u255::u256::u257::u258::u259::u260::u261::u262::u263::u264::u265::u266::u267::u268::u269::u270::u271::u272::u273::u274::u275::u276::u277::[]),[]⟩)) ⟨HP,⟨fun i=>([u0,undef,u2,undef,u4,u5,u6,u7,u8,undef,u10,u11,u12,u13,u14,u15,u16,u17,u18,u19,u20,u21,u22,u23,u24,u25,u26,u27,u28,u29,u30,u31,u32,u33,u34,u35,u36,u37,u38,u39,u40,u41,u42,u43,u44,u45,u46,u47,u48,u49,u50,u51,u52,u53,u54,u55,u56,u57,u58,u59,u60,u61,u62,u63,u64,u65,u66,u67,u68,u69,u70,u71,u72,u73,u74,u75,u76,u77,u78,u79,u80,u81,u82,u83,u84,u85,u86,u87,u88,u89,u90,u91,u92,u93,u94,u95,u96,u97,u98,u99,u100,u101,u102,u103,u104,u105,u106,u107,u108,u109,u110,u111,u112,u113,u114,u115,u116,u117,u118,u119,u120,u121,u122,u123,u124,u125,u126,u127,u128,u129,u130,u131,u132,u133,u134,u135,u136,u137,u138,u139,u140,u141,u142,u143,u144,u145,u146,u147,u148,u149,u150,u151,u152,u153,u154,u155,u156,u157,u158,u159,u160,u161,u162,u163,u164,u165,u166,u167,u168,u169,u170,u171,u172,u173,u174,u175,u176,u177,u178,u179,u180,u181,u182,u183,u184,u185,u186,u187,u188,u189,u190,u191,u192,u193,u194,u195,u196,u197,u198,u199,u200,u201,u202,u203,u204,u205,u206,u207,u208,u209,u210,u211,u212,u213,u214,u215,u216,u217,u218,u219,u220,u221,u222,u223,u224,u225,u226,u227,u228,u229,u230,u231,u232,u233,u234,u235,u236,u237,u238,u239,u240,u241,u242,u243,u244,u245,u246,u247,u248,u249,u250,u251,u252,u253,u254,u255,u256,u257,u258,u259,u260,u261,u262,u263,u264,u265,u266,u267,u268,u269,u270,u271,u272,u273,u274,u275,u276,u277] : List Value)[i]?.getD undef,fun _ _ _ _ _ _ _ _ _ _ _ _ _ _ _ _ _ _=>rfl⟩,Lib.hid HQ.out⟩ w X
end Go.Proofs.YtljbfnabnkkfeaaGreat
