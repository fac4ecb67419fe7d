import Derived.Test.YtljbfnabnkkfeaaGreatSL17
set_option linter.unusedVariables false
set_option linter.unusedSimpArgs false
/- Joined by program: FgYB. -/
namespace Go.Proofs.YtljbfnabnkkfeaaGreat
open Go.RowKit
attribute [local go_sem ↓] Go.wp_at_zero Go.wp_at_succ
structure r7xP (w0 : World) (HB XB : Nat) (H : HD) (oA : Option Addr) (on oc : Nat) (x : RE) (FA : Option Addr) (fn fc : Nat) (fs : List FM) (bA : Option Addr) (bn bc fr tt : Nat) (SA : Option Addr) (dn dc : Nat) (dz : List Int) (RO : List IT) : Prop where
 fro : ∀ W,SP w0 W RO->FROW W FA fn fs
 rd : ∀ W,SP w0 W RO->RD .u8 W W.heap.size SA dn dz
 sl : ∀ W,(Instr.slice 22 (.slice bA bn bc) (some (.int .i64 (fr : Int))) (some (.int .i64 (tt : Int))) none).run Tryz.prog W = .ok (.slice SA dn dc) W
 hn : fn<=99999
 hd : dn<=65535
def r7xS (w0 : World) (HB XB : Nat) (H : HD) (oA : Option Addr) (on oc : Nat) (x : RE) (FA : Option Addr) (fn fc : Nat) (fs : List FM) (bA : Option Addr) (bn bc fr tt : Nat) (SA : Option Addr) (dn dc : Nat) (dz : List Int) (RO : List IT) : World->Prop:=fun W=>BLOCK W HB 58 #[.int .u8 H.tos,.int .u16 H.id,.bool H.df,.bool H.mf,.int .i64 H.off,.int .u8 H.ttl,.int .u8 H.proto,.int .u32 H.src,.int .u32 H.dst,.slice oA on oc]
set_option maxRecDepth 100000 in
def r7xF (w0 : World) (HB XB : Nat) (H : HD) (oA : Option Addr) (on oc : Nat) (x : RE) (FA : Option Addr) (fn fc : Nat) (fs : List FM) (bA : Option Addr) (bn bc fr tt : Nat) (SA : Option Addr) (dn dc : Nat) (dz : List Int) (RO : List IT) (Fr : Value->Value->Value->Value->Value->Value->Value->Value->Value->Value->Value->Value->Value->Value->Value->Act) : Prop:=∃ u : Nat->Value,∀ y144 y145 y146 y147 y148 y149 y150 y151 y152 y153 y154 y155 y156 y157 y158,Fr y144 y145 y146 y147 y148 y149 y150 y151 y152 y153 y154 y155 y156 y157 y158=⟨List.toArray (u 0::u 1::.slice bA bn bc::u 3::u 4::u 5::u 6::u 7::u 8::.pointer (some ⟨HB,0,none⟩)::.int .i64 (fr : Int)::.int .i64 (tt : Int)::u 12::u 13::u 14::u 15::.pointer (some ⟨XB,0,none⟩)::u 17::u 18::u 19::u 20::u 21::u 22::u 23::u 24::u 25::u 26::u 27::u 28::u 29::u 30::u 31::u 32::u 33::u 34::u 35::u 36::u 37::u 38::u 39::u 40::u 41::u 42::u 43::u 44::u 45::u 46::u 47::u 48::u 49::u 50::u 51::u 52::u 53::u 54::u 55::u 56::u 57::u 58::u 59::u 60::u 61::u 62::u 63::u 64::u 65::u 66::u 67::u 68::u 69::u 70::u 71::u 72::u 73::u 74::u 75::u 76::u 77::u 78::u 79::u 80::u 81::u 82::u 83::u 84::u 85::u 86::u 87::u 88::u 89::u 90::u 91::u 92::u 93::u 94::u 95::u 96::u 97::u 98::u 99::u 100::u 101::u 102::u 103::u 104::u 105::u 106::u 107::u 108::u 109::u 110::u 111::u 112::u 113::u 114::u 115::u 116::u 117::u 118::u 119::u 120::u 121::u 122::u 123::u 124::u 125::u 126::u 127::u 128::u 129::u 130::u 131::u 132::u 133::u 134::u 135::u 136::u 137::u 138::u 139::u 140::u 141::u 142::u 143::y144::y145::y146::y147::y148::y149::y150::y151::y152::y153::y154::y155::y156::y157::y158::u 159::u 160::u 161::u 162::u 163::u 164::u 165::u 166::u 167::u 168::u 169::u 170::u 171::u 172::u 173::u 174::u 175::u 176::u 177::u 178::u 179::u 180::u 181::u 182::u 183::u 184::u 185::u 186::u 187::u 188::u 189::u 190::u 191::u 192::u 193::u 194::u 195::u 196::u 197::u 198::u 199::u 200::u 201::u 202::u 203::u 204::u 205::u 206::u 207::u 208::u 209::u 210::u 211::u 212::u 213::u 214::u 215::u 216::u 217::u 218::u 219::u 220::u 221::u 222::u 223::u 224::u 225::u 226::u 227::u 228::u 229::u 230::u 231::u 232::u 233::u 234::u 235::u 236::u 237::u 238::u 239::u 240::u 241::u 242::u 243::u 244::u 245::u 246::u 247::u 248::u 249::u 250::u 251::u 252::u 253::u 254::u 255::u 256::u 257::u 258::u 259::u 260::u 261::u 262::u 263::u 264::u 265::u 266::u 267::u 268::u 269::u 270::u 271::u 272::u 273::u 274::u 275::u 276::u 277::[]),[]⟩
def r7xR (w0 : World) (HB XB : Nat) (H : HD) (oA : Option Addr) (on oc : Nat) (x : RE) (FA : Option Addr) (fn fc : Nat) (fs : List FM) (bA : Option Addr) (bn bc fr tt : Nat) (SA : Option Addr) (dn dc : Nat) (dz : List Int) (RO : List IT) (Q : Exit->Act->World->Prop) (Fr : Value->Value->Value->Value->Value->Value->Value->Value->Value->Value->Value->Value->Value->Value->Value->Act) : Prop:=∀ (y144 y145 y146 y147 y148 y149 y150 y151 y152 y153 y154 y155 y156 y157 y158 : Value) (g144 : Nat) (A147 : Option Addr) (c147 : Nat) (g149 : Nat) (A154 : Option Addr) (c154 : Nat) (g156 : Nat) (A157 : Option Addr) (c157 : Nat) (w' : World),SP w0 w' ([.blk XB 125 #[.int .u32 x.src,.int .u32 x.dst,.int .u8 x.proto,.int .u16 x.id,.int .i64 x.begin_,.int .i64 (x.bytes : Int),.bool x.dead,.slice A157 (fn + 1) c157],.blk HB 58 #[.int .u8 H.tos,.int .u16 H.id,.bool H.df,.bool H.mf,.int .i64 H.off,.int .u8 H.ttl,.int .u8 H.proto,.int .u32 H.src,.int .u32 H.dst,.slice oA on oc],.row 127 11 A157 (fn + 1) c157 (fs.flatMap FM.cells++[.int .u8 H.tos,.int .u16 H.id,.bool H.df,.bool H.mf,.int .i64 H.off,.int .u8 H.ttl,.int .u8 H.proto,.int .u32 H.src,.int .u32 H.dst,.slice oA on oc,.slice A154 dn c154]),.own .u8 5 A154 dn c154 dz]++RO)->Q .normal (Fr y144 y145 y146 y147 y148 y149 y150 y151 y152 y153 y154 y155 y156 y157 y158) w'
def r7xH (w0 : World) (HB XB : Nat) (H : HD) (oA : Option Addr) (on oc : Nat) (x : RE) (FA : Option Addr) (fn fc : Nat) (fs : List FM) (bA : Option Addr) (bn bc fr tt : Nat) (SA : Option Addr) (dn dc : Nat) (dz : List Int) (RO : List IT) (Q : Exit->Act->World->Prop) (Fr : Value->Value->Value->Value->Value->Value->Value->Value->Value->Value->Value->Value->Value->Value->Value->Act) : Prop:=Hid (r7xP w0 HB XB H oA on oc x FA fn fc fs bA bn bc fr tt SA dn dc dz RO)∧r7xF w0 HB XB H oA on oc x FA fn fc fs bA bn bc fr tt SA dn dc dz RO Fr∧Hid (r7xR w0 HB XB H oA on oc x FA fn fc fs bA bn bc fr tt SA dn dc dz RO Q Fr)
section
variable {Q : Exit->Act->World->Prop} {y144 y145 y146 y147 y148 y149 y150 y151 y152 y153 y154 y155 y156 y157 y158 : Value} {w0 : World} {HB XB : Nat} {H : HD} {oA : Option Addr} {on oc : Nat} {x : RE} {FA : Option Addr} {fn fc : Nat} {fs : List FM} {bA : Option Addr} {bn bc fr tt : Nat} {SA : Option Addr} {dn dc : Nat} {dz : List Int} {RO : List IT} {Fr : Value->Value->Value->Value->Value->Value->Value->Value->Value->Value->Value->Value->Value->Value->Value->Act}
set_option maxHeartbeats 1000000 in
set_option maxRecDepth 100000 in
theorem r7xs8 (H0 : r7xH w0 HB XB H oA on oc x FA fn fc fs bA bn bc fr tt SA dn dc dz RO Q Fr) (g144 : Nat) (A147 : Option Addr) (c147 : Nat) (g149 : Nat) (A154 : Option Addr) (c154 : Nat) (g156 : Nat) (A157 : Option Addr) (c157 : Nat) (w : World) (X : Hid (SP w0 w ([.blk XB 125 #[.int .u32 x.src,.int .u32 x.dst,.int .u8 x.proto,.int .u16 x.id,.int .i64 x.begin_,.int .i64 (x.bytes : Int),.bool x.dead,.slice A157 (fn + 1) c157],.blk HB 58 #[.int .u8 H.tos,.int .u16 H.id,.bool H.df,.bool H.mf,.int .i64 H.off,.int .u8 H.ttl,.int .u8 H.proto,.int .u32 H.src,.int .u32 H.dst,.slice oA on oc],.row 127 11 A157 (fn + 1) c157 (fs.flatMap FM.cells++[.int .u8 H.tos,.int .u16 H.id,.bool H.df,.bool H.mf,.int .i64 H.off,.int .u8 H.ttl,.int .u8 H.proto,.int .u32 H.src,.int .u32 H.dst,.slice oA on oc,.slice A154 dn c154]),.own .u8 5 A154 dn c154 dz]++RO))) :
 wpAnyH Tryz.prog .any (opsAt Tryz.f27 24) (NoPanic Q) (r7xS w0 HB XB H oA on oc x FA fn fc fs bA bn bc fr tt SA dn dc dz RO) 0 #[true,true,true,true,true,true,true,true,true,true,true,true,true,true,true,true] (Fr y144 y145 y146 y147 y148 y149 y150 y151 y152 y153 y154 y155 y156 y157 y158) w:=by
 have H1:=Lib.hid H0
 obtain ⟨HP,⟨u,hF⟩,HQ⟩:=H0
 rw [hF]
 obtain ⟨i1,hi1,hx0,hx1,hx2⟩:=info_parts info7F
 obtain ⟨i2,hi2,hv0,hv1,hv2⟩:=info_parts infoU8
 have hn:=HP.out.hn
 have hd:=HP.out.hd
 have s1:=HP.out.sl
 have hHeld : (r7xS w0 HB XB H oA on oc x FA fn fc fs bA bn bc fr tt SA dn dc dz RO) w:=by exact X.out.blk 1 rfl
 refine wpAnyH_done (by kernel_rfl) ?_ _
 refine NoPanic.normal ?_
 rw [<- hF]
 exact HQ.out _ _ _ _ _ _ _ _ _ _ _ _ _ _ _ g144 A147 c147 g149 A154 c154 g156 A157 c157 _ X.out
set_option maxHeartbeats 1000000 in
set_option maxRecDepth 100000 in
theorem r7xs7 (H0 : r7xH w0 HB XB H oA on oc x FA fn fc fs bA bn bc fr tt SA dn dc dz RO Q Fr) (g144 : Nat) (A147 : Option Addr) (c147 : Nat) (g149 : Nat) (A154 : Option Addr) (c154 : Nat) (g156 : Nat) (A157 : Option Addr) (c157 : Nat) (w : World) (X : Hid (SP w0 w ([.blk XB 125 #[.int .u32 x.src,.int .u32 x.dst,.int .u8 x.proto,.int .u16 x.id,.int .i64 x.begin_,.int .i64 (x.bytes : Int),.bool x.dead,.slice FA fn fc],.blk HB 58 #[.int .u8 H.tos,.int .u16 H.id,.bool H.df,.bool H.mf,.int .i64 H.off,.int .u8 H.ttl,.int .u8 H.proto,.int .u32 H.src,.int .u32 H.dst,.slice oA on oc],.row 127 11 A157 (fn + 1) c157 (fs.flatMap FM.cells++[.int .u8 H.tos,.int .u16 H.id,.bool H.df,.bool H.mf,.int .i64 H.off,.int .u8 H.ttl,.int .u8 H.proto,.int .u32 H.src,.int .u32 H.dst,.slice oA on oc,.slice A154 dn c154]),.own .u8 5 A154 dn c154 dz]++RO))) :
 wpAnyH Tryz.prog .any (opsAt Tryz.f27 24) (NoPanic Q) (r7xS w0 HB XB H oA on oc x FA fn fc fs bA bn bc fr tt SA dn dc dz RO) 1 #[true,true,true,true,true,true,true,true,true,true,true,true,true,true,true,false] (Fr y144 y145 y146 y147 y148 y149 y150 y151 y152 y153 y154 y155 y156 (.slice A157 (fn + 1) c157) (.pointer (some ⟨XB,7,none⟩))) w:=by
 have H1:=Lib.hid H0
 obtain ⟨HP,⟨u,hF⟩,HQ⟩:=H0
 rw [hF]
 obtain ⟨i1,hi1,hx0,hx1,hx2⟩:=info_parts info7F
 obtain ⟨i2,hi2,hv0,hv1,hv2⟩:=info_parts infoU8
 have hn:=HP.out.hn
 have hd:=HP.out.hd
 have s1:=HP.out.sl
 have hHeld : (r7xS w0 HB XB H oA on oc x FA fn fc fs bA bn bc fr tt SA dn dc dz RO) w:=by exact X.out.blk 1 rfl
 refine rdy [15] ?_
 refine cons_lit rfl (fun K hK=>?ss15x49) AllReadyH.nil
 case ss15x49 =>
  have xc:=X.out.cell 0 rfl 7 rfl
  have xf:=X.out.free 0 rfl 7
  go_simp
  clear xc xf
  refine nameW' (fun v hv=>?_)
  have Y:=Lib.hid (show SP w0 v ([.blk XB 125 #[.int .u32 x.src,.int .u32 x.dst,.int .u8 x.proto,.int .u16 x.id,.int .i64 x.begin_,.int .i64 (x.bytes : Int),.bool x.dead,.slice A157 (fn + 1) c157],.blk HB 58 #[.int .u8 H.tos,.int .u16 H.id,.bool H.df,.bool H.mf,.int .i64 H.off,.int .u8 H.ttl,.int .u8 H.proto,.int .u32 H.src,.int .u32 H.dst,.slice oA on oc],.row 127 11 A157 (fn + 1) c157 (fs.flatMap FM.cells++[.int .u8 H.tos,.int .u16 H.id,.bool H.df,.bool H.mf,.int .i64 H.off,.int .u8 H.ttl,.int .u8 H.proto,.int .u32 H.src,.int .u32 H.dst,.slice oA on oc,.slice A154 dn c154]),.own .u8 5 A154 dn c154 dz]++RO) by rw [hv];exact SP.pickT (A:=[_,_,_,_]) (B:=[_,_,_,_]) (C:=RO) (X.out.setB 0 rfl 7 (.slice A157 (fn + 1) c157)) [0,1,2,3] rfl (by decide))
  clear hv
  refine hK.out _ _ (by exact Y.out.blk 1 rfl) (fun hHeld=>?_)
  clear hK K
  try simp only [Act.put,jA,jB,jC]
  rw [<- hF]
  exact r7xs8 H1.out g144 A147 c147 g149 A154 c154 g156 A157 c157 _ Y
set_option maxHeartbeats 1000000 in
set_option maxRecDepth 100000 in
theorem r7xs6 (H0 : r7xH w0 HB XB H oA on oc x FA fn fc fs bA bn bc fr tt SA dn dc dz RO Q Fr) (g144 : Nat) (A147 : Option Addr) (c147 : Nat) (g149 : Nat) (A154 : Option Addr) (c154 : Nat) (g156 : Nat) (w : World) (X : Hid (SP w0 w ([.blk XB 125 #[.int .u32 x.src,.int .u32 x.dst,.int .u8 x.proto,.int .u16 x.id,.int .i64 x.begin_,.int .i64 (x.bytes : Int),.bool x.dead,.slice FA fn fc],.blk HB 58 #[.int .u8 H.tos,.int .u16 H.id,.bool H.df,.bool H.mf,.int .i64 H.off,.int .u8 H.ttl,.int .u8 H.proto,.int .u32 H.src,.int .u32 H.dst,.slice oA on oc],.row 127 11 A147 fn c147 (fs.flatMap FM.cells),.own .u8 5 A154 dn c154 dz,.row 127 11 (some ⟨g156,0,none⟩) 1 1 [.int .u8 H.tos,.int .u16 H.id,.bool H.df,.bool H.mf,.int .i64 H.off,.int .u8 H.ttl,.int .u8 H.proto,.int .u32 H.src,.int .u32 H.dst,.slice oA on oc,.slice A154 dn c154]]++RO))) :
 wpAnyH Tryz.prog .any (opsAt Tryz.f27 24) (NoPanic Q) (r7xS w0 HB XB H oA on oc x FA fn fc fs bA bn bc fr tt SA dn dc dz RO) 3 #[true,true,true,true,true,true,true,true,true,true,true,true,true,false,false,false] (Fr y144 y145 y146 (.slice A147 fn c147) y148 y149 y150 y151 y152 y153 y154 y155 (.slice (some ⟨g156,0,none⟩) 1 1) y157 y158) w:=by
 have H1:=Lib.hid H0
 obtain ⟨HP,⟨u,hF⟩,HQ⟩:=H0
 rw [hF]
 obtain ⟨i1,hi1,hx0,hx1,hx2⟩:=info_parts info7F
 obtain ⟨i2,hi2,hv0,hv1,hv2⟩:=info_parts infoU8
 have hn:=HP.out.hn
 have hd:=HP.out.hd
 have s1:=HP.out.sl
 have hHeld : (r7xS w0 HB XB H oA on oc x FA fn fc fs bA bn bc fr tt SA dn dc dz RO) w:=by exact X.out.blk 1 rfl
 refine rdy [13] ?_
 refine cons_lit rfl (fun K hK=>?ss13x47) AllReadyH.nil
 case ss13x47 =>
  refine step_append_rowO _ (by rfl) _ _ 123 (by rfl) w0.heap.size 127 i1 _ 11 80 Tryz.underlying123 hi1 hx0 hx1 hx2 (by rfl) (by decide) A147 (fn) c147 (fs.flatMap FM.cells) (by rfl) (by exact X.out.row 2 rfl) (some ⟨g156,0,none⟩) (1) (1) ([.int .u8 H.tos,.int .u16 H.id,.bool H.df,.bool H.mf,.int .i64 H.off,.int .u8 H.ttl,.int .u8 H.proto,.int .u32 H.src,.int .u32 H.dst,.slice oA on oc,.slice A154 dn c154]) (by rfl) (by rfl) (row_news (X.out.row 4 rfl)) (by intro u hu;simp at hu;rcases hu with rfl | rfl | rfl | rfl | rfl | rfl | rfl | rfl | rfl | rfl | rfl <;> rfl) (by simp only [maxLen];omega) (by omega) X.out.size ?_
  intro A157 c157 v hrow hgrow hat
  have Y:=Lib.hid (show SP w0 v ([.blk XB 125 #[.int .u32 x.src,.int .u32 x.dst,.int .u8 x.proto,.int .u16 x.id,.int .i64 x.begin_,.int .i64 (x.bytes : Int),.bool x.dead,.slice FA fn fc],.blk HB 58 #[.int .u8 H.tos,.int .u16 H.id,.bool H.df,.bool H.mf,.int .i64 H.off,.int .u8 H.ttl,.int .u8 H.proto,.int .u32 H.src,.int .u32 H.dst,.slice oA on oc],.row 127 11 A157 (fn + 1) c157 (fs.flatMap FM.cells++[.int .u8 H.tos,.int .u16 H.id,.bool H.df,.bool H.mf,.int .i64 H.off,.int .u8 H.ttl,.int .u8 H.proto,.int .u32 H.src,.int .u32 H.dst,.slice oA on oc,.slice A154 dn c154]),.own .u8 5 A154 dn c154 dz]++RO) from SP.pickT (A:=[_,_,_,_,_]) (B:=[_,_,_,_]) (C:=RO) (X.out.appRow 2 rfl hrow hgrow hat) [0,1,2,3] rfl (by decide))
  clear hrow hgrow hat
  refine hK.out _ _ (by exact Y.out.blk 1 rfl) (fun hHeld=>?_)
  clear hK K
  try simp only [Act.put,jA,jB,jC]
  refine' tk (i:=14) rfl ?U48 ?V48
  case U48=>intro w' hSw;go_simp;try (with_reducible rfl)
  try simp only [Act.put,jA,jB,jC]
  rw [<- hF]
  exact r7xs7 H1.out g144 A147 c147 g149 A154 c154 g156 A157 c157 _ Y
set_option maxHeartbeats 1000000 in
set_option maxRecDepth 100000 in
theorem r7xs5 (H0 : r7xH w0 HB XB H oA on oc x FA fn fc fs bA bn bc fr tt SA dn dc dz RO Q Fr) (g144 : Nat) (A147 : Option Addr) (c147 : Nat) (g149 : Nat) (A154 : Option Addr) (c154 : Nat) (w : World) (X : Hid (SP w0 w ([.blk XB 125 #[.int .u32 x.src,.int .u32 x.dst,.int .u8 x.proto,.int .u16 x.id,.int .i64 x.begin_,.int .i64 (x.bytes : Int),.bool x.dead,.slice FA fn fc],.blk HB 58 #[.int .u8 H.tos,.int .u16 H.id,.bool H.df,.bool H.mf,.int .i64 H.off,.int .u8 H.ttl,.int .u8 H.proto,.int .u32 H.src,.int .u32 H.dst,.slice oA on oc],.row 127 11 A147 fn c147 (fs.flatMap FM.cells),.own .u8 5 A154 dn c154 dz]++RO))) :
 wpAnyH Tryz.prog .any (opsAt Tryz.f27 24) (NoPanic Q) (r7xS w0 HB XB H oA on oc x FA fn fc fs bA bn bc fr tt SA dn dc dz RO) 4 #[true,true,true,true,true,true,true,true,true,true,true,true,false,false,false,false] (Fr y144 y145 y146 (.slice A147 fn c147) y148 y149 y150 y151 y152 y153 y154 (.agg #[.int .u8 H.tos,.int .u16 H.id,.bool H.df,.bool H.mf,.int .i64 H.off,.int .u8 H.ttl,.int .u8 H.proto,.int .u32 H.src,.int .u32 H.dst,.slice oA on oc,.slice A154 dn c154]) y156 y157 y158) w:=by
 have H1:=Lib.hid H0
 obtain ⟨HP,⟨u,hF⟩,HQ⟩:=H0
 rw [hF]
 obtain ⟨i1,hi1,hx0,hx1,hx2⟩:=info_parts info7F
 obtain ⟨i2,hi2,hv0,hv1,hv2⟩:=info_parts infoU8
 have hn:=HP.out.hn
 have hd:=HP.out.hd
 have s1:=HP.out.sl
 have hHeld : (r7xS w0 HB XB H oA on oc x FA fn fc fs bA bn bc fr tt SA dn dc dz RO) w:=by exact X.out.blk 1 rfl
 refine rdy [12] ?_
 refine cons_lit rfl (fun K hK=>?ss12x46) AllReadyH.nil
 case ss12x46 =>
  go_simp
  obtain ⟨g156,hg156⟩ : ∃ g,g=w.heap.size:=⟨_,rfl⟩
  rw [<- hg156]
  refine nameW' (fun v hv=>?_)
  have Y:=Lib.hid (show SP w0 v ([.blk XB 125 #[.int .u32 x.src,.int .u32 x.dst,.int .u8 x.proto,.int .u16 x.id,.int .i64 x.begin_,.int .i64 (x.bytes : Int),.bool x.dead,.slice FA fn fc],.blk HB 58 #[.int .u8 H.tos,.int .u16 H.id,.bool H.df,.bool H.mf,.int .i64 H.off,.int .u8 H.ttl,.int .u8 H.proto,.int .u32 H.src,.int .u32 H.dst,.slice oA on oc],.row 127 11 A147 fn c147 (fs.flatMap FM.cells),.own .u8 5 A154 dn c154 dz,.row 127 11 (some ⟨g156,0,none⟩) 1 1 [.int .u8 H.tos,.int .u16 H.id,.bool H.df,.bool H.mf,.int .i64 H.off,.int .u8 H.ttl,.int .u8 H.proto,.int .u32 H.src,.int .u32 H.dst,.slice oA on oc,.slice A154 dn c154]]++RO) by rw [hv];exact SP.pickT (A:=[_,_,_,_,_]) (B:=[_,_,_,_,_]) (C:=RO) (SP.rot (X.out.allocRow7 127 11 1 #[.int .u8 H.tos,.int .u16 H.id,.bool H.df,.bool H.mf,.int .i64 H.off,.int .u8 H.ttl,.int .u8 H.proto,.int .u32 H.src,.int .u32 H.dst,.slice oA on oc,.slice A154 dn c154] (by simp [maxLen]) rfl hg156.symm)) [1,2,3,4,0] rfl (by decide))
  clear hv hg156
  refine hK.out _ _ (by exact Y.out.blk 1 rfl) (fun hHeld=>?_)
  clear hK K
  try simp only [Act.put,jA,jB,jC]
  rw [<- hF]
  exact r7xs6 H1.out g144 A147 c147 g149 A154 c154 g156 _ Y
set_option maxHeartbeats 1000000 in
set_option maxRecDepth 100000 in
theorem r7xs4 (H0 : r7xH w0 HB XB H oA on oc x FA fn fc fs bA bn bc fr tt SA dn dc dz RO Q Fr) (g144 : Nat) (A147 : Option Addr) (c147 : Nat) (g149 : Nat) (w : World) (X : Hid (SP w0 w ([.blk XB 125 #[.int .u32 x.src,.int .u32 x.dst,.int .u8 x.proto,.int .u16 x.id,.int .i64 x.begin_,.int .i64 (x.bytes : Int),.bool x.dead,.slice FA fn fc],.blk HB 58 #[.int .u8 H.tos,.int .u16 H.id,.bool H.df,.bool H.mf,.int .i64 H.off,.int .u8 H.ttl,.int .u8 H.proto,.int .u32 H.src,.int .u32 H.dst,.slice oA on oc],.row 127 11 A147 fn c147 (fs.flatMap FM.cells),.own .u8 5 (some ⟨g149,0,none⟩) 0 0 []]++RO))) :
 wpAnyH Tryz.prog .any (opsAt Tryz.f27 24) (NoPanic Q) (r7xS w0 HB XB H oA on oc x FA fn fc fs bA bn bc fr tt SA dn dc dz RO) 6 #[true,true,true,true,true,true,true,true,true,true,false,false,false,false,false,false] (Fr y144 y145 y146 (.slice A147 fn c147) (.agg #[.int .u8 H.tos,.int .u16 H.id,.bool H.df,.bool H.mf,.int .i64 H.off,.int .u8 H.ttl,.int .u8 H.proto,.int .u32 H.src,.int .u32 H.dst,.slice oA on oc]) (.slice (some ⟨g149,0,none⟩) 0 0) y150 y151 y152 (.slice SA dn dc) y154 y155 y156 y157 y158) w:=by
 have H1:=Lib.hid H0
 obtain ⟨HP,⟨u,hF⟩,HQ⟩:=H0
 rw [hF]
 obtain ⟨i1,hi1,hx0,hx1,hx2⟩:=info_parts info7F
 obtain ⟨i2,hi2,hv0,hv1,hv2⟩:=info_parts infoU8
 have hn:=HP.out.hn
 have hd:=HP.out.hd
 have s1:=HP.out.sl
 have hHeld : (r7xS w0 HB XB H oA on oc x FA fn fc fs bA bn bc fr tt SA dn dc dz RO) w:=by exact X.out.blk 1 rfl
 refine rdy [10] ?_
 refine cons_lit rfl (fun K hK=>?ss10x44) AllReadyH.nil
 case ss10x44 =>
  refine step_append_rd _ (by rfl) _ _ 22 (by rfl) .u8 w0.heap.size 5 i2 1 Tryz.underlying22 hi2 hv0 hv1 hv2 (some ⟨g149,0,none⟩) (0) 0 ([]) (by rfl) (by exact X.out.own 3 rfl) _ SA (dn) (dc) (dz) (by rfl) (HP.out.rd _ X.out.right) (by simp only [maxLen];omega) (by omega) X.out.size ?_
  intro A154 c154 v happ
  rw [Nat.zero_add,List.nil_append] at happ
  rw [Nat.zero_add]
  have Y:=Lib.hid (show SP w0 v ([.blk XB 125 #[.int .u32 x.src,.int .u32 x.dst,.int .u8 x.proto,.int .u16 x.id,.int .i64 x.begin_,.int .i64 (x.bytes : Int),.bool x.dead,.slice FA fn fc],.blk HB 58 #[.int .u8 H.tos,.int .u16 H.id,.bool H.df,.bool H.mf,.int .i64 H.off,.int .u8 H.ttl,.int .u8 H.proto,.int .u32 H.src,.int .u32 H.dst,.slice oA on oc],.row 127 11 A147 fn c147 (fs.flatMap FM.cells),.own .u8 5 A154 dn c154 dz]++RO) from SP.pickT (A:=[_,_,_,_]) (B:=[_,_,_,_]) (C:=RO) (X.out.app 3 rfl happ) [0,1,2,3] rfl (by decide))
  clear happ
  refine hK.out _ _ (by exact Y.out.blk 1 rfl) (fun hHeld=>?_)
  clear hK K
  try simp only [Act.put,jA,jB,jC]
  refine' tk (i:=11) rfl ?U45 ?V45
  case U45=>intro w' hSw;go_simp;try (with_reducible rfl)
  try simp only [Act.put,jA,jB,jC]
  rw [<- hF]
  exact r7xs5 H1.out g144 A147 c147 g149 A154 c154 _ Y
set_option maxHeartbeats 1000000 in
set_option maxRecDepth 100000 in
theorem r7xs3 (H0 : r7xH w0 HB XB H oA on oc x FA fn fc fs bA bn bc fr tt SA dn dc dz RO Q Fr) (g144 : Nat) (A147 : Option Addr) (c147 : Nat) (w : World) (X : Hid (SP w0 w ([.blk XB 125 #[.int .u32 x.src,.int .u32 x.dst,.int .u8 x.proto,.int .u16 x.id,.int .i64 x.begin_,.int .i64 (x.bytes : Int),.bool x.dead,.slice FA fn fc],.blk HB 58 #[.int .u8 H.tos,.int .u16 H.id,.bool H.df,.bool H.mf,.int .i64 H.off,.int .u8 H.ttl,.int .u8 H.proto,.int .u32 H.src,.int .u32 H.dst,.slice oA on oc],.row 127 11 A147 fn c147 (fs.flatMap FM.cells)]++RO))) :
 wpAnyH Tryz.prog .any (opsAt Tryz.f27 24) (NoPanic Q) (r7xS w0 HB XB H oA on oc x FA fn fc fs bA bn bc fr tt SA dn dc dz RO) 7 #[true,true,true,true,true,false,true,true,true,true,false,false,false,false,false,false] (Fr y144 y145 y146 (.slice A147 fn c147) (.agg #[.int .u8 H.tos,.int .u16 H.id,.bool H.df,.bool H.mf,.int .i64 H.off,.int .u8 H.ttl,.int .u8 H.proto,.int .u32 H.src,.int .u32 H.dst,.slice oA on oc]) y149 y150 y151 y152 (.slice SA dn dc) y154 y155 y156 y157 y158) w:=by
 have H1:=Lib.hid H0
 obtain ⟨HP,⟨u,hF⟩,HQ⟩:=H0
 rw [hF]
 obtain ⟨i1,hi1,hx0,hx1,hx2⟩:=info_parts info7F
 obtain ⟨i2,hi2,hv0,hv1,hv2⟩:=info_parts infoU8
 have hn:=HP.out.hn
 have hd:=HP.out.hd
 have s1:=HP.out.sl
 have hHeld : (r7xS w0 HB XB H oA on oc x FA fn fc fs bA bn bc fr tt SA dn dc dz RO) w:=by exact X.out.blk 1 rfl
 refine rdy [5] ?_
 refine cons_lit rfl (fun K hK=>?ss5x43) AllReadyH.nil
 case ss5x43 =>
  go_simp
  obtain ⟨g149,hg149⟩ : ∃ g,g=w.heap.size:=⟨_,rfl⟩
  rw [<- hg149]
  refine nameW' (fun v hv=>?_)
  have Y:=Lib.hid (show SP w0 v ([.blk XB 125 #[.int .u32 x.src,.int .u32 x.dst,.int .u8 x.proto,.int .u16 x.id,.int .i64 x.begin_,.int .i64 (x.bytes : Int),.bool x.dead,.slice FA fn fc],.blk HB 58 #[.int .u8 H.tos,.int .u16 H.id,.bool H.df,.bool H.mf,.int .i64 H.off,.int .u8 H.ttl,.int .u8 H.proto,.int .u32 H.src,.int .u32 H.dst,.slice oA on oc],.row 127 11 A147 fn c147 (fs.flatMap FM.cells),.own .u8 5 (some ⟨g149,0,none⟩) 0 0 []]++RO) by rw [hv];exact SP.pickT (A:=[_,_,_,_]) (B:=[_,_,_,_]) (C:=RO) (SP.rot (X.out.allocI' .u8 5 [] (Nat.zero_le _) hg149.symm)) [1,2,3,0] rfl (by decide))
  clear hv hg149
  refine hK.out _ _ (by exact Y.out.blk 1 rfl) (fun hHeld=>?_)
  clear hK K
  try simp only [Act.put,jA,jB,jC]
  rw [<- hF]
  exact r7xs4 H1.out g144 A147 c147 g149 _ Y
set_option maxHeartbeats 1000000 in
set_option maxRecDepth 100000 in
theorem r7xs9 (H0 : r7xH w0 HB XB H oA on oc x FA fn fc fs bA bn bc fr tt SA dn dc dz RO Q Fr) (g144 : Nat) (g149 : Nat) (w : World) (X : Hid (SP w0 w ([.blk XB 125 #[.int .u32 x.src,.int .u32 x.dst,.int .u8 x.proto,.int .u16 x.id,.int .i64 x.begin_,.int .i64 (x.bytes : Int),.bool x.dead,.slice FA fn fc],.blk HB 58 #[.int .u8 H.tos,.int .u16 H.id,.bool H.df,.bool H.mf,.int .i64 H.off,.int .u8 H.ttl,.int .u8 H.proto,.int .u32 H.src,.int .u32 H.dst,.slice oA on oc],.row 127 11 (some ⟨g144,0,none⟩) 0 0 [],.own .u8 5 (some ⟨g149,0,none⟩) 0 0 []]++RO))) :
 wpAnyH Tryz.prog .any (opsAt Tryz.f27 24) (NoPanic Q) (r7xS w0 HB XB H oA on oc x FA fn fc fs bA bn bc fr tt SA dn dc dz RO) 7 #[true,true,true,false,true,true,true,true,true,true,false,false,false,false,false,false] (Fr (.slice (some ⟨g144,0,none⟩) 0 0) y145 (.slice FA fn fc) y147 (.agg #[.int .u8 H.tos,.int .u16 H.id,.bool H.df,.bool H.mf,.int .i64 H.off,.int .u8 H.ttl,.int .u8 H.proto,.int .u32 H.src,.int .u32 H.dst,.slice oA on oc]) (.slice (some ⟨g149,0,none⟩) 0 0) y150 y151 y152 (.slice SA dn dc) y154 y155 y156 y157 y158) w:=by
 have H1:=Lib.hid H0
 obtain ⟨HP,⟨u,hF⟩,HQ⟩:=H0
 rw [hF]
 obtain ⟨i1,hi1,hx0,hx1,hx2⟩:=info_parts info7F
 obtain ⟨i2,hi2,hv0,hv1,hv2⟩:=info_parts infoU8
 have hn:=HP.out.hn
 have hd:=HP.out.hd
 have s1:=HP.out.sl
 have hHeld : (r7xS w0 HB XB H oA on oc x FA fn fc fs bA bn bc fr tt SA dn dc dz RO) w:=by exact X.out.blk 1 rfl
 refine rdy [3] ?_
 refine cons_lit rfl (fun K hK=>?ss3x50) AllReadyH.nil
 case ss3x50 =>
  refine step_append_rowO _ (by rfl) _ _ 123 (by rfl) w0.heap.size 127 i1 _ 11 80 Tryz.underlying123 hi1 hx0 hx1 hx2 (by rfl) (by decide) (some ⟨g144,0,none⟩) (0) 0 ([]) (by rfl) (by exact X.out.row 2 rfl) FA (fn) (fc) (fs.flatMap FM.cells) (by rfl) (by rw [flat_len FM.cells 11 fm_len,(HP.out.fro _ X.out.right).len]) ((HP.out.fro _ X.out.right).news) (fms_one fs) (by simp only [maxLen];omega) (by omega) X.out.size ?_
  intro A147 c147 v hrow hgrow hat
  rw [Nat.zero_add] at hrow ⊢
  rw [List.nil_append] at hrow
  have Y:=Lib.hid (show SP w0 v ([.blk XB 125 #[.int .u32 x.src,.int .u32 x.dst,.int .u8 x.proto,.int .u16 x.id,.int .i64 x.begin_,.int .i64 (x.bytes : Int),.bool x.dead,.slice FA fn fc],.blk HB 58 #[.int .u8 H.tos,.int .u16 H.id,.bool H.df,.bool H.mf,.int .i64 H.off,.int .u8 H.ttl,.int .u8 H.proto,.int .u32 H.src,.int .u32 H.dst,.slice oA on oc],.row 127 11 A147 fn c147 (fs.flatMap FM.cells),.own .u8 5 (some ⟨g149,0,none⟩) 0 0 []]++RO) from SP.pickT (A:=[_,_,_,_]) (B:=[_,_,_,_]) (C:=RO) (X.out.appRow 2 rfl hrow hgrow hat) [0,1,2,3] rfl (by decide))
  clear hrow hgrow hat
  refine hK.out _ _ (by exact Y.out.blk 1 rfl) (fun hHeld=>?_)
  clear hK K
  try simp only [Act.put,jA,jB,jC]
  rw [<- hF]
  exact r7xs4 H1.out g144 A147 c147 g149 _ Y
set_option maxHeartbeats 1000000 in
set_option maxRecDepth 100000 in
theorem r7xs2 (H0 : r7xH w0 HB XB H oA on oc x FA fn fc fs bA bn bc fr tt SA dn dc dz RO Q Fr) (g144 : Nat) (w : World) (X : Hid (SP w0 w ([.blk XB 125 #[.int .u32 x.src,.int .u32 x.dst,.int .u8 x.proto,.int .u16 x.id,.int .i64 x.begin_,.int .i64 (x.bytes : Int),.bool x.dead,.slice FA fn fc],.blk HB 58 #[.int .u8 H.tos,.int .u16 H.id,.bool H.df,.bool H.mf,.int .i64 H.off,.int .u8 H.ttl,.int .u8 H.proto,.int .u32 H.src,.int .u32 H.dst,.slice oA on oc],.row 127 11 (some ⟨g144,0,none⟩) 0 0 []]++RO))) :
 wpAnyH Tryz.prog .any (opsAt Tryz.f27 24) (NoPanic Q) (r7xS w0 HB XB H oA on oc x FA fn fc fs bA bn bc fr tt SA dn dc dz RO) 8 #[true,true,true,false,true,false,true,true,true,true,false,false,false,false,false,false] (Fr (.slice (some ⟨g144,0,none⟩) 0 0) y145 (.slice FA fn fc) y147 (.agg #[.int .u8 H.tos,.int .u16 H.id,.bool H.df,.bool H.mf,.int .i64 H.off,.int .u8 H.ttl,.int .u8 H.proto,.int .u32 H.src,.int .u32 H.dst,.slice oA on oc]) y149 y150 y151 y152 (.slice SA dn dc) y154 y155 y156 y157 y158) w:=by
 have H1:=Lib.hid H0
 obtain ⟨HP,⟨u,hF⟩,HQ⟩:=H0
 rw [hF]
 obtain ⟨i1,hi1,hx0,hx1,hx2⟩:=info_parts info7F
 obtain ⟨i2,hi2,hv0,hv1,hv2⟩:=info_parts infoU8
 have hn:=HP.out.hn
 have hd:=HP.out.hd
 have s1:=HP.out.sl
 have hHeld : (r7xS w0 HB XB H oA on oc x FA fn fc fs bA bn bc fr tt SA dn dc dz RO) w:=by exact X.out.blk 1 rfl
 refine rdy [3,5] ?_
 refine cons_lit rfl (fun K hK=>?ss3x42) (cons_lit rfl (fun K hK=>?ss5x42) AllReadyH.nil)
 case ss3x42 =>
  refine step_append_rowO _ (by rfl) _ _ 123 (by rfl) w0.heap.size 127 i1 _ 11 80 Tryz.underlying123 hi1 hx0 hx1 hx2 (by rfl) (by decide) (some ⟨g144,0,none⟩) (0) 0 ([]) (by rfl) (by exact X.out.row 2 rfl) FA (fn) (fc) (fs.flatMap FM.cells) (by rfl) (by rw [flat_len FM.cells 11 fm_len,(HP.out.fro _ X.out.right).len]) ((HP.out.fro _ X.out.right).news) (fms_one fs) (by simp only [maxLen];omega) (by omega) X.out.size ?_
  intro A147 c147 v hrow hgrow hat
  rw [Nat.zero_add] at hrow ⊢
  rw [List.nil_append] at hrow
  have Y:=Lib.hid (show SP w0 v ([.blk XB 125 #[.int .u32 x.src,.int .u32 x.dst,.int .u8 x.proto,.int .u16 x.id,.int .i64 x.begin_,.int .i64 (x.bytes : Int),.bool x.dead,.slice FA fn fc],.blk HB 58 #[.int .u8 H.tos,.int .u16 H.id,.bool H.df,.bool H.mf,.int .i64 H.off,.int .u8 H.ttl,.int .u8 H.proto,.int .u32 H.src,.int .u32 H.dst,.slice oA on oc],.row 127 11 A147 fn c147 (fs.flatMap FM.cells)]++RO) from SP.pickT (A:=[_,_,_]) (B:=[_,_,_]) (C:=RO) (X.out.appRow 2 rfl hrow hgrow hat) [0,1,2] rfl (by decide))
  clear hrow hgrow hat
  refine hK.out _ _ (by exact Y.out.blk 1 rfl) (fun hHeld=>?_)
  clear hK K
  try simp only [Act.put,jA,jB,jC]
  rw [<- hF]
  exact r7xs3 H1.out g144 A147 c147 _ Y
 case ss5x42 =>
  go_simp
  obtain ⟨g149,hg149⟩ : ∃ g,g=w.heap.size:=⟨_,rfl⟩
  rw [<- hg149]
  refine nameW' (fun v hv=>?_)
  have Y:=Lib.hid (show SP w0 v ([.blk XB 125 #[.int .u32 x.src,.int .u32 x.dst,.int .u8 x.proto,.int .u16 x.id,.int .i64 x.begin_,.int .i64 (x.bytes : Int),.bool x.dead,.slice FA fn fc],.blk HB 58 #[.int .u8 H.tos,.int .u16 H.id,.bool H.df,.bool H.mf,.int .i64 H.off,.int .u8 H.ttl,.int .u8 H.proto,.int .u32 H.src,.int .u32 H.dst,.slice oA on oc],.row 127 11 (some ⟨g144,0,none⟩) 0 0 [],.own .u8 5 (some ⟨g149,0,none⟩) 0 0 []]++RO) by rw [hv];exact SP.pickT (A:=[_,_,_,_]) (B:=[_,_,_,_]) (C:=RO) (SP.rot (X.out.allocI' .u8 5 [] (Nat.zero_le _) hg149.symm)) [1,2,3,0] rfl (by decide))
  clear hv hg149
  refine hK.out _ _ (by exact Y.out.blk 1 rfl) (fun hHeld=>?_)
  clear hK K
  try simp only [Act.put,jA,jB,jC]
  rw [<- hF]
  exact r7xs9 H1.out g144 g149 _ Y
set_option maxHeartbeats 1000000 in
set_option maxRecDepth 100000 in
theorem r7xs10 (H0 : r7xH w0 HB XB H oA on oc x FA fn fc fs bA bn bc fr tt SA dn dc dz RO Q Fr) (g144 : Nat) (g149 : Nat) (w : World) (X : Hid (SP w0 w ([.blk XB 125 #[.int .u32 x.src,.int .u32 x.dst,.int .u8 x.proto,.int .u16 x.id,.int .i64 x.begin_,.int .i64 (x.bytes : Int),.bool x.dead,.slice FA fn fc],.blk HB 58 #[.int .u8 H.tos,.int .u16 H.id,.bool H.df,.bool H.mf,.int .i64 H.off,.int .u8 H.ttl,.int .u8 H.proto,.int .u32 H.src,.int .u32 H.dst,.slice oA on oc],.row 127 11 (some ⟨g144,0,none⟩) 0 0 [],.own .u8 5 (some ⟨g149,0,none⟩) 0 0 []]++RO))) :
 wpAnyH Tryz.prog .any (opsAt Tryz.f27 24) (NoPanic Q) (r7xS w0 HB XB H oA on oc x FA fn fc fs bA bn bc fr tt SA dn dc dz RO) 8 #[true,true,false,false,true,true,true,true,true,true,false,false,false,false,false,false] (Fr (.slice (some ⟨g144,0,none⟩) 0 0) (.pointer (some ⟨XB,7,none⟩)) y146 y147 (.agg #[.int .u8 H.tos,.int .u16 H.id,.bool H.df,.bool H.mf,.int .i64 H.off,.int .u8 H.ttl,.int .u8 H.proto,.int .u32 H.src,.int .u32 H.dst,.slice oA on oc]) (.slice (some ⟨g149,0,none⟩) 0 0) y150 y151 y152 (.slice SA dn dc) y154 y155 y156 y157 y158) w:=by
 have H1:=Lib.hid H0
 obtain ⟨HP,⟨u,hF⟩,HQ⟩:=H0
 rw [hF]
 obtain ⟨i1,hi1,hx0,hx1,hx2⟩:=info_parts info7F
 obtain ⟨i2,hi2,hv0,hv1,hv2⟩:=info_parts infoU8
 have hn:=HP.out.hn
 have hd:=HP.out.hd
 have s1:=HP.out.sl
 have hHeld : (r7xS w0 HB XB H oA on oc x FA fn fc fs bA bn bc fr tt SA dn dc dz RO) w:=by exact X.out.blk 1 rfl
 refine rdy [2] ?_
 refine cons_lit rfl (fun K hK=>?ss2x51) AllReadyH.nil
 case ss2x51 =>
  have xc:=X.out.cell 0 rfl 7 rfl
  go_simp
  clear xc
  have Y:=X
  refine hK.out _ _ (by exact Y.out.blk 1 rfl) (fun hHeld=>?_)
  clear hK K
  try simp only [Act.put,jA,jB,jC]
  rw [<- hF]
  exact r7xs9 H1.out g144 g149 _ Y
set_option maxHeartbeats 1000000 in
set_option maxRecDepth 100000 in
theorem r7xs1 (H0 : r7xH w0 HB XB H oA on oc x FA fn fc fs bA bn bc fr tt SA dn dc dz RO Q Fr) (g144 : Nat) (w : World) (X : Hid (SP w0 w ([.blk XB 125 #[.int .u32 x.src,.int .u32 x.dst,.int .u8 x.proto,.int .u16 x.id,.int .i64 x.begin_,.int .i64 (x.bytes : Int),.bool x.dead,.slice FA fn fc],.blk HB 58 #[.int .u8 H.tos,.int .u16 H.id,.bool H.df,.bool H.mf,.int .i64 H.off,.int .u8 H.ttl,.int .u8 H.proto,.int .u32 H.src,.int .u32 H.dst,.slice oA on oc],.row 127 11 (some ⟨g144,0,none⟩) 0 0 []]++RO))) :
 wpAnyH Tryz.prog .any (opsAt Tryz.f27 24) (NoPanic Q) (r7xS w0 HB XB H oA on oc x FA fn fc fs bA bn bc fr tt SA dn dc dz RO) 9 #[true,true,false,false,true,false,true,true,true,true,false,false,false,false,false,false] (Fr (.slice (some ⟨g144,0,none⟩) 0 0) (.pointer (some ⟨XB,7,none⟩)) y146 y147 (.agg #[.int .u8 H.tos,.int .u16 H.id,.bool H.df,.bool H.mf,.int .i64 H.off,.int .u8 H.ttl,.int .u8 H.proto,.int .u32 H.src,.int .u32 H.dst,.slice oA on oc]) y149 y150 y151 y152 (.slice SA dn dc) y154 y155 y156 y157 y158) w:=by
 have H1:=Lib.hid H0
 obtain ⟨HP,⟨u,hF⟩,HQ⟩:=H0
 rw [hF]
 obtain ⟨i1,hi1,hx0,hx1,hx2⟩:=info_parts info7F
 obtain ⟨i2,hi2,hv0,hv1,hv2⟩:=info_parts infoU8
 have hn:=HP.out.hn
 have hd:=HP.out.hd
 have s1:=HP.out.sl
 have hHeld : (r7xS w0 HB XB H oA on oc x FA fn fc fs bA bn bc fr tt SA dn dc dz RO) w:=by exact X.out.blk 1 rfl
 refine rdy [2,5] ?_
 refine cons_lit rfl (fun K hK=>?ss2x41) (cons_lit rfl (fun K hK=>?ss5x41) AllReadyH.nil)
 case ss2x41 =>
  have xc:=X.out.cell 0 rfl 7 rfl
  go_simp
  clear xc
  have Y:=X
  refine hK.out _ _ (by exact Y.out.blk 1 rfl) (fun hHeld=>?_)
  clear hK K
  try simp only [Act.put,jA,jB,jC]
  rw [<- hF]
  exact r7xs2 H1.out g144 _ Y
 case ss5x41 =>
  go_simp
  obtain ⟨g149,hg149⟩ : ∃ g,g=w.heap.size:=⟨_,rfl⟩
  rw [<- hg149]
  refine nameW' (fun v hv=>?_)
  have Y:=Lib.hid (show SP w0 v ([.blk XB 125 #[.int .u32 x.src,.int .u32 x.dst,.int .u8 x.proto,.int .u16 x.id,.int .i64 x.begin_,.int .i64 (x.bytes : Int),.bool x.dead,.slice FA fn fc],.blk HB 58 #[.int .u8 H.tos,.int .u16 H.id,.bool H.df,.bool H.mf,.int .i64 H.off,.int .u8 H.ttl,.int .u8 H.proto,.int .u32 H.src,.int .u32 H.dst,.slice oA on oc],.row 127 11 (some ⟨g144,0,none⟩) 0 0 [],.own .u8 5 (some ⟨g149,0,none⟩) 0 0 []]++RO) by rw [hv];exact SP.pickT (A:=[_,_,_,_]) (B:=[_,_,_,_]) (C:=RO) (SP.rot (X.out.allocI' .u8 5 [] (Nat.zero_le _) hg149.symm)) [1,2,3,0] rfl (by decide))
  clear hv hg149
  refine hK.out _ _ (by exact Y.out.blk 1 rfl) (fun hHeld=>?_)
  clear hK K
  try simp only [Act.put,jA,jB,jC]
  rw [<- hF]
  exact r7xs10 H1.out g144 g149 _ Y
set_option maxHeartbeats 1000000 in
set_option maxRecDepth 100000 in
theorem r7xs12 (H0 : r7xH w0 HB XB H oA on oc x FA fn fc fs bA bn bc fr tt SA dn dc dz RO Q Fr) (g149 : Nat) (w : World) (X : Hid (SP w0 w ([.blk XB 125 #[.int .u32 x.src,.int .u32 x.dst,.int .u8 x.proto,.int .u16 x.id,.int .i64 x.begin_,.int .i64 (x.bytes : Int),.bool x.dead,.slice FA fn fc],.blk HB 58 #[.int .u8 H.tos,.int .u16 H.id,.bool H.df,.bool H.mf,.int .i64 H.off,.int .u8 H.ttl,.int .u8 H.proto,.int .u32 H.src,.int .u32 H.dst,.slice oA on oc],.own .u8 5 (some ⟨g149,0,none⟩) 0 0 []]++RO))) :
 wpAnyH Tryz.prog .any (opsAt Tryz.f27 24) (NoPanic Q) (r7xS w0 HB XB H oA on oc x FA fn fc fs bA bn bc fr tt SA dn dc dz RO) 8 #[false,true,true,false,true,true,true,true,true,true,false,false,false,false,false,false] (Fr y144 y145 (.slice FA fn fc) y147 (.agg #[.int .u8 H.tos,.int .u16 H.id,.bool H.df,.bool H.mf,.int .i64 H.off,.int .u8 H.ttl,.int .u8 H.proto,.int .u32 H.src,.int .u32 H.dst,.slice oA on oc]) (.slice (some ⟨g149,0,none⟩) 0 0) y150 y151 y152 (.slice SA dn dc) y154 y155 y156 y157 y158) w:=by
 have H1:=Lib.hid H0
 obtain ⟨HP,⟨u,hF⟩,HQ⟩:=H0
 rw [hF]
 obtain ⟨i1,hi1,hx0,hx1,hx2⟩:=info_parts info7F
 obtain ⟨i2,hi2,hv0,hv1,hv2⟩:=info_parts infoU8
 have hn:=HP.out.hn
 have hd:=HP.out.hd
 have s1:=HP.out.sl
 have hHeld : (r7xS w0 HB XB H oA on oc x FA fn fc fs bA bn bc fr tt SA dn dc dz RO) w:=by exact X.out.blk 1 rfl
 refine rdy [0] ?_
 refine cons_lit rfl (fun K hK=>?ss0x53) AllReadyH.nil
 case ss0x53 =>
  go_simp
  obtain ⟨g144,hg144⟩ : ∃ g,g=w.heap.size:=⟨_,rfl⟩
  rw [<- hg144]
  refine nameW' (fun v hv=>?_)
  have Y:=Lib.hid (show SP w0 v ([.blk XB 125 #[.int .u32 x.src,.int .u32 x.dst,.int .u8 x.proto,.int .u16 x.id,.int .i64 x.begin_,.int .i64 (x.bytes : Int),.bool x.dead,.slice FA fn fc],.blk HB 58 #[.int .u8 H.tos,.int .u16 H.id,.bool H.df,.bool H.mf,.int .i64 H.off,.int .u8 H.ttl,.int .u8 H.proto,.int .u32 H.src,.int .u32 H.dst,.slice oA on oc],.row 127 11 (some ⟨g144,0,none⟩) 0 0 [],.own .u8 5 (some ⟨g149,0,none⟩) 0 0 []]++RO) by rw [hv];exact SP.pickT (A:=[_,_,_,_]) (B:=[_,_,_,_]) (C:=RO) (SP.rot (X.out.allocRow7 127 11 0 #[] (Nat.zero_le _) rfl hg144.symm)) [1,2,0,3] rfl (by decide))
  clear hv hg144
  refine hK.out _ _ (by exact Y.out.blk 1 rfl) (fun hHeld=>?_)
  clear hK K
  try simp only [Act.put,jA,jB,jC]
  rw [<- hF]
  exact r7xs9 H1.out g144 g149 _ Y
set_option maxHeartbeats 1000000 in
set_option maxRecDepth 100000 in
theorem r7xs11 (H0 : r7xH w0 HB XB H oA on oc x FA fn fc fs bA bn bc fr tt SA dn dc dz RO Q Fr) (w : World) (X : Hid (SP w0 w ([.blk XB 125 #[.int .u32 x.src,.int .u32 x.dst,.int .u8 x.proto,.int .u16 x.id,.int .i64 x.begin_,.int .i64 (x.bytes : Int),.bool x.dead,.slice FA fn fc],.blk HB 58 #[.int .u8 H.tos,.int .u16 H.id,.bool H.df,.bool H.mf,.int .i64 H.off,.int .u8 H.ttl,.int .u8 H.proto,.int .u32 H.src,.int .u32 H.dst,.slice oA on oc]]++RO))) :
 wpAnyH Tryz.prog .any (opsAt Tryz.f27 24) (NoPanic Q) (r7xS w0 HB XB H oA on oc x FA fn fc fs bA bn bc fr tt SA dn dc dz RO) 9 #[false,true,true,false,true,false,true,true,true,true,false,false,false,false,false,false] (Fr y144 y145 (.slice FA fn fc) y147 (.agg #[.int .u8 H.tos,.int .u16 H.id,.bool H.df,.bool H.mf,.int .i64 H.off,.int .u8 H.ttl,.int .u8 H.proto,.int .u32 H.src,.int .u32 H.dst,.slice oA on oc]) y149 y150 y151 y152 (.slice SA dn dc) y154 y155 y156 y157 y158) w:=by
 have H1:=Lib.hid H0
 obtain ⟨HP,⟨u,hF⟩,HQ⟩:=H0
 rw [hF]
 obtain ⟨i1,hi1,hx0,hx1,hx2⟩:=info_parts info7F
 obtain ⟨i2,hi2,hv0,hv1,hv2⟩:=info_parts infoU8
 have hn:=HP.out.hn
 have hd:=HP.out.hd
 have s1:=HP.out.sl
 have hHeld : (r7xS w0 HB XB H oA on oc x FA fn fc fs bA bn bc fr tt SA dn dc dz RO) w:=by exact X.out.blk 1 rfl
 refine rdy [0,5] ?_
 refine cons_lit rfl (fun K hK=>?ss0x52) (cons_lit rfl (fun K hK=>?ss5x52) AllReadyH.nil)
 case ss0x52 =>
  go_simp
  obtain ⟨g144,hg144⟩ : ∃ g,g=w.heap.size:=⟨_,rfl⟩
  rw [<- hg144]
  refine nameW' (fun v hv=>?_)
  have Y:=Lib.hid (show SP w0 v ([.blk XB 125 #[.int .u32 x.src,.int .u32 x.dst,.int .u8 x.proto,.int .u16 x.id,.int .i64 x.begin_,.int .i64 (x.bytes : Int),.bool x.dead,.slice FA fn fc],.blk HB 58 #[.int .u8 H.tos,.int .u16 H.id,.bool H.df,.bool H.mf,.int .i64 H.off,.int .u8 H.ttl,.int .u8 H.proto,.int .u32 H.src,.int .u32 H.dst,.slice oA on oc],.row 127 11 (some ⟨g144,0,none⟩) 0 0 []]++RO) by rw [hv];exact SP.pickT (A:=[_,_,_]) (B:=[_,_,_]) (C:=RO) (SP.rot (X.out.allocRow7 127 11 0 #[] (Nat.zero_le _) rfl hg144.symm)) [1,2,0] rfl (by decide))
  clear hv hg144
  refine hK.out _ _ (by exact Y.out.blk 1 rfl) (fun hHeld=>?_)
  clear hK K
  try simp only [Act.put,jA,jB,jC]
  rw [<- hF]
  exact r7xs2 H1.out g144 _ Y
 case ss5x52 =>
  go_simp
  obtain ⟨g149,hg149⟩ : ∃ g,g=w.heap.size:=⟨_,rfl⟩
  rw [<- hg149]
  refine nameW' (fun v hv=>?_)
  have Y:=Lib.hid (show SP w0 v ([.blk XB 125 #[.int .u32 x.src,.int .u32 x.dst,.int .u8 x.proto,.int .u16 x.id,.int .i64 x.begin_,.int .i64 (x.bytes : Int),.bool x.dead,.slice FA fn fc],.blk HB 58 #[.int .u8 H.tos,.int .u16 H.id,.bool H.df,.bool H.mf,.int .i64 H.off,.int .u8 H.ttl,.int .u8 H.proto,.int .u32 H.src,.int .u32 H.dst,.slice oA on oc],.own .u8 5 (some ⟨g149,0,none⟩) 0 0 []]++RO) by rw [hv];exact SP.pickT (A:=[_,_,_]) (B:=[_,_,_]) (C:=RO) (SP.rot (X.out.allocI' .u8 5 [] (Nat.zero_le _) hg149.symm)) [1,2,0] rfl (by decide))
  clear hv hg149
  refine hK.out _ _ (by exact Y.out.blk 1 rfl) (fun hHeld=>?_)
  clear hK K
  try simp only [Act.put,jA,jB,jC]
  rw [<- hF]
  exact r7xs12 H1.out g149 _ Y
set_option maxHeartbeats 1000000 in
set_option maxRecDepth 100000 in
theorem r7xs13 (H0 : r7xH w0 HB XB H oA on oc x FA fn fc fs bA bn bc fr tt SA dn dc dz RO Q Fr) (g149 : Nat) (w : World) (X : Hid (SP w0 w ([.blk XB 125 #[.int .u32 x.src,.int .u32 x.dst,.int .u8 x.proto,.int .u16 x.id,.int .i64 x.begin_,.int .i64 (x.bytes : Int),.bool x.dead,.slice FA fn fc],.blk HB 58 #[.int .u8 H.tos,.int .u16 H.id,.bool H.df,.bool H.mf,.int .i64 H.off,.int .u8 H.ttl,.int .u8 H.proto,.int .u32 H.src,.int .u32 H.dst,.slice oA on oc],.own .u8 5 (some ⟨g149,0,none⟩) 0 0 []]++RO))) :
 wpAnyH Tryz.prog .any (opsAt Tryz.f27 24) (NoPanic Q) (r7xS w0 HB XB H oA on oc x FA fn fc fs bA bn bc fr tt SA dn dc dz RO) 9 #[false,true,false,false,true,true,true,true,true,true,false,false,false,false,false,false] (Fr y144 (.pointer (some ⟨XB,7,none⟩)) y146 y147 (.agg #[.int .u8 H.tos,.int .u16 H.id,.bool H.df,.bool H.mf,.int .i64 H.off,.int .u8 H.ttl,.int .u8 H.proto,.int .u32 H.src,.int .u32 H.dst,.slice oA on oc]) (.slice (some ⟨g149,0,none⟩) 0 0) y150 y151 y152 (.slice SA dn dc) y154 y155 y156 y157 y158) w:=by
 have H1:=Lib.hid H0
 obtain ⟨HP,⟨u,hF⟩,HQ⟩:=H0
 rw [hF]
 obtain ⟨i1,hi1,hx0,hx1,hx2⟩:=info_parts info7F
 obtain ⟨i2,hi2,hv0,hv1,hv2⟩:=info_parts infoU8
 have hn:=HP.out.hn
 have hd:=HP.out.hd
 have s1:=HP.out.sl
 have hHeld : (r7xS w0 HB XB H oA on oc x FA fn fc fs bA bn bc fr tt SA dn dc dz RO) w:=by exact X.out.blk 1 rfl
 refine rdy [0,2] ?_
 refine cons_lit rfl (fun K hK=>?ss0x54) (cons_lit rfl (fun K hK=>?ss2x54) AllReadyH.nil)
 case ss0x54 =>
  go_simp
  obtain ⟨g144,hg144⟩ : ∃ g,g=w.heap.size:=⟨_,rfl⟩
  rw [<- hg144]
  refine nameW' (fun v hv=>?_)
  have Y:=Lib.hid (show SP w0 v ([.blk XB 125 #[.int .u32 x.src,.int .u32 x.dst,.int .u8 x.proto,.int .u16 x.id,.int .i64 x.begin_,.int .i64 (x.bytes : Int),.bool x.dead,.slice FA fn fc],.blk HB 58 #[.int .u8 H.tos,.int .u16 H.id,.bool H.df,.bool H.mf,.int .i64 H.off,.int .u8 H.ttl,.int .u8 H.proto,.int .u32 H.src,.int .u32 H.dst,.slice oA on oc],.row 127 11 (some ⟨g144,0,none⟩) 0 0 [],.own .u8 5 (some ⟨g149,0,none⟩) 0 0 []]++RO) by rw [hv];exact SP.pickT (A:=[_,_,_,_]) (B:=[_,_,_,_]) (C:=RO) (SP.rot (X.out.allocRow7 127 11 0 #[] (Nat.zero_le _) rfl hg144.symm)) [1,2,0,3] rfl (by decide))
  clear hv hg144
  refine hK.out _ _ (by exact Y.out.blk 1 rfl) (fun hHeld=>?_)
  clear hK K
  try simp only [Act.put,jA,jB,jC]
  rw [<- hF]
  exact r7xs10 H1.out g144 g149 _ Y
 case ss2x54 =>
  have xc:=X.out.cell 0 rfl 7 rfl
  go_simp
  clear xc
  have Y:=X
  refine hK.out _ _ (by exact Y.out.blk 1 rfl) (fun hHeld=>?_)
  clear hK K
  try simp only [Act.put,jA,jB,jC]
  rw [<- hF]
  exact r7xs12 H1.out g149 _ Y
set_option maxHeartbeats 1000000 in
set_option maxRecDepth 100000 in
theorem r7xs0 (H0 : r7xH w0 HB XB H oA on oc x FA fn fc fs bA bn bc fr tt SA dn dc dz RO Q Fr) (w : World) (X : Hid (SP w0 w ([.blk XB 125 #[.int .u32 x.src,.int .u32 x.dst,.int .u8 x.proto,.int .u16 x.id,.int .i64 x.begin_,.int .i64 (x.bytes : Int),.bool x.dead,.slice FA fn fc],.blk HB 58 #[.int .u8 H.tos,.int .u16 H.id,.bool H.df,.bool H.mf,.int .i64 H.off,.int .u8 H.ttl,.int .u8 H.proto,.int .u32 H.src,.int .u32 H.dst,.slice oA on oc]]++RO))) :
 wpAnyH Tryz.prog .any (opsAt Tryz.f27 24) (NoPanic Q) (r7xS w0 HB XB H oA on oc x FA fn fc fs bA bn bc fr tt SA dn dc dz RO) 16 #[false,false,false,false,false,false,false,false,false,false,false,false,false,false,false,false] (Fr y144 y145 y146 y147 y148 y149 y150 y151 y152 y153 y154 y155 y156 y157 y158) w:=by
 have H1:=Lib.hid H0
 obtain ⟨HP,⟨u,hF⟩,HQ⟩:=H0
 rw [hF]
 obtain ⟨i1,hi1,hx0,hx1,hx2⟩:=info_parts info7F
 obtain ⟨i2,hi2,hv0,hv1,hv2⟩:=info_parts infoU8
 have hn:=HP.out.hn
 have hd:=HP.out.hd
 have s1:=HP.out.sl
 have hHeld : (r7xS w0 HB XB H oA on oc x FA fn fc fs bA bn bc fr tt SA dn dc dz RO) w:=by exact X.out.blk 1 rfl
 refine' tk (i:=1) rfl ?U34 ?V34
 case U34=>intro w' hSw;go_simp;try (with_reducible rfl)
 try simp only [Act.put,jA,jB,jC]
 refine' take_lit (i:=4) (v:=.agg (#[.int .u8 H.tos,.int .u16 H.id,.bool H.df,.bool H.mf,.int .i64 H.off,.int .u8 H.ttl,.int .u8 H.proto,.int .u32 H.src,.int .u32 H.dst,.slice oA on oc])) rfl (by kernel_rfl) (by kernel_rfl) (by kernel_rfl) (fun _ _ _ h=>h) (Or.inl ⟨by rfl,?yy35⟩) (by assumption) ?rr35
 case yy35=>intro w' hSw;exact exec_load_row 58 _ rfl HB rfl 58 (#[.int .u8 H.tos,.int .u16 H.id,.bool H.df,.bool H.mf,.int .i64 H.off,.int .u8 H.ttl,.int .u8 H.proto,.int .u32 H.src,.int .u32 H.dst,.slice oA on oc]) (0,0) _ (hSw) Tryz.underlying58 rfl (by kernel_rfl)
 try simp only [Act.put,jA,jB,jC]
 refine' tk (i:=6) rfl ?U36 ?V36
 case U36=>intro w' hSw;go_simp;try (with_reducible rfl)
 try simp only [Act.put,jA,jB,jC]
 refine' tk (i:=7) rfl ?U37 ?V37
 case U37=>intro w' hSw;go_simp;try (with_reducible rfl)
 try simp only [Act.put,jA,jB,jC]
 refine' tk (i:=8) rfl ?U38 ?V38
 case U38=>intro w' hSw;go_simp;try (with_reducible rfl)
 try simp only [Act.put,jA,jB,jC]
 refine' tk (i:=9) rfl ?U39 ?V39
 case U39=>intro w' hSw;go_simp;try (with_reducible rfl)
 try simp only [Act.put,jA,jB,jC]
 refine rdy [0,2,5] ?_
 refine cons_lit rfl (fun K hK=>?ss0x40) (cons_lit rfl (fun K hK=>?ss2x40) (cons_lit rfl (fun K hK=>?ss5x40) AllReadyH.nil))
 case ss0x40 =>
  go_simp
  obtain ⟨g144,hg144⟩ : ∃ g,g=w.heap.size:=⟨_,rfl⟩
  rw [<- hg144]
  refine nameW' (fun v hv=>?_)
  have Y:=Lib.hid (show SP w0 v ([.blk XB 125 #[.int .u32 x.src,.int .u32 x.dst,.int .u8 x.proto,.int .u16 x.id,.int .i64 x.begin_,.int .i64 (x.bytes : Int),.bool x.dead,.slice FA fn fc],.blk HB 58 #[.int .u8 H.tos,.int .u16 H.id,.bool H.df,.bool H.mf,.int .i64 H.off,.int .u8 H.ttl,.int .u8 H.proto,.int .u32 H.src,.int .u32 H.dst,.slice oA on oc],.row 127 11 (some ⟨g144,0,none⟩) 0 0 []]++RO) by rw [hv];exact SP.pickT (A:=[_,_,_]) (B:=[_,_,_]) (C:=RO) (SP.rot (X.out.allocRow7 127 11 0 #[] (Nat.zero_le _) rfl hg144.symm)) [1,2,0] rfl (by decide))
  clear hv hg144
  refine hK.out _ _ (by exact Y.out.blk 1 rfl) (fun hHeld=>?_)
  clear hK K
  try simp only [Act.put,jA,jB,jC]
  rw [<- hF]
  exact r7xs1 H1.out g144 _ Y
 case ss2x40 =>
  have xc:=X.out.cell 0 rfl 7 rfl
  go_simp
  clear xc
  have Y:=X
  refine hK.out _ _ (by exact Y.out.blk 1 rfl) (fun hHeld=>?_)
  clear hK K
  try simp only [Act.put,jA,jB,jC]
  rw [<- hF]
  exact r7xs11 H1.out  _ Y
 case ss5x40 =>
  go_simp
  obtain ⟨g149,hg149⟩ : ∃ g,g=w.heap.size:=⟨_,rfl⟩
  rw [<- hg149]
  refine nameW' (fun v hv=>?_)
  have Y:=Lib.hid (show SP w0 v ([.blk XB 125 #[.int .u32 x.src,.int .u32 x.dst,.int .u8 x.proto,.int .u16 x.id,.int .i64 x.begin_,.int .i64 (x.bytes : Int),.bool x.dead,.slice FA fn fc],.blk HB 58 #[.int .u8 H.tos,.int .u16 H.id,.bool H.df,.bool H.mf,.int .i64 H.off,.int .u8 H.ttl,.int .u8 H.proto,.int .u32 H.src,.int .u32 H.dst,.slice oA on oc],.own .u8 5 (some ⟨g149,0,none⟩) 0 0 []]++RO) by rw [hv];exact SP.pickT (A:=[_,_,_]) (B:=[_,_,_]) (C:=RO) (SP.rot (X.out.allocI' .u8 5 [] (Nat.zero_le _) hg149.symm)) [1,2,0] rfl (by decide))
  clear hv hg149
  refine hK.out _ _ (by exact Y.out.blk 1 rfl) (fun hHeld=>?_)
  clear hK K
  try simp only [Act.put,jA,jB,jC]
  rw [<- hF]
  exact r7xs13 H1.out g149 _ Y
end
set_option maxRecDepth 100000 in
theorem r7x_0 {u0 u1 u3 u4 u5 u6 u7 u8 u12 u13 u14 u15 u17 u18 u19 u20 u21 u22 u23 u24 u25 u26 u27 u28 u29 u30 u31 u32 u33 u34 u35 u36 u37 u38 u39 u40 u41 u42 u43 u44 u45 u46 u47 u48 u49 u50 u51 u52 u53 u54 u55 u56 u57 u58 u59 u60 u61 u62 u63 u64 u65 u66 u67 u68 u69 u70 u71 u72 u73 u74 u75 u76 u77 u78 u79 u80 u81 u82 u83 u84 u85 u86 u87 u88 u89 u90 u91 u92 u93 u94 u95 u96 u97 u98 u99 u100 u101 u102 u103 u104 u105 u106 u107 u108 u109 u110 u111 u112 u113 u114 u115 u116 u117 u118 u119 u120 u121 u122 u123 u124 u125 u126 u127 u128 u129 u130 u131 u132 u133 u134 u135 u136 u137 u138 u139 u140 u141 u142 u143 u144 u145 u146 u147 u148 u149 u150 u151 u152 u153 u154 u155 u156 u157 u158 u159 u160 u161 u162 u163 u164 u165 u166 u167 u168 u169 u170 u171 u172 u173 u174 u175 u176 u177 u178 u179 u180 u181 u182 u183 u184 u185 u186 u187 u188 u189 u190 u191 u192 u193 u194 u195 u196 u197 u198 u199 u200 u201 u202 u203 u204 u205 u206 u207 u208 u209 u210 u211 u212 u213 u214 u215 u216 u217 u218 u219 u220 u221 u222 u223 u224 u225 u226 u227 u228 u229 u230 u231 u232 u233 u234 u235 u236 u237 u238 u239 u240 u241 u242 u243 u244 u245 u246 u247 u248 u249 u250 u251 u252 u253 u254 u255 u256 u257 u258 u259 u260 u261 u262 u263 u264 u265 u266 u267 u268 u269 u270 u271 u272 u273 u274 u275 u276 u277 : Value} {Q : Exit->Act->World->Prop} {w0 : World} {HB XB : Nat} {H : HD} {oA : Option Addr} {on oc : Nat} {x : RE} {FA : Option Addr} {fn fc : Nat} {fs : List FM} {bA : Option Addr} {bn bc fr tt : Nat} {SA : Option Addr} {dn dc : Nat} {dz : List Int} {RO : List IT} (HP : Hid (r7xP w0 HB XB H oA on oc x FA fn fc fs bA bn bc fr tt SA dn dc dz RO)) (HQ : Hid (∀ (y144 y145 y146 y147 y148 y149 y150 y151 y152 y153 y154 y155 y156 y157 y158 : Value) (g144 : Nat) (A147 : Option Addr) (c147 : Nat) (g149 : Nat) (A154 : Option Addr) (c154 : Nat) (g156 : Nat) (A157 : Option Addr) (c157 : Nat) (w' : World),SP w0 w' ([.blk XB 125 #[.int .u32 x.src,.int .u32 x.dst,.int .u8 x.proto,.int .u16 x.id,.int .i64 x.begin_,.int .i64 (x.bytes : Int),.bool x.dead,.slice A157 (fn + 1) c157],.blk HB 58 #[.int .u8 H.tos,.int .u16 H.id,.bool H.df,.bool H.mf,.int .i64 H.off,.int .u8 H.ttl,.int .u8 H.proto,.int .u32 H.src,.int .u32 H.dst,.slice oA on oc],.row 127 11 A157 (fn + 1) c157 (fs.flatMap FM.cells++[.int .u8 H.tos,.int .u16 H.id,.bool H.df,.bool H.mf,.int .i64 H.off,.int .u8 H.ttl,.int .u8 H.proto,.int .u32 H.src,.int .u32 H.dst,.slice oA on oc,.slice A154 dn c154]),.own .u8 5 A154 dn c154 dz]++RO)->Q .normal ⟨List.toArray (u0::u1::.slice bA bn bc::u3::u4::u5::u6::u7::u8::.pointer (some ⟨HB,0,none⟩)::.int .i64 (fr : Int)::.int .i64 (tt : Int)::u12::u13::u14::u15::.pointer (some ⟨XB,0,none⟩)::u17::u18::u19::u20::u21::u22::u23::u24::u25::u26::u27::u28::u29::u30::u31::u32::u33::u34::u35::u36::u37::u38::u39::u40::u41::u42::u43::u44::u45::u46::u47::u48::u49::u50::u51::u52::u53::u54::u55::u56::u57::u58::u59::u60::u61::u62::u63::u64::u65::u66::u67::u68::u69::u70::u71::u72::u73::u74::u75::u76::u77::u78::u79::u80::u81::u82::u83::u84::u85::u86::u87::u88::u89::u90::u91::u92::u93::u94::u95::u96::u97::u98::u99::u100::u101::u102::u103::u104::u105::u106::u107::u108::u109::u110::u111::u112::u113::u114::u115::u116::u117::u118::u119::u120::u121::u122::u123::u124::u125::u126::u127::u128::u129::u130::u131::u132::u133::u134::u135::u136::u137::u138::u139::u140::u141::u142::u143::y144::y145::y146::y147::y148::y149::y150::y151::y152::y153::y154::y155::y156::y157::y158::u159::u160::u161::u162::u163::u164::u165::u166::u167::u168::u169::u170::u171::u172::u173::u174::u175::u176::u177::u178::u179::u180::u181::u182::u183::u184::u185::u186::u187::u188::u189::u190::u191::u192::u193::u194::u195::u196::u197::u198::u199::u200::u201::u202::u203::u204::u205::u206::u207::u208::u209::u210::u211::u212::u213::u214::u215::u216::u217::u218::u219::u220::u221::u222::u223::u224::u225::u226::u227::u228::u229::u230::u231::u232::u233::u234::u235::u236::u237::u238::u239::u240::u241::u242::u243::u244::u245::u246::u247::u248::u249::u250::u251::u252::u253::u254::u255::u256::u257::u258::u259::u260::u261::u262::u263::u264::u265::u266::u267::u268::u269::u270::u271::u272::u273::u274::u275::u276::u277::[]),[]⟩ w')) (w : World) (X : Hid (SP w0 w ([.blk XB 125 #[.int .u32 x.src,.int .u32 x.dst,.int .u8 x.proto,.int .u16 x.id,.int .i64 x.begin_,.int .i64 (x.bytes : Int),.bool x.dead,.slice FA fn fc],.blk HB 58 #[.int .u8 H.tos,.int .u16 H.id,.bool H.df,.bool H.mf,.int .i64 H.off,.int .u8 H.ttl,.int .u8 H.proto,.int .u32 H.src,.int .u32 H.dst,.slice oA on oc]]++RO))) :
 wpAnyH Tryz.prog .any (opsAt Tryz.f27 24) (NoPanic Q) (r7xS w0 HB XB H oA on oc x FA fn fc fs bA bn bc fr tt SA dn dc dz RO) 16 #[false,false,false,false,false,false,false,false,false,false,false,false,false,false,false,false] ⟨List.toArray (u0::u1::.slice bA bn bc::u3::u4::u5::u6::u7::u8::.pointer (some ⟨HB,0,none⟩)::.int .i64 (fr : Int)::.int .i64 (tt : Int)::u12::u13::u14::u15::.pointer (some ⟨XB,0,none⟩)::u17::u18::u19::u20::u21::u22::u23::u24::u25::u26::u27::u28::u29::u30::u31::u32::u33::u34::u35::u36::u37::u38::u39::u40::u41::u42::u43::u44::u45::u46::u47::u48::u49::u50::u51::u52::u53::u54::u55::u56::u57::u58::u59::u60::u61::u62::u63::u64::u65::u66::u67::u68::u69::u70::u71::u72::u73::u74::u75::u76::u77::u78::u79::u80::u81::u82::u83::u84::u85::u86::u87::u88::u89::u90::u91::u92::u93::u94::u95::u96::u97::u98::u99::u100::u101::u102::u103::u104::u105::u106::u107::u108::u109::u110::u111::u112::u113::u114::u115::u116::u117::u118::u119::u120::u121::u122::u123::u124::u125::u126::u127::u128::u129::u130::u131::u132::u133::u134::u135::u136::u137::u138::u139::u140::u141::u142::u143::u144::u145::u146::u147::u148::u149::u150::u151::u152::u153::u154::u155::u156::u157::u158::u159::u160::u161::u162::u163::u164::u165::u166::u167::u168::u169::u170::u171::u172::u173::u174::u175::u176::u177::u178::u179::u180::u181::u182::u183::u184::u185::u186::u187::u188::u189::u190::u191::u192::u193::u194::u195::u196::u197::u198::u199::u200::u201::u202::u203::u204::u205::u206::u207::u208::u209::u210::u211::u212::u213::u214::u215::u216::u217::u218::u219::u220::u221::u222::u223::u224::u225::u226::u227::u228::u229::u230::u231::u232::u233::u234::u235::u236::u237::u238::u239::u240::u241::u242::u243::u244::u245::u246::u247::u248::u249::u250::u251::u252::u253::u254::u255::u256::u257::u258::u259::u260::u261::u262::u263::u264::u265::u266::u267::u268::u269::u270::u271::u272::u273::u274::u275::u276::u277::[]),[]⟩ w :=
 r7xs0 (Fr:=(fun y144 y145 y146 y147 y148 y149 y150 y151 y152 y153 y154 y155 y156 y157 y158=>⟨List.toArray (u0::u1::.slice bA bn bc::u3::u4::u5::u6::u7::u8::.pointer (some ⟨HB,0,none⟩)::.int .i64 (fr : Int)::.int .i64 (tt : Int)::u12::u13::u14::u15::.pointer (some ⟨XB,0,none⟩)::u17::u18::u19::u20::u21::u22::u23::u24::u25::u26::u27::u28::u29::u30::u31::u32::u33::u34::u35::u36::u37::u38::u39::u40::u41::u42::u43::u44::u45::u46::u47::u48::u49::u50::u51::u52::u53::u54::u55::u56::u57::u58::u59::u60::u61::u62::u63::u64::u65::u66::u67::u68::u69::u70::u71::u72::u73::u74::u75::u76::u77::u78::u79::u80::u81::u82::u83::u84::u85::u86::u87::u88::u89::u90::u91::u92::u93::u94::u95::u96::u97::u98::u99::u100::u101::u102::u103::u104::u105::u106::u107::u108::u109::u110::u111::u112::u113::u114::u115::u116::u117::u118::u119::u120::u121::u122::u123::u124::u125::u126::u127::u128::u129::u130::u131::u132::u133::u134::u135::u136::u137::u138::u139::u140::u141::u142::u143::y144::y145::y146::y147::y148::y149::y150::y151::y152::y153::y154::y155::y156::y157::y158::u159::u160::u161::u162::u163::u164::u165::u166::u167::u168::u169::u170::u171::u172::u173::u174::u175::u176::u177::u178::u179::u180::u181::u182::u183::u184::u185::u186::u187::u188::u189::u190::u191::u192::u193::u194::u195::u196::u197::u198::u199::u200::u201::u202::u203::u204::u205::u206::u207::u208::u209::u210::u211::u212::u213::u214::u215::u216::u217::u218::u219::u220::u221::u222::u223::u224::u225::u226::u227::u228::u229::u230::u231::u232::u233::u234::u235::u236::u237::u238::u239::u240::u241::u242::u243::u244::u245::u246::u247::u248::u249::u250::u251::u252::u253::u254::u255::u256::u257::u258::u259::u260::u261::u262::u263::u264::u265::u266::u267::u268::u269::u270::u271::u272::u273::u274::u275::u276::u277::[]),[]⟩)) ⟨HP,⟨fun i=>([u0,u1,undef,u3,u4,u5,u6,u7,u8,undef,undef,undef,u12,u13,u14,u15,undef,u17,u18,u19,u20,u21,u22,u23,u24,u25,u26,u27,u28,u29,u30,u31,u32,u33,u34,u35,u36,u37,u38,u39,u40,u41,u42,u43,u44,u45,u46,u47,u48,u49,u50,u51,u52,u53,u54,u55,u56,u57,u58,u59,u60,u61,u62,u63,u64,u65,u66,u67,u68,u69,u70,u71,u72,u73,u74,u75,u76,u77,u78,u79,u80,u81,u82,u83,u84,u85,u86,u87,u88,u89,u90,u91,u92,u93,u94,u95,u96,u97,u98,u99,u100,u101,u102,u103,u104,u105,u106,u107,u108,u109,u110,u111,u112,u113,u114,u115,u116,u117,u118,u119,u120,u121,u122,u123,u124,u125,u126,u127,u128,u129,u130,u131,u132,u133,u134,u135,u136,u137,u138,u139,u140,u141,u142,u143,u144,u145,u146,u147,u148,u149,u150,u151,u152,u153,u154,u155,u156,u157,u158,u159,u160,u161,u162,u163,u164,u165,u166,u167,u168,u169,u170,u171,u172,u173,u174,u175,u176,u177,u178,u179,u180,u181,u182,u183,u184,u185,u186,u187,u188,u189,u190,u191,u192,u193,u194,u195,u196,u197,u198,u199,u200,u201,u202,u203,u204,u205,u206,u207,u208,u209,u210,u211,u212,u213,u214,u215,u216,u217,u218,u219,u220,u221,u222,u223,u224,u225,u226,u227,u228,u229,u230,u231,u232,u233,u234,u235,u236,u237,u238,u239,u240,u241,u242,u243,u244,u245,u246,u247,u248,u249,u250,u251,u252,u253,u254,u255,u256,u257,u258,u259,u260,u261,u262,u263,u264,u265,u266,u267,u268,u269,u270,u271,u272,u273,u274,u275,u276,u277] : List Value)[i]?.getD undef,fun _ _ _ _ _ _ _ _ _ _ _ _ _ _ _=>rfl⟩,Lib.hid HQ.out⟩ w X
end Go.Proofs.YtljbfnabnkkfeaaGreat
