import Derived.Test.YtljbfnabnkkfeaaGreatSL17
set_option linter.unusedVariables false
set_option linter.unusedSimpArgs false
/- Joined by program: FgYD. -/
namespace Go.Proofs.YtljbfnabnkkfeaaGreat
open Go.RowKit
attribute [local go_sem ↓] Go.wp_at_zero Go.wp_at_succ
structure r7zP (w0 : World) (TB XB : Nat) (limit life now : Int) (A : Option Addr) (n c : Nat) (l : List EM) (k : Nat) (x : RE) (FA : Option Addr) (fn fc : Nat) (RO : List IT) : Prop where
 er : ∀ W,SP w0 W RO->EROW W A n c l
 hn : n<=100000
 hc : n<=c
 hk : k < n
def r7zS (w0 : World) (TB XB : Nat) (limit life now : Int) (A : Option Addr) (n c : Nat) (l : List EM) (k : Nat) (x : RE) (FA : Option Addr) (fn fc : Nat) (RO : List IT) : World->Prop:=fun W=>BLOCK W XB 125 #[.int .u32 x.src,.int .u32 x.dst,.int .u8 x.proto,.int .u16 x.id,.int .i64 x.begin_,.int .i64 (x.bytes : Int),.bool x.dead,.slice FA fn fc]
set_option maxRecDepth 100000 in
def r7zF (w0 : World) (TB XB : Nat) (limit life now : Int) (A : Option Addr) (n c : Nat) (l : List EM) (k : Nat) (x : RE) (FA : Option Addr) (fn fc : Nat) (RO : List IT) (Fr : Value->Value->Value->Value->Value->Value->Value->Value->Value->Value->Value->Value->Value->Value->Value->Value->Act) : Prop:=∃ u : Nat->Value,∀ y257 y258 y259 y260 y261 y262 y263 y264 y265 y266 y267 y268 y269 y270 y271 y272,Fr y257 y258 y259 y260 y261 y262 y263 y264 y265 y266 y267 y268 y269 y270 y271 y272=⟨List.toArray (u 0::u 1::u 2::.pointer (some ⟨TB,0,none⟩)::u 4::u 5::u 6::u 7::u 8::u 9::u 10::u 11::u 12::.int .i64 (k : Int)::u 14::u 15::.pointer (some ⟨XB,0,none⟩)::u 17::u 18::u 19::u 20::u 21::u 22::u 23::u 24::u 25::u 26::u 27::u 28::u 29::u 30::u 31::u 32::u 33::u 34::u 35::u 36::u 37::u 38::u 39::u 40::u 41::u 42::u 43::u 44::u 45::u 46::u 47::u 48::u 49::u 50::u 51::u 52::u 53::u 54::u 55::u 56::u 57::u 58::u 59::u 60::u 61::u 62::u 63::u 64::u 65::u 66::u 67::u 68::u 69::u 70::u 71::u 72::u 73::u 74::u 75::u 76::u 77::u 78::u 79::u 80::u 81::u 82::u 83::u 84::u 85::u 86::u 87::u 88::u 89::u 90::u 91::u 92::u 93::u 94::u 95::u 96::u 97::u 98::u 99::u 100::u 101::u 102::u 103::u 104::u 105::u 106::u 107::u 108::u 109::u 110::u 111::u 112::u 113::u 114::u 115::u 116::u 117::u 118::u 119::u 120::u 121::u 122::u 123::u 124::u 125::u 126::u 127::u 128::u 129::u 130::u 131::u 132::u 133::u 134::u 135::u 136::u 137::u 138::u 139::u 140::u 141::u 142::u 143::u 144::u 145::u 146::u 147::u 148::u 149::u 150::u 151::u 152::u 153::u 154::u 155::u 156::u 157::u 158::u 159::u 160::u 161::u 162::u 163::u 164::u 165::u 166::u 167::u 168::u 169::u 170::u 171::u 172::u 173::u 174::u 175::u 176::u 177::u 178::u 179::u 180::u 181::u 182::u 183::u 184::u 185::u 186::u 187::u 188::u 189::u 190::u 191::u 192::u 193::u 194::u 195::u 196::u 197::u 198::u 199::u 200::u 201::u 202::u 203::u 204::u 205::u 206::u 207::u 208::u 209::u 210::u 211::u 212::u 213::u 214::u 215::u 216::u 217::u 218::u 219::u 220::u 221::u 222::u 223::u 224::u 225::u 226::u 227::u 228::u 229::u 230::u 231::u 232::u 233::u 234::u 235::u 236::u 237::u 238::u 239::u 240::u 241::u 242::u 243::u 244::u 245::u 246::u 247::u 248::u 249::u 250::u 251::u 252::u 253::u 254::u 255::u 256::y257::y258::y259::y260::y261::y262::y263::y264::y265::y266::y267::y268::y269::y270::y271::y272::u 273::u 274::u 275::u 276::u 277::[]),[]⟩
def r7zR (w0 : World) (TB XB : Nat) (limit life now : Int) (A : Option Addr) (n c : Nat) (l : List EM) (k : Nat) (x : RE) (FA : Option Addr) (fn fc : Nat) (RO : List IT) (Q : Exit->Act->World->Prop) (Fr : Value->Value->Value->Value->Value->Value->Value->Value->Value->Value->Value->Value->Value->Value->Value->Value->Act) : Prop:=∀ (y257 y258 y259 y260 y261 y262 y263 y264 y265 y266 y267 y268 y269 y270 y271 y272 : Value) (g257 : Nat) (A262 : Option Addr) (c262 : Nat) (g264 : Nat) (A265 : Option Addr) (c265 : Nat) (A271 : Option Addr) (c271 : Nat) (w' : World),SP w0 w' ([.blk TB 70 #[.int .i64 limit,.int .i64 life,.int .i64 now,.slice A271 (k + 1 + (n - (k + 1))) c271],.blk XB 125 #[.int .u32 x.src,.int .u32 x.dst,.int .u8 x.proto,.int .u16 x.id,.int .i64 x.begin_,.int .i64 (x.bytes : Int),.bool x.dead,.slice FA fn fc],.row 125 8 A271 (k + 1 + (n - (k + 1))) c271 ((l.take k).flatMap EM.cells++[.int .u32 x.src,.int .u32 x.dst,.int .u8 x.proto,.int .u16 x.id,.int .i64 x.begin_,.int .i64 (x.bytes : Int),.bool x.dead,.slice FA fn fc]++(l.drop (k + 1)).flatMap EM.cells)]++RO)->Q .normal (Fr y257 y258 y259 y260 y261 y262 y263 y264 y265 y266 y267 y268 y269 y270 y271 y272) w'
def r7zH (w0 : World) (TB XB : Nat) (limit life now : Int) (A : Option Addr) (n c : Nat) (l : List EM) (k : Nat) (x : RE) (FA : Option Addr) (fn fc : Nat) (RO : List IT) (Q : Exit->Act->World->Prop) (Fr : Value->Value->Value->Value->Value->Value->Value->Value->Value->Value->Value->Value->Value->Value->Value->Value->Act) : Prop:=Hid (r7zP w0 TB XB limit life now A n c l k x FA fn fc RO)∧r7zF w0 TB XB limit life now A n c l k x FA fn fc RO Fr∧Hid (r7zR w0 TB XB limit life now A n c l k x FA fn fc RO Q Fr)
section
variable {Q : Exit->Act->World->Prop} {y257 y258 y259 y260 y261 y262 y263 y264 y265 y266 y267 y268 y269 y270 y271 y272 : Value} {w0 : World} {TB XB : Nat} {limit life now : Int} {A : Option Addr} {n c : Nat} {l : List EM} {k : Nat} {x : RE} {FA : Option Addr} {fn fc : Nat} {RO : List IT} {Fr : Value->Value->Value->Value->Value->Value->Value->Value->Value->Value->Value->Value->Value->Value->Value->Value->Act}
set_option maxHeartbeats 1000000 in
set_option maxRecDepth 100000 in
theorem r7zs8 (H0 : r7zH w0 TB XB limit life now A n c l k x FA fn fc RO Q Fr) (g257 : Nat) (A262 : Option Addr) (c262 : Nat) (g264 : Nat) (A265 : Option Addr) (c265 : Nat) (A271 : Option Addr) (c271 : Nat) (w : World) (X : Hid (SP w0 w ([.blk TB 70 #[.int .i64 limit,.int .i64 life,.int .i64 now,.slice A271 (k + 1 + (n - (k + 1))) c271],.blk XB 125 #[.int .u32 x.src,.int .u32 x.dst,.int .u8 x.proto,.int .u16 x.id,.int .i64 x.begin_,.int .i64 (x.bytes : Int),.bool x.dead,.slice FA fn fc],.row 125 8 A271 (k + 1 + (n - (k + 1))) c271 ((l.take k).flatMap EM.cells++[.int .u32 x.src,.int .u32 x.dst,.int .u8 x.proto,.int .u16 x.id,.int .i64 x.begin_,.int .i64 (x.bytes : Int),.bool x.dead,.slice FA fn fc]++(l.drop (k + 1)).flatMap EM.cells)]++RO))) :
 wpAnyH Tryz.prog .any (opsAt Tryz.f27 47) (NoPanic Q) (r7zS w0 TB XB limit life now A n c l k x FA fn fc RO) 0 #[true,true,true,true,true,true,true,true,true,true,true,true,true,true,true,true,true] (Fr y257 y258 y259 y260 y261 y262 y263 y264 y265 y266 y267 y268 y269 y270 y271 y272) w:=by
 have H1:=Lib.hid H0
 obtain ⟨HP,⟨u,hF⟩,HQ⟩:=H0
 rw [hF]
 obtain ⟨i0,hi0,hz0,hz1,hz2⟩:=info_parts info7E
 have hn:=HP.out.hn
 have hc:=HP.out.hc
 have hk:=HP.out.hk
 have g1 : (0 : Int)<=(k : Int):=by omega
 have g2 : (k : Int)<=(c : Int):=by omega
 have e1 : IntKind.i64.wrap ((k : Int) + 1)=(k : Int) + 1:=IntWalk.i64_in _ (by omega)
 have s1:=fun W=>run_slice_loM (P:=Tryz.prog) W Tryz.underlying68 hi0 hz1 A n c ((k : Int) + 1) (k + 1) (by omega) (by omega)
 have hHeld : (r7zS w0 TB XB limit life now A n c l k x FA fn fc RO) w:=by exact X.out.blk 1 rfl
 refine wpAnyH_done (by kernel_rfl) ?_ _
 refine NoPanic.normal ?_
 rw [<- hF]
 exact HQ.out _ _ _ _ _ _ _ _ _ _ _ _ _ _ _ _ g257 A262 c262 g264 A265 c265 A271 c271 _ X.out
set_option maxHeartbeats 1000000 in
set_option maxRecDepth 100000 in
theorem r7zs7 (H0 : r7zH w0 TB XB limit life now A n c l k x FA fn fc RO Q Fr) (g257 : Nat) (A262 : Option Addr) (c262 : Nat) (g264 : Nat) (A265 : Option Addr) (c265 : Nat) (A271 : Option Addr) (c271 : Nat) (w : World) (X : Hid (SP w0 w ([.blk TB 70 #[.int .i64 limit,.int .i64 life,.int .i64 now,.slice A n c],.blk XB 125 #[.int .u32 x.src,.int .u32 x.dst,.int .u8 x.proto,.int .u16 x.id,.int .i64 x.begin_,.int .i64 (x.bytes : Int),.bool x.dead,.slice FA fn fc],.row 125 8 A271 (k + 1 + (n - (k + 1))) c271 ((l.take k).flatMap EM.cells++[.int .u32 x.src,.int .u32 x.dst,.int .u8 x.proto,.int .u16 x.id,.int .i64 x.begin_,.int .i64 (x.bytes : Int),.bool x.dead,.slice FA fn fc]++(l.drop (k + 1)).flatMap EM.cells)]++RO))) :
 wpAnyH Tryz.prog .any (opsAt Tryz.f27 47) (NoPanic Q) (r7zS w0 TB XB limit life now A n c l k x FA fn fc RO) 1 #[true,true,true,true,true,true,true,true,true,true,true,true,true,true,true,true,false] (Fr y257 y258 y259 y260 y261 y262 y263 y264 y265 y266 y267 y268 y269 y270 (.slice A271 (k + 1 + (n - (k + 1))) c271) (.pointer (some ⟨TB,3,none⟩))) w:=by
 have H1:=Lib.hid H0
 obtain ⟨HP,⟨u,hF⟩,HQ⟩:=H0
 rw [hF]
 obtain ⟨i0,hi0,hz0,hz1,hz2⟩:=info_parts info7E
 have hn:=HP.out.hn
 have hc:=HP.out.hc
 have hk:=HP.out.hk
 have g1 : (0 : Int)<=(k : Int):=by omega
 have g2 : (k : Int)<=(c : Int):=by omega
 have e1 : IntKind.i64.wrap ((k : Int) + 1)=(k : Int) + 1:=IntWalk.i64_in _ (by omega)
 have s1:=fun W=>run_slice_loM (P:=Tryz.prog) W Tryz.underlying68 hi0 hz1 A n c ((k : Int) + 1) (k + 1) (by omega) (by omega)
 have hHeld : (r7zS w0 TB XB limit life now A n c l k x FA fn fc RO) w:=by exact X.out.blk 1 rfl
 refine rdy [16] ?_
 refine cons_lit rfl (fun K hK=>?ss16x97) AllReadyH.nil
 case ss16x97 =>
  have xc:=X.out.cell 0 rfl 3 rfl
  have xf:=X.out.free 0 rfl 3
  go_simp
  clear xc xf
  refine nameW' (fun v hv=>?_)
  have Y:=Lib.hid (show SP w0 v ([.blk TB 70 #[.int .i64 limit,.int .i64 life,.int .i64 now,.slice A271 (k + 1 + (n - (k + 1))) c271],.blk XB 125 #[.int .u32 x.src,.int .u32 x.dst,.int .u8 x.proto,.int .u16 x.id,.int .i64 x.begin_,.int .i64 (x.bytes : Int),.bool x.dead,.slice FA fn fc],.row 125 8 A271 (k + 1 + (n - (k + 1))) c271 ((l.take k).flatMap EM.cells++[.int .u32 x.src,.int .u32 x.dst,.int .u8 x.proto,.int .u16 x.id,.int .i64 x.begin_,.int .i64 (x.bytes : Int),.bool x.dead,.slice FA fn fc]++(l.drop (k + 1)).flatMap EM.cells)]++RO) by rw [hv];exact SP.pickT (A:=[_,_,_]) (B:=[_,_,_]) (C:=RO) (X.out.setB 0 rfl 3 (.slice A271 (k + 1 + (n - (k + 1))) c271)) [0,1,2] rfl (by decide))
  clear hv
  refine hK.out _ _ (by exact Y.out.blk 1 rfl) (fun hHeld=>?_)
  clear hK K
  try simp only [Act.put,jA,jB,jC]
  rw [<- hF]
  exact r7zs8 H1.out g257 A262 c262 g264 A265 c265 A271 c271 _ Y
set_option maxHeartbeats 1000000 in
set_option maxRecDepth 100000 in
theorem r7zs6 (H0 : r7zH w0 TB XB limit life now A n c l k x FA fn fc RO Q Fr) (g257 : Nat) (A262 : Option Addr) (c262 : Nat) (g264 : Nat) (A265 : Option Addr) (c265 : Nat) (w : World) (X : Hid (SP w0 w ([.blk TB 70 #[.int .i64 limit,.int .i64 life,.int .i64 now,.slice A n c],.blk XB 125 #[.int .u32 x.src,.int .u32 x.dst,.int .u8 x.proto,.int .u16 x.id,.int .i64 x.begin_,.int .i64 (x.bytes : Int),.bool x.dead,.slice FA fn fc],.row 125 8 A265 (k + 1) c265 ((l.take k).flatMap EM.cells++[.int .u32 x.src,.int .u32 x.dst,.int .u8 x.proto,.int .u16 x.id,.int .i64 x.begin_,.int .i64 (x.bytes : Int),.bool x.dead,.slice FA fn fc])]++RO))) :
 wpAnyH Tryz.prog .any (opsAt Tryz.f27 47) (NoPanic Q) (r7zS w0 TB XB limit life now A n c l k x FA fn fc RO) 3 #[true,true,true,true,true,true,true,true,true,true,true,true,true,true,false,false,false] (Fr y257 y258 y259 y260 y261 y262 y263 y264 (.slice A265 (k + 1) c265) y266 y267 y268 y269 (.slice (cutM 8 A c (k + 1)) (n - (k + 1)) (c - (k + 1))) y271 y272) w:=by
 have H1:=Lib.hid H0
 obtain ⟨HP,⟨u,hF⟩,HQ⟩:=H0
 rw [hF]
 obtain ⟨i0,hi0,hz0,hz1,hz2⟩:=info_parts info7E
 have hn:=HP.out.hn
 have hc:=HP.out.hc
 have hk:=HP.out.hk
 have g1 : (0 : Int)<=(k : Int):=by omega
 have g2 : (k : Int)<=(c : Int):=by omega
 have e1 : IntKind.i64.wrap ((k : Int) + 1)=(k : Int) + 1:=IntWalk.i64_in _ (by omega)
 have s1:=fun W=>run_slice_loM (P:=Tryz.prog) W Tryz.underlying68 hi0 hz1 A n c ((k : Int) + 1) (k + 1) (by omega) (by omega)
 have hHeld : (r7zS w0 TB XB limit life now A n c l k x FA fn fc RO) w:=by exact X.out.blk 1 rfl
 refine rdy [14] ?_
 refine cons_lit rfl (fun K hK=>?ss14x95) AllReadyH.nil
 case ss14x95 =>
  refine step_append_rowO _ (by rfl) _ _ 68 (by rfl) w0.heap.size 125 i0 _ 8 64 Tryz.underlying68 hi0 hz0 hz1 hz2 (by rfl) (by decide) A265 (k + 1) c265 ((l.take k).flatMap EM.cells++[.int .u32 x.src,.int .u32 x.dst,.int .u8 x.proto,.int .u16 x.id,.int .i64 x.begin_,.int .i64 (x.bytes : Int),.bool x.dead,.slice FA fn fc]) (by rfl) (by exact X.out.row 2 rfl) (cutM 8 A c (k + 1)) (n - (k + 1)) (c - (k + 1)) ((l.drop (k + 1)).flatMap EM.cells) (by rfl) (by rw [flat_len EM.cells 8 em_len,((HP.out.er _ X.out.right).drop (lo:=k + 1) (by omega)).len]) (((HP.out.er _ X.out.right).drop (lo:=k + 1) (by omega)).news) (ems_one _) (by simp only [maxLen];omega) (by omega) X.out.size ?_
  intro A271 c271 v hrow hgrow hat
  have Y:=Lib.hid (show SP w0 v ([.blk TB 70 #[.int .i64 limit,.int .i64 life,.int .i64 now,.slice A n c],.blk XB 125 #[.int .u32 x.src,.int .u32 x.dst,.int .u8 x.proto,.int .u16 x.id,.int .i64 x.begin_,.int .i64 (x.bytes : Int),.bool x.dead,.slice FA fn fc],.row 125 8 A271 (k + 1 + (n - (k + 1))) c271 ((l.take k).flatMap EM.cells++[.int .u32 x.src,.int .u32 x.dst,.int .u8 x.proto,.int .u16 x.id,.int .i64 x.begin_,.int .i64 (x.bytes : Int),.bool x.dead,.slice FA fn fc]++(l.drop (k + 1)).flatMap EM.cells)]++RO) from SP.pickT (A:=[_,_,_]) (B:=[_,_,_]) (C:=RO) (X.out.appRow 2 rfl hrow hgrow hat) [0,1,2] rfl (by decide))
  clear hrow hgrow hat
  refine hK.out _ _ (by exact Y.out.blk 1 rfl) (fun hHeld=>?_)
  clear hK K
  try simp only [Act.put,jA,jB,jC]
  refine' tk (i:=15) rfl ?U96 ?V96
  case U96=>intro w' hSw;go_simp;try (with_reducible rfl)
  try simp only [Act.put,jA,jB,jC]
  rw [<- hF]
  exact r7zs7 H1.out g257 A262 c262 g264 A265 c265 A271 c271 _ Y
set_option maxHeartbeats 1000000 in
set_option maxRecDepth 100000 in
theorem r7zs5 (H0 : r7zH w0 TB XB limit life now A n c l k x FA fn fc RO Q Fr) (g257 : Nat) (A262 : Option Addr) (c262 : Nat) (g264 : Nat) (A265 : Option Addr) (c265 : Nat) (w : World) (X : Hid (SP w0 w ([.blk TB 70 #[.int .i64 limit,.int .i64 life,.int .i64 now,.slice A n c],.blk XB 125 #[.int .u32 x.src,.int .u32 x.dst,.int .u8 x.proto,.int .u16 x.id,.int .i64 x.begin_,.int .i64 (x.bytes : Int),.bool x.dead,.slice FA fn fc],.row 125 8 A265 (k + 1) c265 ((l.take k).flatMap EM.cells++[.int .u32 x.src,.int .u32 x.dst,.int .u8 x.proto,.int .u16 x.id,.int .i64 x.begin_,.int .i64 (x.bytes : Int),.bool x.dead,.slice FA fn fc])]++RO))) :
 wpAnyH Tryz.prog .any (opsAt Tryz.f27 47) (NoPanic Q) (r7zS w0 TB XB limit life now A n c l k x FA fn fc RO) 5 #[true,true,true,true,true,true,true,true,true,true,false,true,true,false,false,false,false] (Fr y257 y258 y259 y260 y261 y262 y263 y264 (.slice A265 (k + 1) c265) (.pointer (some ⟨TB,3,none⟩)) y267 y268 (.int .i64 ((k : Int) + 1)) y270 y271 y272) w:=by
 have H1:=Lib.hid H0
 obtain ⟨HP,⟨u,hF⟩,HQ⟩:=H0
 rw [hF]
 obtain ⟨i0,hi0,hz0,hz1,hz2⟩:=info_parts info7E
 have hn:=HP.out.hn
 have hc:=HP.out.hc
 have hk:=HP.out.hk
 have g1 : (0 : Int)<=(k : Int):=by omega
 have g2 : (k : Int)<=(c : Int):=by omega
 have e1 : IntKind.i64.wrap ((k : Int) + 1)=(k : Int) + 1:=IntWalk.i64_in _ (by omega)
 have s1:=fun W=>run_slice_loM (P:=Tryz.prog) W Tryz.underlying68 hi0 hz1 A n c ((k : Int) + 1) (k + 1) (by omega) (by omega)
 have hHeld : (r7zS w0 TB XB limit life now A n c l k x FA fn fc RO) w:=by exact X.out.blk 1 rfl
 refine rdy [10] ?_
 refine cons_lit rfl (fun K hK=>?ss10x93) AllReadyH.nil
 case ss10x93 =>
  have xc:=X.out.cell 0 rfl 3 rfl
  go_simp
  clear xc
  have Y:=X
  refine hK.out _ _ (by exact Y.out.blk 1 rfl) (fun hHeld=>?_)
  clear hK K
  try simp only [Act.put,jA,jB,jC]
  refine' tk (i:=13) rfl ?U94 ?V94
  case U94=>intro w' hSw;go_simp;try (with_reducible rfl)
  try simp only [Act.put,jA,jB,jC]
  rw [<- hF]
  exact r7zs6 H1.out g257 A262 c262 g264 A265 c265 _ Y
set_option maxHeartbeats 1000000 in
set_option maxRecDepth 100000 in
theorem r7zs9 (H0 : r7zH w0 TB XB limit life now A n c l k x FA fn fc RO Q Fr) (g257 : Nat) (A262 : Option Addr) (c262 : Nat) (g264 : Nat) (w : World) (X : Hid (SP w0 w ([.blk TB 70 #[.int .i64 limit,.int .i64 life,.int .i64 now,.slice A n c],.blk XB 125 #[.int .u32 x.src,.int .u32 x.dst,.int .u8 x.proto,.int .u16 x.id,.int .i64 x.begin_,.int .i64 (x.bytes : Int),.bool x.dead,.slice FA fn fc],.row 125 8 A262 k c262 ((l.take k).flatMap EM.cells),.row 125 8 (some ⟨g264,0,none⟩) 1 1 [.int .u32 x.src,.int .u32 x.dst,.int .u8 x.proto,.int .u16 x.id,.int .i64 x.begin_,.int .i64 (x.bytes : Int),.bool x.dead,.slice FA fn fc]]++RO))) :
 wpAnyH Tryz.prog .any (opsAt Tryz.f27 47) (NoPanic Q) (r7zS w0 TB XB limit life now A n c l k x FA fn fc RO) 4 #[true,true,true,true,true,true,true,true,false,true,true,true,true,true,false,false,false] (Fr y257 y258 y259 y260 y261 (.slice A262 k c262) y263 (.slice (some ⟨g264,0,none⟩) 1 1) y265 y266 y267 y268 y269 (.slice (cutM 8 A c (k + 1)) (n - (k + 1)) (c - (k + 1))) y271 y272) w:=by
 have H1:=Lib.hid H0
 obtain ⟨HP,⟨u,hF⟩,HQ⟩:=H0
 rw [hF]
 obtain ⟨i0,hi0,hz0,hz1,hz2⟩:=info_parts info7E
 have hn:=HP.out.hn
 have hc:=HP.out.hc
 have hk:=HP.out.hk
 have g1 : (0 : Int)<=(k : Int):=by omega
 have g2 : (k : Int)<=(c : Int):=by omega
 have e1 : IntKind.i64.wrap ((k : Int) + 1)=(k : Int) + 1:=IntWalk.i64_in _ (by omega)
 have s1:=fun W=>run_slice_loM (P:=Tryz.prog) W Tryz.underlying68 hi0 hz1 A n c ((k : Int) + 1) (k + 1) (by omega) (by omega)
 have hHeld : (r7zS w0 TB XB limit life now A n c l k x FA fn fc RO) w:=by exact X.out.blk 1 rfl
 refine rdy [8] ?_
 refine cons_lit rfl (fun K hK=>?ss8x99) AllReadyH.nil
 case ss8x99 =>
  refine step_append_rowO _ (by rfl) _ _ 68 (by rfl) w0.heap.size 125 i0 _ 8 64 Tryz.underlying68 hi0 hz0 hz1 hz2 (by rfl) (by decide) A262 (k) c262 ((l.take k).flatMap EM.cells) (by rfl) (by exact X.out.row 2 rfl) (some ⟨g264,0,none⟩) (1) (1) ([.int .u32 x.src,.int .u32 x.dst,.int .u8 x.proto,.int .u16 x.id,.int .i64 x.begin_,.int .i64 (x.bytes : Int),.bool x.dead,.slice FA fn fc]) (by rfl) (by rfl) (row_news (X.out.row 3 rfl)) (by intro u hu;simp at hu;rcases hu with rfl | rfl | rfl | rfl | rfl | rfl | rfl | rfl <;> rfl) (by simp only [maxLen];omega) (by omega) X.out.size ?_
  intro A265 c265 v hrow hgrow hat
  have Y:=Lib.hid (show SP w0 v ([.blk TB 70 #[.int .i64 limit,.int .i64 life,.int .i64 now,.slice A n c],.blk XB 125 #[.int .u32 x.src,.int .u32 x.dst,.int .u8 x.proto,.int .u16 x.id,.int .i64 x.begin_,.int .i64 (x.bytes : Int),.bool x.dead,.slice FA fn fc],.row 125 8 A265 (k + 1) c265 ((l.take k).flatMap EM.cells++[.int .u32 x.src,.int .u32 x.dst,.int .u8 x.proto,.int .u16 x.id,.int .i64 x.begin_,.int .i64 (x.bytes : Int),.bool x.dead,.slice FA fn fc])]++RO) from SP.pickT (A:=[_,_,_,_]) (B:=[_,_,_]) (C:=RO) (X.out.appRow 2 rfl hrow hgrow hat) [0,1,2] rfl (by decide))
  clear hrow hgrow hat
  refine hK.out _ _ (by exact Y.out.blk 1 rfl) (fun hHeld=>?_)
  clear hK K
  try simp only [Act.put,jA,jB,jC]
  rw [<- hF]
  exact r7zs6 H1.out g257 A262 c262 g264 A265 c265 _ Y
set_option maxHeartbeats 1000000 in
set_option maxRecDepth 100000 in
theorem r7zs4 (H0 : r7zH w0 TB XB limit life now A n c l k x FA fn fc RO Q Fr) (g257 : Nat) (A262 : Option Addr) (c262 : Nat) (g264 : Nat) (w : World) (X : Hid (SP w0 w ([.blk TB 70 #[.int .i64 limit,.int .i64 life,.int .i64 now,.slice A n c],.blk XB 125 #[.int .u32 x.src,.int .u32 x.dst,.int .u8 x.proto,.int .u16 x.id,.int .i64 x.begin_,.int .i64 (x.bytes : Int),.bool x.dead,.slice FA fn fc],.row 125 8 A262 k c262 ((l.take k).flatMap EM.cells),.row 125 8 (some ⟨g264,0,none⟩) 1 1 [.int .u32 x.src,.int .u32 x.dst,.int .u8 x.proto,.int .u16 x.id,.int .i64 x.begin_,.int .i64 (x.bytes : Int),.bool x.dead,.slice FA fn fc]]++RO))) :
 wpAnyH Tryz.prog .any (opsAt Tryz.f27 47) (NoPanic Q) (r7zS w0 TB XB limit life now A n c l k x FA fn fc RO) 6 #[true,true,true,true,true,true,true,true,false,true,false,true,true,false,false,false,false] (Fr y257 y258 y259 y260 y261 (.slice A262 k c262) y263 (.slice (some ⟨g264,0,none⟩) 1 1) y265 (.pointer (some ⟨TB,3,none⟩)) y267 y268 (.int .i64 ((k : Int) + 1)) y270 y271 y272) w:=by
 have H1:=Lib.hid H0
 obtain ⟨HP,⟨u,hF⟩,HQ⟩:=H0
 rw [hF]
 obtain ⟨i0,hi0,hz0,hz1,hz2⟩:=info_parts info7E
 have hn:=HP.out.hn
 have hc:=HP.out.hc
 have hk:=HP.out.hk
 have g1 : (0 : Int)<=(k : Int):=by omega
 have g2 : (k : Int)<=(c : Int):=by omega
 have e1 : IntKind.i64.wrap ((k : Int) + 1)=(k : Int) + 1:=IntWalk.i64_in _ (by omega)
 have s1:=fun W=>run_slice_loM (P:=Tryz.prog) W Tryz.underlying68 hi0 hz1 A n c ((k : Int) + 1) (k + 1) (by omega) (by omega)
 have hHeld : (r7zS w0 TB XB limit life now A n c l k x FA fn fc RO) w:=by exact X.out.blk 1 rfl
 refine rdy [8,10] ?_
 refine cons_lit rfl (fun K hK=>?ss8x92) (cons_lit rfl (fun K hK=>?ss10x92) AllReadyH.nil)
 case ss8x92 =>
  refine step_append_rowO _ (by rfl) _ _ 68 (by rfl) w0.heap.size 125 i0 _ 8 64 Tryz.underlying68 hi0 hz0 hz1 hz2 (by rfl) (by decide) A262 (k) c262 ((l.take k).flatMap EM.cells) (by rfl) (by exact X.out.row 2 rfl) (some ⟨g264,0,none⟩) (1) (1) ([.int .u32 x.src,.int .u32 x.dst,.int .u8 x.proto,.int .u16 x.id,.int .i64 x.begin_,.int .i64 (x.bytes : Int),.bool x.dead,.slice FA fn fc]) (by rfl) (by rfl) (row_news (X.out.row 3 rfl)) (by intro u hu;simp at hu;rcases hu with rfl | rfl | rfl | rfl | rfl | rfl | rfl | rfl <;> rfl) (by simp only [maxLen];omega) (by omega) X.out.size ?_
  intro A265 c265 v hrow hgrow hat
  have Y:=Lib.hid (show SP w0 v ([.blk TB 70 #[.int .i64 limit,.int .i64 life,.int .i64 now,.slice A n c],.blk XB 125 #[.int .u32 x.src,.int .u32 x.dst,.int .u8 x.proto,.int .u16 x.id,.int .i64 x.begin_,.int .i64 (x.bytes : Int),.bool x.dead,.slice FA fn fc],.row 125 8 A265 (k + 1) c265 ((l.take k).flatMap EM.cells++[.int .u32 x.src,.int .u32 x.dst,.int .u8 x.proto,.int .u16 x.id,.int .i64 x.begin_,.int .i64 (x.bytes : Int),.bool x.dead,.slice FA fn fc])]++RO) from SP.pickT (A:=[_,_,_,_]) (B:=[_,_,_]) (C:=RO) (X.out.appRow 2 rfl hrow hgrow hat) [0,1,2] rfl (by decide))
  clear hrow hgrow hat
  refine hK.out _ _ (by exact Y.out.blk 1 rfl) (fun hHeld=>?_)
  clear hK K
  try simp only [Act.put,jA,jB,jC]
  rw [<- hF]
  exact r7zs5 H1.out g257 A262 c262 g264 A265 c265 _ Y
 case ss10x92 =>
  have xc:=X.out.cell 0 rfl 3 rfl
  go_simp
  clear xc
  have Y:=X
  refine hK.out _ _ (by exact Y.out.blk 1 rfl) (fun hHeld=>?_)
  clear hK K
  try simp only [Act.put,jA,jB,jC]
  refine' tk (i:=13) rfl ?U98 ?V98
  case U98=>intro w' hSw;go_simp;try (with_reducible rfl)
  try simp only [Act.put,jA,jB,jC]
  rw [<- hF]
  exact r7zs9 H1.out g257 A262 c262 g264 _ Y
set_option maxHeartbeats 1000000 in
set_option maxRecDepth 100000 in
theorem r7zs10 (H0 : r7zH w0 TB XB limit life now A n c l k x FA fn fc RO Q Fr) (g257 : Nat) (A262 : Option Addr) (c262 : Nat) (w : World) (X : Hid (SP w0 w ([.blk TB 70 #[.int .i64 limit,.int .i64 life,.int .i64 now,.slice A n c],.blk XB 125 #[.int .u32 x.src,.int .u32 x.dst,.int .u8 x.proto,.int .u16 x.id,.int .i64 x.begin_,.int .i64 (x.bytes : Int),.bool x.dead,.slice FA fn fc],.row 125 8 A262 k c262 ((l.take k).flatMap EM.cells)]++RO))) :
 wpAnyH Tryz.prog .any (opsAt Tryz.f27 47) (NoPanic Q) (r7zS w0 TB XB limit life now A n c l k x FA fn fc RO) 5 #[true,true,true,true,true,true,true,false,false,true,true,true,true,true,false,false,false] (Fr y257 y258 y259 y260 y261 (.slice A262 k c262) (.agg #[.int .u32 x.src,.int .u32 x.dst,.int .u8 x.proto,.int .u16 x.id,.int .i64 x.begin_,.int .i64 (x.bytes : Int),.bool x.dead,.slice FA fn fc]) y264 y265 y266 y267 y268 y269 (.slice (cutM 8 A c (k + 1)) (n - (k + 1)) (c - (k + 1))) y271 y272) w:=by
 have H1:=Lib.hid H0
 obtain ⟨HP,⟨u,hF⟩,HQ⟩:=H0
 rw [hF]
 obtain ⟨i0,hi0,hz0,hz1,hz2⟩:=info_parts info7E
 have hn:=HP.out.hn
 have hc:=HP.out.hc
 have hk:=HP.out.hk
 have g1 : (0 : Int)<=(k : Int):=by omega
 have g2 : (k : Int)<=(c : Int):=by omega
 have e1 : IntKind.i64.wrap ((k : Int) + 1)=(k : Int) + 1:=IntWalk.i64_in _ (by omega)
 have s1:=fun W=>run_slice_loM (P:=Tryz.prog) W Tryz.underlying68 hi0 hz1 A n c ((k : Int) + 1) (k + 1) (by omega) (by omega)
 have hHeld : (r7zS w0 TB XB limit life now A n c l k x FA fn fc RO) w:=by exact X.out.blk 1 rfl
 refine rdy [7] ?_
 refine cons_lit rfl (fun K hK=>?ss7x101) AllReadyH.nil
 case ss7x101 =>
  go_simp
  obtain ⟨g264,hg264⟩ : ∃ g,g=w.heap.size:=⟨_,rfl⟩
  rw [<- hg264]
  refine nameW' (fun v hv=>?_)
  have Y:=Lib.hid (show SP w0 v ([.blk TB 70 #[.int .i64 limit,.int .i64 life,.int .i64 now,.slice A n c],.blk XB 125 #[.int .u32 x.src,.int .u32 x.dst,.int .u8 x.proto,.int .u16 x.id,.int .i64 x.begin_,.int .i64 (x.bytes : Int),.bool x.dead,.slice FA fn fc],.row 125 8 A262 k c262 ((l.take k).flatMap EM.cells),.row 125 8 (some ⟨g264,0,none⟩) 1 1 [.int .u32 x.src,.int .u32 x.dst,.int .u8 x.proto,.int .u16 x.id,.int .i64 x.begin_,.int .i64 (x.bytes : Int),.bool x.dead,.slice FA fn fc]]++RO) by rw [hv];exact SP.pickT (A:=[_,_,_,_]) (B:=[_,_,_,_]) (C:=RO) (SP.rot (X.out.allocRow7 125 8 1 #[.int .u32 x.src,.int .u32 x.dst,.int .u8 x.proto,.int .u16 x.id,.int .i64 x.begin_,.int .i64 (x.bytes : Int),.bool x.dead,.slice FA fn fc] (by simp [maxLen]) rfl hg264.symm)) [1,2,3,0] rfl (by decide))
  clear hv hg264
  refine hK.out _ _ (by exact Y.out.blk 1 rfl) (fun hHeld=>?_)
  clear hK K
  try simp only [Act.put,jA,jB,jC]
  rw [<- hF]
  exact r7zs9 H1.out g257 A262 c262 g264 _ Y
set_option maxHeartbeats 1000000 in
set_option maxRecDepth 100000 in
theorem r7zs3 (H0 : r7zH w0 TB XB limit life now A n c l k x FA fn fc RO Q Fr) (g257 : Nat) (A262 : Option Addr) (c262 : Nat) (w : World) (X : Hid (SP w0 w ([.blk TB 70 #[.int .i64 limit,.int .i64 life,.int .i64 now,.slice A n c],.blk XB 125 #[.int .u32 x.src,.int .u32 x.dst,.int .u8 x.proto,.int .u16 x.id,.int .i64 x.begin_,.int .i64 (x.bytes : Int),.bool x.dead,.slice FA fn fc],.row 125 8 A262 k c262 ((l.take k).flatMap EM.cells)]++RO))) :
 wpAnyH Tryz.prog .any (opsAt Tryz.f27 47) (NoPanic Q) (r7zS w0 TB XB limit life now A n c l k x FA fn fc RO) 7 #[true,true,true,true,true,true,true,false,false,true,false,true,true,false,false,false,false] (Fr y257 y258 y259 y260 y261 (.slice A262 k c262) (.agg #[.int .u32 x.src,.int .u32 x.dst,.int .u8 x.proto,.int .u16 x.id,.int .i64 x.begin_,.int .i64 (x.bytes : Int),.bool x.dead,.slice FA fn fc]) y264 y265 (.pointer (some ⟨TB,3,none⟩)) y267 y268 (.int .i64 ((k : Int) + 1)) y270 y271 y272) w:=by
 have H1:=Lib.hid H0
 obtain ⟨HP,⟨u,hF⟩,HQ⟩:=H0
 rw [hF]
 obtain ⟨i0,hi0,hz0,hz1,hz2⟩:=info_parts info7E
 have hn:=HP.out.hn
 have hc:=HP.out.hc
 have hk:=HP.out.hk
 have g1 : (0 : Int)<=(k : Int):=by omega
 have g2 : (k : Int)<=(c : Int):=by omega
 have e1 : IntKind.i64.wrap ((k : Int) + 1)=(k : Int) + 1:=IntWalk.i64_in _ (by omega)
 have s1:=fun W=>run_slice_loM (P:=Tryz.prog) W Tryz.underlying68 hi0 hz1 A n c ((k : Int) + 1) (k + 1) (by omega) (by omega)
 have hHeld : (r7zS w0 TB XB limit life now A n c l k x FA fn fc RO) w:=by exact X.out.blk 1 rfl
 refine rdy [7,10] ?_
 refine cons_lit rfl (fun K hK=>?ss7x91) (cons_lit rfl (fun K hK=>?ss10x91) AllReadyH.nil)
 case ss7x91 =>
  go_simp
  obtain ⟨g264,hg264⟩ : ∃ g,g=w.heap.size:=⟨_,rfl⟩
  rw [<- hg264]
  refine nameW' (fun v hv=>?_)
  have Y:=Lib.hid (show SP w0 v ([.blk TB 70 #[.int .i64 limit,.int .i64 life,.int .i64 now,.slice A n c],.blk XB 125 #[.int .u32 x.src,.int .u32 x.dst,.int .u8 x.proto,.int .u16 x.id,.int .i64 x.begin_,.int .i64 (x.bytes : Int),.bool x.dead,.slice FA fn fc],.row 125 8 A262 k c262 ((l.take k).flatMap EM.cells),.row 125 8 (some ⟨g264,0,none⟩) 1 1 [.int .u32 x.src,.int .u32 x.dst,.int .u8 x.proto,.int .u16 x.id,.int .i64 x.begin_,.int .i64 (x.bytes : Int),.bool x.dead,.slice FA fn fc]]++RO) by rw [hv];exact SP.pickT (A:=[_,_,_,_]) (B:=[_,_,_,_]) (C:=RO) (SP.rot (X.out.allocRow7 125 8 1 #[.int .u32 x.src,.int .u32 x.dst,.int .u8 x.proto,.int .u16 x.id,.int .i64 x.begin_,.int .i64 (x.bytes : Int),.bool x.dead,.slice FA fn fc] (by simp [maxLen]) rfl hg264.symm)) [1,2,3,0] rfl (by decide))
  clear hv hg264
  refine hK.out _ _ (by exact Y.out.blk 1 rfl) (fun hHeld=>?_)
  clear hK K
  try simp only [Act.put,jA,jB,jC]
  rw [<- hF]
  exact r7zs4 H1.out g257 A262 c262 g264 _ Y
 case ss10x91 =>
  have xc:=X.out.cell 0 rfl 3 rfl
  go_simp
  clear xc
  have Y:=X
  refine hK.out _ _ (by exact Y.out.blk 1 rfl) (fun hHeld=>?_)
  clear hK K
  try simp only [Act.put,jA,jB,jC]
  refine' tk (i:=13) rfl ?U100 ?V100
  case U100=>intro w' hSw;go_simp;try (with_reducible rfl)
  try simp only [Act.put,jA,jB,jC]
  rw [<- hF]
  exact r7zs10 H1.out g257 A262 c262 _ Y
set_option maxHeartbeats 1000000 in
set_option maxRecDepth 100000 in
theorem r7zs12 (H0 : r7zH w0 TB XB limit life now A n c l k x FA fn fc RO Q Fr) (g257 : Nat) (g264 : Nat) (w : World) (X : Hid (SP w0 w ([.blk TB 70 #[.int .i64 limit,.int .i64 life,.int .i64 now,.slice A n c],.blk XB 125 #[.int .u32 x.src,.int .u32 x.dst,.int .u8 x.proto,.int .u16 x.id,.int .i64 x.begin_,.int .i64 (x.bytes : Int),.bool x.dead,.slice FA fn fc],.row 125 8 (some ⟨g257,0,none⟩) 0 0 [],.row 125 8 (some ⟨g264,0,none⟩) 1 1 [.int .u32 x.src,.int .u32 x.dst,.int .u8 x.proto,.int .u16 x.id,.int .i64 x.begin_,.int .i64 (x.bytes : Int),.bool x.dead,.slice FA fn fc]]++RO))) :
 wpAnyH Tryz.prog .any (opsAt Tryz.f27 47) (NoPanic Q) (r7zS w0 TB XB limit life now A n c l k x FA fn fc RO) 5 #[true,true,true,true,true,false,true,true,false,true,true,true,true,true,false,false,false] (Fr (.slice (some ⟨g257,0,none⟩) 0 0) y258 y259 y260 (.slice A k c) y262 y263 (.slice (some ⟨g264,0,none⟩) 1 1) y265 y266 y267 y268 y269 (.slice (cutM 8 A c (k + 1)) (n - (k + 1)) (c - (k + 1))) y271 y272) w:=by
 have H1:=Lib.hid H0
 obtain ⟨HP,⟨u,hF⟩,HQ⟩:=H0
 rw [hF]
 obtain ⟨i0,hi0,hz0,hz1,hz2⟩:=info_parts info7E
 have hn:=HP.out.hn
 have hc:=HP.out.hc
 have hk:=HP.out.hk
 have g1 : (0 : Int)<=(k : Int):=by omega
 have g2 : (k : Int)<=(c : Int):=by omega
 have e1 : IntKind.i64.wrap ((k : Int) + 1)=(k : Int) + 1:=IntWalk.i64_in _ (by omega)
 have s1:=fun W=>run_slice_loM (P:=Tryz.prog) W Tryz.underlying68 hi0 hz1 A n c ((k : Int) + 1) (k + 1) (by omega) (by omega)
 have hHeld : (r7zS w0 TB XB limit life now A n c l k x FA fn fc RO) w:=by exact X.out.blk 1 rfl
 refine rdy [5] ?_
 refine cons_lit rfl (fun K hK=>?ss5x104) AllReadyH.nil
 case ss5x104 =>
  refine step_append_rowO _ (by rfl) _ _ 68 (by rfl) w0.heap.size 125 i0 _ 8 64 Tryz.underlying68 hi0 hz0 hz1 hz2 (by rfl) (by decide) (some ⟨g257,0,none⟩) (0) 0 ([]) (by rfl) (by exact X.out.row 2 rfl) A (k) (c) ((l.take k).flatMap EM.cells) (by rfl) (by rw [flat_len EM.cells 8 em_len,((HP.out.er _ X.out.right).take (m:=k) (by omega)).len]) (((HP.out.er _ X.out.right).take (m:=k) (by omega)).news) (ems_one _) (by simp only [maxLen];omega) (by omega) X.out.size ?_
  intro A262 c262 v hrow hgrow hat
  rw [Nat.zero_add] at hrow ⊢
  rw [List.nil_append] at hrow
  have Y:=Lib.hid (show SP w0 v ([.blk TB 70 #[.int .i64 limit,.int .i64 life,.int .i64 now,.slice A n c],.blk XB 125 #[.int .u32 x.src,.int .u32 x.dst,.int .u8 x.proto,.int .u16 x.id,.int .i64 x.begin_,.int .i64 (x.bytes : Int),.bool x.dead,.slice FA fn fc],.row 125 8 A262 k c262 ((l.take k).flatMap EM.cells),.row 125 8 (some ⟨g264,0,none⟩) 1 1 [.int .u32 x.src,.int .u32 x.dst,.int .u8 x.proto,.int .u16 x.id,.int .i64 x.begin_,.int .i64 (x.bytes : Int),.bool x.dead,.slice FA fn fc]]++RO) from SP.pickT (A:=[_,_,_,_]) (B:=[_,_,_,_]) (C:=RO) (X.out.appRow 2 rfl hrow hgrow hat) [0,1,2,3] rfl (by decide))
  clear hrow hgrow hat
  refine hK.out _ _ (by exact Y.out.blk 1 rfl) (fun hHeld=>?_)
  clear hK K
  try simp only [Act.put,jA,jB,jC]
  rw [<- hF]
  exact r7zs9 H1.out g257 A262 c262 g264 _ Y
set_option maxHeartbeats 1000000 in
set_option maxRecDepth 100000 in
theorem r7zs11 (H0 : r7zH w0 TB XB limit life now A n c l k x FA fn fc RO Q Fr) (g257 : Nat) (g264 : Nat) (w : World) (X : Hid (SP w0 w ([.blk TB 70 #[.int .i64 limit,.int .i64 life,.int .i64 now,.slice A n c],.blk XB 125 #[.int .u32 x.src,.int .u32 x.dst,.int .u8 x.proto,.int .u16 x.id,.int .i64 x.begin_,.int .i64 (x.bytes : Int),.bool x.dead,.slice FA fn fc],.row 125 8 (some ⟨g257,0,none⟩) 0 0 [],.row 125 8 (some ⟨g264,0,none⟩) 1 1 [.int .u32 x.src,.int .u32 x.dst,.int .u8 x.proto,.int .u16 x.id,.int .i64 x.begin_,.int .i64 (x.bytes : Int),.bool x.dead,.slice FA fn fc]]++RO))) :
 wpAnyH Tryz.prog .any (opsAt Tryz.f27 47) (NoPanic Q) (r7zS w0 TB XB limit life now A n c l k x FA fn fc RO) 7 #[true,true,true,true,true,false,true,true,false,true,false,true,true,false,false,false,false] (Fr (.slice (some ⟨g257,0,none⟩) 0 0) y258 y259 y260 (.slice A k c) y262 y263 (.slice (some ⟨g264,0,none⟩) 1 1) y265 (.pointer (some ⟨TB,3,none⟩)) y267 y268 (.int .i64 ((k : Int) + 1)) y270 y271 y272) w:=by
 have H1:=Lib.hid H0
 obtain ⟨HP,⟨u,hF⟩,HQ⟩:=H0
 rw [hF]
 obtain ⟨i0,hi0,hz0,hz1,hz2⟩:=info_parts info7E
 have hn:=HP.out.hn
 have hc:=HP.out.hc
 have hk:=HP.out.hk
 have g1 : (0 : Int)<=(k : Int):=by omega
 have g2 : (k : Int)<=(c : Int):=by omega
 have e1 : IntKind.i64.wrap ((k : Int) + 1)=(k : Int) + 1:=IntWalk.i64_in _ (by omega)
 have s1:=fun W=>run_slice_loM (P:=Tryz.prog) W Tryz.underlying68 hi0 hz1 A n c ((k : Int) + 1) (k + 1) (by omega) (by omega)
 have hHeld : (r7zS w0 TB XB limit life now A n c l k x FA fn fc RO) w:=by exact X.out.blk 1 rfl
 refine rdy [5,10] ?_
 refine cons_lit rfl (fun K hK=>?ss5x102) (cons_lit rfl (fun K hK=>?ss10x102) AllReadyH.nil)
 case ss5x102 =>
  refine step_append_rowO _ (by rfl) _ _ 68 (by rfl) w0.heap.size 125 i0 _ 8 64 Tryz.underlying68 hi0 hz0 hz1 hz2 (by rfl) (by decide) (some ⟨g257,0,none⟩) (0) 0 ([]) (by rfl) (by exact X.out.row 2 rfl) A (k) (c) ((l.take k).flatMap EM.cells) (by rfl) (by rw [flat_len EM.cells 8 em_len,((HP.out.er _ X.out.right).take (m:=k) (by omega)).len]) (((HP.out.er _ X.out.right).take (m:=k) (by omega)).news) (ems_one _) (by simp only [maxLen];omega) (by omega) X.out.size ?_
  intro A262 c262 v hrow hgrow hat
  rw [Nat.zero_add] at hrow ⊢
  rw [List.nil_append] at hrow
  have Y:=Lib.hid (show SP w0 v ([.blk TB 70 #[.int .i64 limit,.int .i64 life,.int .i64 now,.slice A n c],.blk XB 125 #[.int .u32 x.src,.int .u32 x.dst,.int .u8 x.proto,.int .u16 x.id,.int .i64 x.begin_,.int .i64 (x.bytes : Int),.bool x.dead,.slice FA fn fc],.row 125 8 A262 k c262 ((l.take k).flatMap EM.cells),.row 125 8 (some ⟨g264,0,none⟩) 1 1 [.int .u32 x.src,.int .u32 x.dst,.int .u8 x.proto,.int .u16 x.id,.int .i64 x.begin_,.int .i64 (x.bytes : Int),.bool x.dead,.slice FA fn fc]]++RO) from SP.pickT (A:=[_,_,_,_]) (B:=[_,_,_,_]) (C:=RO) (X.out.appRow 2 rfl hrow hgrow hat) [0,1,2,3] rfl (by decide))
  clear hrow hgrow hat
  refine hK.out _ _ (by exact Y.out.blk 1 rfl) (fun hHeld=>?_)
  clear hK K
  try simp only [Act.put,jA,jB,jC]
  rw [<- hF]
  exact r7zs4 H1.out g257 A262 c262 g264 _ Y
 case ss10x102 =>
  have xc:=X.out.cell 0 rfl 3 rfl
  go_simp
  clear xc
  have Y:=X
  refine hK.out _ _ (by exact Y.out.blk 1 rfl) (fun hHeld=>?_)
  clear hK K
  try simp only [Act.put,jA,jB,jC]
  refine' tk (i:=13) rfl ?U103 ?V103
  case U103=>intro w' hSw;go_simp;try (with_reducible rfl)
  try simp only [Act.put,jA,jB,jC]
  rw [<- hF]
  exact r7zs12 H1.out g257 g264 _ Y
set_option maxHeartbeats 1000000 in
set_option maxRecDepth 100000 in
theorem r7zs13 (H0 : r7zH w0 TB XB limit life now A n c l k x FA fn fc RO Q Fr) (g257 : Nat) (w : World) (X : Hid (SP w0 w ([.blk TB 70 #[.int .i64 limit,.int .i64 life,.int .i64 now,.slice A n c],.blk XB 125 #[.int .u32 x.src,.int .u32 x.dst,.int .u8 x.proto,.int .u16 x.id,.int .i64 x.begin_,.int .i64 (x.bytes : Int),.bool x.dead,.slice FA fn fc],.row 125 8 (some ⟨g257,0,none⟩) 0 0 []]++RO))) :
 wpAnyH Tryz.prog .any (opsAt Tryz.f27 47) (NoPanic Q) (r7zS w0 TB XB limit life now A n c l k x FA fn fc RO) 6 #[true,true,true,true,true,false,true,false,false,true,true,true,true,true,false,false,false] (Fr (.slice (some ⟨g257,0,none⟩) 0 0) y258 y259 y260 (.slice A k c) y262 (.agg #[.int .u32 x.src,.int .u32 x.dst,.int .u8 x.proto,.int .u16 x.id,.int .i64 x.begin_,.int .i64 (x.bytes : Int),.bool x.dead,.slice FA fn fc]) y264 y265 y266 y267 y268 y269 (.slice (cutM 8 A c (k + 1)) (n - (k + 1)) (c - (k + 1))) y271 y272) w:=by
 have H1:=Lib.hid H0
 obtain ⟨HP,⟨u,hF⟩,HQ⟩:=H0
 rw [hF]
 obtain ⟨i0,hi0,hz0,hz1,hz2⟩:=info_parts info7E
 have hn:=HP.out.hn
 have hc:=HP.out.hc
 have hk:=HP.out.hk
 have g1 : (0 : Int)<=(k : Int):=by omega
 have g2 : (k : Int)<=(c : Int):=by omega
 have e1 : IntKind.i64.wrap ((k : Int) + 1)=(k : Int) + 1:=IntWalk.i64_in _ (by omega)
 have s1:=fun W=>run_slice_loM (P:=Tryz.prog) W Tryz.underlying68 hi0 hz1 A n c ((k : Int) + 1) (k + 1) (by omega) (by omega)
 have hHeld : (r7zS w0 TB XB limit life now A n c l k x FA fn fc RO) w:=by exact X.out.blk 1 rfl
 refine rdy [5,7] ?_
 refine cons_lit rfl (fun K hK=>?ss5x106) (cons_lit rfl (fun K hK=>?ss7x106) AllReadyH.nil)
 case ss5x106 =>
  refine step_append_rowO _ (by rfl) _ _ 68 (by rfl) w0.heap.size 125 i0 _ 8 64 Tryz.underlying68 hi0 hz0 hz1 hz2 (by rfl) (by decide) (some ⟨g257,0,none⟩) (0) 0 ([]) (by rfl) (by exact X.out.row 2 rfl) A (k) (c) ((l.take k).flatMap EM.cells) (by rfl) (by rw [flat_len EM.cells 8 em_len,((HP.out.er _ X.out.right).take (m:=k) (by omega)).len]) (((HP.out.er _ X.out.right).take (m:=k) (by omega)).news) (ems_one _) (by simp only [maxLen];omega) (by omega) X.out.size ?_
  intro A262 c262 v hrow hgrow hat
  rw [Nat.zero_add] at hrow ⊢
  rw [List.nil_append] at hrow
  have Y:=Lib.hid (show SP w0 v ([.blk TB 70 #[.int .i64 limit,.int .i64 life,.int .i64 now,.slice A n c],.blk XB 125 #[.int .u32 x.src,.int .u32 x.dst,.int .u8 x.proto,.int .u16 x.id,.int .i64 x.begin_,.int .i64 (x.bytes : Int),.bool x.dead,.slice FA fn fc],.row 125 8 A262 k c262 ((l.take k).flatMap EM.cells)]++RO) from SP.pickT (A:=[_,_,_]) (B:=[_,_,_]) (C:=RO) (X.out.appRow 2 rfl hrow hgrow hat) [0,1,2] rfl (by decide))
  clear hrow hgrow hat
  refine hK.out _ _ (by exact Y.out.blk 1 rfl) (fun hHeld=>?_)
  clear hK K
  try simp only [Act.put,jA,jB,jC]
  rw [<- hF]
  exact r7zs10 H1.out g257 A262 c262 _ Y
 case ss7x106 =>
  go_simp
  obtain ⟨g264,hg264⟩ : ∃ g,g=w.heap.size:=⟨_,rfl⟩
  rw [<- hg264]
  refine nameW' (fun v hv=>?_)
  have Y:=Lib.hid (show SP w0 v ([.blk TB 70 #[.int .i64 limit,.int .i64 life,.int .i64 now,.slice A n c],.blk XB 125 #[.int .u32 x.src,.int .u32 x.dst,.int .u8 x.proto,.int .u16 x.id,.int .i64 x.begin_,.int .i64 (x.bytes : Int),.bool x.dead,.slice FA fn fc],.row 125 8 (some ⟨g257,0,none⟩) 0 0 [],.row 125 8 (some ⟨g264,0,none⟩) 1 1 [.int .u32 x.src,.int .u32 x.dst,.int .u8 x.proto,.int .u16 x.id,.int .i64 x.begin_,.int .i64 (x.bytes : Int),.bool x.dead,.slice FA fn fc]]++RO) by rw [hv];exact SP.pickT (A:=[_,_,_,_]) (B:=[_,_,_,_]) (C:=RO) (SP.rot (X.out.allocRow7 125 8 1 #[.int .u32 x.src,.int .u32 x.dst,.int .u8 x.proto,.int .u16 x.id,.int .i64 x.begin_,.int .i64 (x.bytes : Int),.bool x.dead,.slice FA fn fc] (by simp [maxLen]) rfl hg264.symm)) [1,2,3,0] rfl (by decide))
  clear hv hg264
  refine hK.out _ _ (by exact Y.out.blk 1 rfl) (fun hHeld=>?_)
  clear hK K
  try simp only [Act.put,jA,jB,jC]
  rw [<- hF]
  exact r7zs12 H1.out g257 g264 _ Y
set_option maxHeartbeats 1000000 in
set_option maxRecDepth 100000 in
theorem r7zs2 (H0 : r7zH w0 TB XB limit life now A n c l k x FA fn fc RO Q Fr) (g257 : Nat) (w : World) (X : Hid (SP w0 w ([.blk TB 70 #[.int .i64 limit,.int .i64 life,.int .i64 now,.slice A n c],.blk XB 125 #[.int .u32 x.src,.int .u32 x.dst,.int .u8 x.proto,.int .u16 x.id,.int .i64 x.begin_,.int .i64 (x.bytes : Int),.bool x.dead,.slice FA fn fc],.row 125 8 (some ⟨g257,0,none⟩) 0 0 []]++RO))) :
 wpAnyH Tryz.prog .any (opsAt Tryz.f27 47) (NoPanic Q) (r7zS w0 TB XB limit life now A n c l k x FA fn fc RO) 8 #[true,true,true,true,true,false,true,false,false,true,false,true,true,false,false,false,false] (Fr (.slice (some ⟨g257,0,none⟩) 0 0) y258 y259 y260 (.slice A k c) y262 (.agg #[.int .u32 x.src,.int .u32 x.dst,.int .u8 x.proto,.int .u16 x.id,.int .i64 x.begin_,.int .i64 (x.bytes : Int),.bool x.dead,.slice FA fn fc]) y264 y265 (.pointer (some ⟨TB,3,none⟩)) y267 y268 (.int .i64 ((k : Int) + 1)) y270 y271 y272) w:=by
 have H1:=Lib.hid H0
 obtain ⟨HP,⟨u,hF⟩,HQ⟩:=H0
 rw [hF]
 obtain ⟨i0,hi0,hz0,hz1,hz2⟩:=info_parts info7E
 have hn:=HP.out.hn
 have hc:=HP.out.hc
 have hk:=HP.out.hk
 have g1 : (0 : Int)<=(k : Int):=by omega
 have g2 : (k : Int)<=(c : Int):=by omega
 have e1 : IntKind.i64.wrap ((k : Int) + 1)=(k : Int) + 1:=IntWalk.i64_in _ (by omega)
 have s1:=fun W=>run_slice_loM (P:=Tryz.prog) W Tryz.underlying68 hi0 hz1 A n c ((k : Int) + 1) (k + 1) (by omega) (by omega)
 have hHeld : (r7zS w0 TB XB limit life now A n c l k x FA fn fc RO) w:=by exact X.out.blk 1 rfl
 refine rdy [5,7,10] ?_
 refine cons_lit rfl (fun K hK=>?ss5x90) (cons_lit rfl (fun K hK=>?ss7x90) (cons_lit rfl (fun K hK=>?ss10x90) AllReadyH.nil))
 case ss5x90 =>
  refine step_append_rowO _ (by rfl) _ _ 68 (by rfl) w0.heap.size 125 i0 _ 8 64 Tryz.underlying68 hi0 hz0 hz1 hz2 (by rfl) (by decide) (some ⟨g257,0,none⟩) (0) 0 ([]) (by rfl) (by exact X.out.row 2 rfl) A (k) (c) ((l.take k).flatMap EM.cells) (by rfl) (by rw [flat_len EM.cells 8 em_len,((HP.out.er _ X.out.right).take (m:=k) (by omega)).len]) (((HP.out.er _ X.out.right).take (m:=k) (by omega)).news) (ems_one _) (by simp only [maxLen];omega) (by omega) X.out.size ?_
  intro A262 c262 v hrow hgrow hat
  rw [Nat.zero_add] at hrow ⊢
  rw [List.nil_append] at hrow
  have Y:=Lib.hid (show SP w0 v ([.blk TB 70 #[.int .i64 limit,.int .i64 life,.int .i64 now,.slice A n c],.blk XB 125 #[.int .u32 x.src,.int .u32 x.dst,.int .u8 x.proto,.int .u16 x.id,.int .i64 x.begin_,.int .i64 (x.bytes : Int),.bool x.dead,.slice FA fn fc],.row 125 8 A262 k c262 ((l.take k).flatMap EM.cells)]++RO) from SP.pickT (A:=[_,_,_]) (B:=[_,_,_]) (C:=RO) (X.out.appRow 2 rfl hrow hgrow hat) [0,1,2] rfl (by decide))
  clear hrow hgrow hat
  refine hK.out _ _ (by exact Y.out.blk 1 rfl) (fun hHeld=>?_)
  clear hK K
  try simp only [Act.put,jA,jB,jC]
  rw [<- hF]
  exact r7zs3 H1.out g257 A262 c262 _ Y
 case ss7x90 =>
  go_simp
  obtain ⟨g264,hg264⟩ : ∃ g,g=w.heap.size:=⟨_,rfl⟩
  rw [<- hg264]
  refine nameW' (fun v hv=>?_)
  have Y:=Lib.hid (show SP w0 v ([.blk TB 70 #[.int .i64 limit,.int .i64 life,.int .i64 now,.slice A n c],.blk XB 125 #[.int .u32 x.src,.int .u32 x.dst,.int .u8 x.proto,.int .u16 x.id,.int .i64 x.begin_,.int .i64 (x.bytes : Int),.bool x.dead,.slice FA fn fc],.row 125 8 (some ⟨g257,0,none⟩) 0 0 [],.row 125 8 (some ⟨g264,0,none⟩) 1 1 [.int .u32 x.src,.int .u32 x.dst,.int .u8 x.proto,.int .u16 x.id,.int .i64 x.begin_,.int .i64 (x.bytes : Int),.bool x.dead,.slice FA fn fc]]++RO) by rw [hv];exact SP.pickT (A:=[_,_,_,_]) (B:=[_,_,_,_]) (C:=RO) (SP.rot (X.out.allocRow7 125 8 1 #[.int .u32 x.src,.int .u32 x.dst,.int .u8 x.proto,.int .u16 x.id,.int .i64 x.begin_,.int .i64 (x.bytes : Int),.bool x.dead,.slice FA fn fc] (by simp [maxLen]) rfl hg264.symm)) [1,2,3,0] rfl (by decide))
  clear hv hg264
  refine hK.out _ _ (by exact Y.out.blk 1 rfl) (fun hHeld=>?_)
  clear hK K
  try simp only [Act.put,jA,jB,jC]
  rw [<- hF]
  exact r7zs11 H1.out g257 g264 _ Y
 case ss10x90 =>
  have xc:=X.out.cell 0 rfl 3 rfl
  go_simp
  clear xc
  have Y:=X
  refine hK.out _ _ (by exact Y.out.blk 1 rfl) (fun hHeld=>?_)
  clear hK K
  try simp only [Act.put,jA,jB,jC]
  refine' tk (i:=13) rfl ?U105 ?V105
  case U105=>intro w' hSw;go_simp;try (with_reducible rfl)
  try simp only [Act.put,jA,jB,jC]
  rw [<- hF]
  exact r7zs13 H1.out g257 _ Y
set_option maxHeartbeats 1000000 in
set_option maxRecDepth 100000 in
theorem r7zs15 (H0 : r7zH w0 TB XB limit life now A n c l k x FA fn fc RO Q Fr) (g257 : Nat) (g264 : Nat) (w : World) (X : Hid (SP w0 w ([.blk TB 70 #[.int .i64 limit,.int .i64 life,.int .i64 now,.slice A n c],.blk XB 125 #[.int .u32 x.src,.int .u32 x.dst,.int .u8 x.proto,.int .u16 x.id,.int .i64 x.begin_,.int .i64 (x.bytes : Int),.bool x.dead,.slice FA fn fc],.row 125 8 (some ⟨g257,0,none⟩) 0 0 [],.row 125 8 (some ⟨g264,0,none⟩) 1 1 [.int .u32 x.src,.int .u32 x.dst,.int .u8 x.proto,.int .u16 x.id,.int .i64 x.begin_,.int .i64 (x.bytes : Int),.bool x.dead,.slice FA fn fc]]++RO))) :
 wpAnyH Tryz.prog .any (opsAt Tryz.f27 47) (NoPanic Q) (r7zS w0 TB XB limit life now A n c l k x FA fn fc RO) 7 #[true,true,false,true,false,false,true,true,false,true,true,true,true,true,false,false,false] (Fr (.slice (some ⟨g257,0,none⟩) 0 0) (.pointer (some ⟨TB,3,none⟩)) y259 (.int .i64 (k : Int)) y261 y262 y263 (.slice (some ⟨g264,0,none⟩) 1 1) y265 y266 y267 y268 y269 (.slice (cutM 8 A c (k + 1)) (n - (k + 1)) (c - (k + 1))) y271 y272) w:=by
 have H1:=Lib.hid H0
 obtain ⟨HP,⟨u,hF⟩,HQ⟩:=H0
 rw [hF]
 obtain ⟨i0,hi0,hz0,hz1,hz2⟩:=info_parts info7E
 have hn:=HP.out.hn
 have hc:=HP.out.hc
 have hk:=HP.out.hk
 have g1 : (0 : Int)<=(k : Int):=by omega
 have g2 : (k : Int)<=(c : Int):=by omega
 have e1 : IntKind.i64.wrap ((k : Int) + 1)=(k : Int) + 1:=IntWalk.i64_in _ (by omega)
 have s1:=fun W=>run_slice_loM (P:=Tryz.prog) W Tryz.underlying68 hi0 hz1 A n c ((k : Int) + 1) (k + 1) (by omega) (by omega)
 have hHeld : (r7zS w0 TB XB limit life now A n c l k x FA fn fc RO) w:=by exact X.out.blk 1 rfl
 refine rdy [2] ?_
 refine cons_lit rfl (fun K hK=>?ss2x110) AllReadyH.nil
 case ss2x110 =>
  have xc:=X.out.cell 0 rfl 3 rfl
  go_simp
  clear xc
  have Y:=X
  refine hK.out _ _ (by exact Y.out.blk 1 rfl) (fun hHeld=>?_)
  clear hK K
  try simp only [Act.put,jA,jB,jC]
  refine' tk (i:=4) rfl ?U111 ?V111
  case U111=>intro w' hSw;go_simp;try (with_reducible rfl)
  try simp only [Act.put,jA,jB,jC]
  rw [<- hF]
  exact r7zs12 H1.out g257 g264 _ Y
set_option maxHeartbeats 1000000 in
set_option maxRecDepth 100000 in
theorem r7zs14 (H0 : r7zH w0 TB XB limit life now A n c l k x FA fn fc RO Q Fr) (g257 : Nat) (g264 : Nat) (w : World) (X : Hid (SP w0 w ([.blk TB 70 #[.int .i64 limit,.int .i64 life,.int .i64 now,.slice A n c],.blk XB 125 #[.int .u32 x.src,.int .u32 x.dst,.int .u8 x.proto,.int .u16 x.id,.int .i64 x.begin_,.int .i64 (x.bytes : Int),.bool x.dead,.slice FA fn fc],.row 125 8 (some ⟨g257,0,none⟩) 0 0 [],.row 125 8 (some ⟨g264,0,none⟩) 1 1 [.int .u32 x.src,.int .u32 x.dst,.int .u8 x.proto,.int .u16 x.id,.int .i64 x.begin_,.int .i64 (x.bytes : Int),.bool x.dead,.slice FA fn fc]]++RO))) :
 wpAnyH Tryz.prog .any (opsAt Tryz.f27 47) (NoPanic Q) (r7zS w0 TB XB limit life now A n c l k x FA fn fc RO) 9 #[true,true,false,true,false,false,true,true,false,true,false,true,true,false,false,false,false] (Fr (.slice (some ⟨g257,0,none⟩) 0 0) (.pointer (some ⟨TB,3,none⟩)) y259 (.int .i64 (k : Int)) y261 y262 y263 (.slice (some ⟨g264,0,none⟩) 1 1) y265 (.pointer (some ⟨TB,3,none⟩)) y267 y268 (.int .i64 ((k : Int) + 1)) y270 y271 y272) w:=by
 have H1:=Lib.hid H0
 obtain ⟨HP,⟨u,hF⟩,HQ⟩:=H0
 rw [hF]
 obtain ⟨i0,hi0,hz0,hz1,hz2⟩:=info_parts info7E
 have hn:=HP.out.hn
 have hc:=HP.out.hc
 have hk:=HP.out.hk
 have g1 : (0 : Int)<=(k : Int):=by omega
 have g2 : (k : Int)<=(c : Int):=by omega
 have e1 : IntKind.i64.wrap ((k : Int) + 1)=(k : Int) + 1:=IntWalk.i64_in _ (by omega)
 have s1:=fun W=>run_slice_loM (P:=Tryz.prog) W Tryz.underlying68 hi0 hz1 A n c ((k : Int) + 1) (k + 1) (by omega) (by omega)
 have hHeld : (r7zS w0 TB XB limit life now A n c l k x FA fn fc RO) w:=by exact X.out.blk 1 rfl
 refine rdy [2,10] ?_
 refine cons_lit rfl (fun K hK=>?ss2x107) (cons_lit rfl (fun K hK=>?ss10x107) AllReadyH.nil)
 case ss2x107 =>
  have xc:=X.out.cell 0 rfl 3 rfl
  go_simp
  clear xc
  have Y:=X
  refine hK.out _ _ (by exact Y.out.blk 1 rfl) (fun hHeld=>?_)
  clear hK K
  try simp only [Act.put,jA,jB,jC]
  refine' tk (i:=4) rfl ?U108 ?V108
  case U108=>intro w' hSw;go_simp;try (with_reducible rfl)
  try simp only [Act.put,jA,jB,jC]
  rw [<- hF]
  exact r7zs11 H1.out g257 g264 _ Y
 case ss10x107 =>
  have xc:=X.out.cell 0 rfl 3 rfl
  go_simp
  clear xc
  have Y:=X
  refine hK.out _ _ (by exact Y.out.blk 1 rfl) (fun hHeld=>?_)
  clear hK K
  try simp only [Act.put,jA,jB,jC]
  refine' tk (i:=13) rfl ?U109 ?V109
  case U109=>intro w' hSw;go_simp;try (with_reducible rfl)
  try simp only [Act.put,jA,jB,jC]
  rw [<- hF]
  exact r7zs15 H1.out g257 g264 _ Y
set_option maxHeartbeats 1000000 in
set_option maxRecDepth 100000 in
theorem r7zs16 (H0 : r7zH w0 TB XB limit life now A n c l k x FA fn fc RO Q Fr) (g257 : Nat) (w : World) (X : Hid (SP w0 w ([.blk TB 70 #[.int .i64 limit,.int .i64 life,.int .i64 now,.slice A n c],.blk XB 125 #[.int .u32 x.src,.int .u32 x.dst,.int .u8 x.proto,.int .u16 x.id,.int .i64 x.begin_,.int .i64 (x.bytes : Int),.bool x.dead,.slice FA fn fc],.row 125 8 (some ⟨g257,0,none⟩) 0 0 []]++RO))) :
 wpAnyH Tryz.prog .any (opsAt Tryz.f27 47) (NoPanic Q) (r7zS w0 TB XB limit life now A n c l k x FA fn fc RO) 8 #[true,true,false,true,false,false,true,false,false,true,true,true,true,true,false,false,false] (Fr (.slice (some ⟨g257,0,none⟩) 0 0) (.pointer (some ⟨TB,3,none⟩)) y259 (.int .i64 (k : Int)) y261 y262 (.agg #[.int .u32 x.src,.int .u32 x.dst,.int .u8 x.proto,.int .u16 x.id,.int .i64 x.begin_,.int .i64 (x.bytes : Int),.bool x.dead,.slice FA fn fc]) y264 y265 y266 y267 y268 y269 (.slice (cutM 8 A c (k + 1)) (n - (k + 1)) (c - (k + 1))) y271 y272) w:=by
 have H1:=Lib.hid H0
 obtain ⟨HP,⟨u,hF⟩,HQ⟩:=H0
 rw [hF]
 obtain ⟨i0,hi0,hz0,hz1,hz2⟩:=info_parts info7E
 have hn:=HP.out.hn
 have hc:=HP.out.hc
 have hk:=HP.out.hk
 have g1 : (0 : Int)<=(k : Int):=by omega
 have g2 : (k : Int)<=(c : Int):=by omega
 have e1 : IntKind.i64.wrap ((k : Int) + 1)=(k : Int) + 1:=IntWalk.i64_in _ (by omega)
 have s1:=fun W=>run_slice_loM (P:=Tryz.prog) W Tryz.underlying68 hi0 hz1 A n c ((k : Int) + 1) (k + 1) (by omega) (by omega)
 have hHeld : (r7zS w0 TB XB limit life now A n c l k x FA fn fc RO) w:=by exact X.out.blk 1 rfl
 refine rdy [2,7] ?_
 refine cons_lit rfl (fun K hK=>?ss2x113) (cons_lit rfl (fun K hK=>?ss7x113) AllReadyH.nil)
 case ss2x113 =>
  have xc:=X.out.cell 0 rfl 3 rfl
  go_simp
  clear xc
  have Y:=X
  refine hK.out _ _ (by exact Y.out.blk 1 rfl) (fun hHeld=>?_)
  clear hK K
  try simp only [Act.put,jA,jB,jC]
  refine' tk (i:=4) rfl ?U114 ?V114
  case U114=>intro w' hSw;go_simp;try (with_reducible rfl)
  try simp only [Act.put,jA,jB,jC]
  rw [<- hF]
  exact r7zs13 H1.out g257 _ Y
 case ss7x113 =>
  go_simp
  obtain ⟨g264,hg264⟩ : ∃ g,g=w.heap.size:=⟨_,rfl⟩
  rw [<- hg264]
  refine nameW' (fun v hv=>?_)
  have Y:=Lib.hid (show SP w0 v ([.blk TB 70 #[.int .i64 limit,.int .i64 life,.int .i64 now,.slice A n c],.blk XB 125 #[.int .u32 x.src,.int .u32 x.dst,.int .u8 x.proto,.int .u16 x.id,.int .i64 x.begin_,.int .i64 (x.bytes : Int),.bool x.dead,.slice FA fn fc],.row 125 8 (some ⟨g257,0,none⟩) 0 0 [],.row 125 8 (some ⟨g264,0,none⟩) 1 1 [.int .u32 x.src,.int .u32 x.dst,.int .u8 x.proto,.int .u16 x.id,.int .i64 x.begin_,.int .i64 (x.bytes : Int),.bool x.dead,.slice FA fn fc]]++RO) by rw [hv];exact SP.pickT (A:=[_,_,_,_]) (B:=[_,_,_,_]) (C:=RO) (SP.rot (X.out.allocRow7 125 8 1 #[.int .u32 x.src,.int .u32 x.dst,.int .u8 x.proto,.int .u16 x.id,.int .i64 x.begin_,.int .i64 (x.bytes : Int),.bool x.dead,.slice FA fn fc] (by simp [maxLen]) rfl hg264.symm)) [1,2,3,0] rfl (by decide))
  clear hv hg264
  refine hK.out _ _ (by exact Y.out.blk 1 rfl) (fun hHeld=>?_)
  clear hK K
  try simp only [Act.put,jA,jB,jC]
  rw [<- hF]
  exact r7zs15 H1.out g257 g264 _ Y
set_option maxHeartbeats 1000000 in
set_option maxRecDepth 100000 in
theorem r7zs1 (H0 : r7zH w0 TB XB limit life now A n c l k x FA fn fc RO Q Fr) (g257 : Nat) (w : World) (X : Hid (SP w0 w ([.blk TB 70 #[.int .i64 limit,.int .i64 life,.int .i64 now,.slice A n c],.blk XB 125 #[.int .u32 x.src,.int .u32 x.dst,.int .u8 x.proto,.int .u16 x.id,.int .i64 x.begin_,.int .i64 (x.bytes : Int),.bool x.dead,.slice FA fn fc],.row 125 8 (some ⟨g257,0,none⟩) 0 0 []]++RO))) :
 wpAnyH Tryz.prog .any (opsAt Tryz.f27 47) (NoPanic Q) (r7zS w0 TB XB limit life now A n c l k x FA fn fc RO) 10 #[true,true,false,true,false,false,true,false,false,true,false,true,true,false,false,false,false] (Fr (.slice (some ⟨g257,0,none⟩) 0 0) (.pointer (some ⟨TB,3,none⟩)) y259 (.int .i64 (k : Int)) y261 y262 (.agg #[.int .u32 x.src,.int .u32 x.dst,.int .u8 x.proto,.int .u16 x.id,.int .i64 x.begin_,.int .i64 (x.bytes : Int),.bool x.dead,.slice FA fn fc]) y264 y265 (.pointer (some ⟨TB,3,none⟩)) y267 y268 (.int .i64 ((k : Int) + 1)) y270 y271 y272) w:=by
 have H1:=Lib.hid H0
 obtain ⟨HP,⟨u,hF⟩,HQ⟩:=H0
 rw [hF]
 obtain ⟨i0,hi0,hz0,hz1,hz2⟩:=info_parts info7E
 have hn:=HP.out.hn
 have hc:=HP.out.hc
 have hk:=HP.out.hk
 have g1 : (0 : Int)<=(k : Int):=by omega
 have g2 : (k : Int)<=(c : Int):=by omega
 have e1 : IntKind.i64.wrap ((k : Int) + 1)=(k : Int) + 1:=IntWalk.i64_in _ (by omega)
 have s1:=fun W=>run_slice_loM (P:=Tryz.prog) W Tryz.underlying68 hi0 hz1 A n c ((k : Int) + 1) (k + 1) (by omega) (by omega)
 have hHeld : (r7zS w0 TB XB limit life now A n c l k x FA fn fc RO) w:=by exact X.out.blk 1 rfl
 refine rdy [2,7,10] ?_
 refine cons_lit rfl (fun K hK=>?ss2x88) (cons_lit rfl (fun K hK=>?ss7x88) (cons_lit rfl (fun K hK=>?ss10x88) AllReadyH.nil))
 case ss2x88 =>
  have xc:=X.out.cell 0 rfl 3 rfl
  go_simp
  clear xc
  have Y:=X
  refine hK.out _ _ (by exact Y.out.blk 1 rfl) (fun hHeld=>?_)
  clear hK K
  try simp only [Act.put,jA,jB,jC]
  refine' tk (i:=4) rfl ?U89 ?V89
  case U89=>intro w' hSw;go_simp;try (with_reducible rfl)
  try simp only [Act.put,jA,jB,jC]
  rw [<- hF]
  exact r7zs2 H1.out g257 _ Y
 case ss7x88 =>
  go_simp
  obtain ⟨g264,hg264⟩ : ∃ g,g=w.heap.size:=⟨_,rfl⟩
  rw [<- hg264]
  refine nameW' (fun v hv=>?_)
  have Y:=Lib.hid (show SP w0 v ([.blk TB 70 #[.int .i64 limit,.int .i64 life,.int .i64 now,.slice A n c],.blk XB 125 #[.int .u32 x.src,.int .u32 x.dst,.int .u8 x.proto,.int .u16 x.id,.int .i64 x.begin_,.int .i64 (x.bytes : Int),.bool x.dead,.slice FA fn fc],.row 125 8 (some ⟨g257,0,none⟩) 0 0 [],.row 125 8 (some ⟨g264,0,none⟩) 1 1 [.int .u32 x.src,.int .u32 x.dst,.int .u8 x.proto,.int .u16 x.id,.int .i64 x.begin_,.int .i64 (x.bytes : Int),.bool x.dead,.slice FA fn fc]]++RO) by rw [hv];exact SP.pickT (A:=[_,_,_,_]) (B:=[_,_,_,_]) (C:=RO) (SP.rot (X.out.allocRow7 125 8 1 #[.int .u32 x.src,.int .u32 x.dst,.int .u8 x.proto,.int .u16 x.id,.int .i64 x.begin_,.int .i64 (x.bytes : Int),.bool x.dead,.slice FA fn fc] (by simp [maxLen]) rfl hg264.symm)) [1,2,3,0] rfl (by decide))
  clear hv hg264
  refine hK.out _ _ (by exact Y.out.blk 1 rfl) (fun hHeld=>?_)
  clear hK K
  try simp only [Act.put,jA,jB,jC]
  rw [<- hF]
  exact r7zs14 H1.out g257 g264 _ Y
 case ss10x88 =>
  have xc:=X.out.cell 0 rfl 3 rfl
  go_simp
  clear xc
  have Y:=X
  refine hK.out _ _ (by exact Y.out.blk 1 rfl) (fun hHeld=>?_)
  clear hK K
  try simp only [Act.put,jA,jB,jC]
  refine' tk (i:=13) rfl ?U112 ?V112
  case U112=>intro w' hSw;go_simp;try (with_reducible rfl)
  try simp only [Act.put,jA,jB,jC]
  rw [<- hF]
  exact r7zs16 H1.out g257 _ Y
set_option maxHeartbeats 1000000 in
set_option maxRecDepth 100000 in
theorem r7zs19 (H0 : r7zH w0 TB XB limit life now A n c l k x FA fn fc RO Q Fr) (g264 : Nat) (w : World) (X : Hid (SP w0 w ([.blk TB 70 #[.int .i64 limit,.int .i64 life,.int .i64 now,.slice A n c],.blk XB 125 #[.int .u32 x.src,.int .u32 x.dst,.int .u8 x.proto,.int .u16 x.id,.int .i64 x.begin_,.int .i64 (x.bytes : Int),.bool x.dead,.slice FA fn fc],.row 125 8 (some ⟨g264,0,none⟩) 1 1 [.int .u32 x.src,.int .u32 x.dst,.int .u8 x.proto,.int .u16 x.id,.int .i64 x.begin_,.int .i64 (x.bytes : Int),.bool x.dead,.slice FA fn fc]]++RO))) :
 wpAnyH Tryz.prog .any (opsAt Tryz.f27 47) (NoPanic Q) (r7zS w0 TB XB limit life now A n c l k x FA fn fc RO) 6 #[false,true,true,true,true,false,true,true,false,true,true,true,true,true,false,false,false] (Fr y257 y258 y259 y260 (.slice A k c) y262 y263 (.slice (some ⟨g264,0,none⟩) 1 1) y265 y266 y267 y268 y269 (.slice (cutM 8 A c (k + 1)) (n - (k + 1)) (c - (k + 1))) y271 y272) w:=by
 have H1:=Lib.hid H0
 obtain ⟨HP,⟨u,hF⟩,HQ⟩:=H0
 rw [hF]
 obtain ⟨i0,hi0,hz0,hz1,hz2⟩:=info_parts info7E
 have hn:=HP.out.hn
 have hc:=HP.out.hc
 have hk:=HP.out.hk
 have g1 : (0 : Int)<=(k : Int):=by omega
 have g2 : (k : Int)<=(c : Int):=by omega
 have e1 : IntKind.i64.wrap ((k : Int) + 1)=(k : Int) + 1:=IntWalk.i64_in _ (by omega)
 have s1:=fun W=>run_slice_loM (P:=Tryz.prog) W Tryz.underlying68 hi0 hz1 A n c ((k : Int) + 1) (k + 1) (by omega) (by omega)
 have hHeld : (r7zS w0 TB XB limit life now A n c l k x FA fn fc RO) w:=by exact X.out.blk 1 rfl
 refine rdy [0] ?_
 refine cons_lit rfl (fun K hK=>?ss0x119) AllReadyH.nil
 case ss0x119 =>
  go_simp
  obtain ⟨g257,hg257⟩ : ∃ g,g=w.heap.size:=⟨_,rfl⟩
  rw [<- hg257]
  refine nameW' (fun v hv=>?_)
  have Y:=Lib.hid (show SP w0 v ([.blk TB 70 #[.int .i64 limit,.int .i64 life,.int .i64 now,.slice A n c],.blk XB 125 #[.int .u32 x.src,.int .u32 x.dst,.int .u8 x.proto,.int .u16 x.id,.int .i64 x.begin_,.int .i64 (x.bytes : Int),.bool x.dead,.slice FA fn fc],.row 125 8 (some ⟨g257,0,none⟩) 0 0 [],.row 125 8 (some ⟨g264,0,none⟩) 1 1 [.int .u32 x.src,.int .u32 x.dst,.int .u8 x.proto,.int .u16 x.id,.int .i64 x.begin_,.int .i64 (x.bytes : Int),.bool x.dead,.slice FA fn fc]]++RO) by rw [hv];exact SP.pickT (A:=[_,_,_,_]) (B:=[_,_,_,_]) (C:=RO) (SP.rot (X.out.allocRow7 125 8 0 #[] (Nat.zero_le _) rfl hg257.symm)) [1,2,0,3] rfl (by decide))
  clear hv hg257
  refine hK.out _ _ (by exact Y.out.blk 1 rfl) (fun hHeld=>?_)
  clear hK K
  try simp only [Act.put,jA,jB,jC]
  rw [<- hF]
  exact r7zs12 H1.out g257 g264 _ Y
set_option maxHeartbeats 1000000 in
set_option maxRecDepth 100000 in
theorem r7zs18 (H0 : r7zH w0 TB XB limit life now A n c l k x FA fn fc RO Q Fr) (g264 : Nat) (w : World) (X : Hid (SP w0 w ([.blk TB 70 #[.int .i64 limit,.int .i64 life,.int .i64 now,.slice A n c],.blk XB 125 #[.int .u32 x.src,.int .u32 x.dst,.int .u8 x.proto,.int .u16 x.id,.int .i64 x.begin_,.int .i64 (x.bytes : Int),.bool x.dead,.slice FA fn fc],.row 125 8 (some ⟨g264,0,none⟩) 1 1 [.int .u32 x.src,.int .u32 x.dst,.int .u8 x.proto,.int .u16 x.id,.int .i64 x.begin_,.int .i64 (x.bytes : Int),.bool x.dead,.slice FA fn fc]]++RO))) :
 wpAnyH Tryz.prog .any (opsAt Tryz.f27 47) (NoPanic Q) (r7zS w0 TB XB limit life now A n c l k x FA fn fc RO) 8 #[false,true,true,true,true,false,true,true,false,true,false,true,true,false,false,false,false] (Fr y257 y258 y259 y260 (.slice A k c) y262 y263 (.slice (some ⟨g264,0,none⟩) 1 1) y265 (.pointer (some ⟨TB,3,none⟩)) y267 y268 (.int .i64 ((k : Int) + 1)) y270 y271 y272) w:=by
 have H1:=Lib.hid H0
 obtain ⟨HP,⟨u,hF⟩,HQ⟩:=H0
 rw [hF]
 obtain ⟨i0,hi0,hz0,hz1,hz2⟩:=info_parts info7E
 have hn:=HP.out.hn
 have hc:=HP.out.hc
 have hk:=HP.out.hk
 have g1 : (0 : Int)<=(k : Int):=by omega
 have g2 : (k : Int)<=(c : Int):=by omega
 have e1 : IntKind.i64.wrap ((k : Int) + 1)=(k : Int) + 1:=IntWalk.i64_in _ (by omega)
 have s1:=fun W=>run_slice_loM (P:=Tryz.prog) W Tryz.underlying68 hi0 hz1 A n c ((k : Int) + 1) (k + 1) (by omega) (by omega)
 have hHeld : (r7zS w0 TB XB limit life now A n c l k x FA fn fc RO) w:=by exact X.out.blk 1 rfl
 refine rdy [0,10] ?_
 refine cons_lit rfl (fun K hK=>?ss0x117) (cons_lit rfl (fun K hK=>?ss10x117) AllReadyH.nil)
 case ss0x117 =>
  go_simp
  obtain ⟨g257,hg257⟩ : ∃ g,g=w.heap.size:=⟨_,rfl⟩
  rw [<- hg257]
  refine nameW' (fun v hv=>?_)
  have Y:=Lib.hid (show SP w0 v ([.blk TB 70 #[.int .i64 limit,.int .i64 life,.int .i64 now,.slice A n c],.blk XB 125 #[.int .u32 x.src,.int .u32 x.dst,.int .u8 x.proto,.int .u16 x.id,.int .i64 x.begin_,.int .i64 (x.bytes : Int),.bool x.dead,.slice FA fn fc],.row 125 8 (some ⟨g257,0,none⟩) 0 0 [],.row 125 8 (some ⟨g264,0,none⟩) 1 1 [.int .u32 x.src,.int .u32 x.dst,.int .u8 x.proto,.int .u16 x.id,.int .i64 x.begin_,.int .i64 (x.bytes : Int),.bool x.dead,.slice FA fn fc]]++RO) by rw [hv];exact SP.pickT (A:=[_,_,_,_]) (B:=[_,_,_,_]) (C:=RO) (SP.rot (X.out.allocRow7 125 8 0 #[] (Nat.zero_le _) rfl hg257.symm)) [1,2,0,3] rfl (by decide))
  clear hv hg257
  refine hK.out _ _ (by exact Y.out.blk 1 rfl) (fun hHeld=>?_)
  clear hK K
  try simp only [Act.put,jA,jB,jC]
  rw [<- hF]
  exact r7zs11 H1.out g257 g264 _ Y
 case ss10x117 =>
  have xc:=X.out.cell 0 rfl 3 rfl
  go_simp
  clear xc
  have Y:=X
  refine hK.out _ _ (by exact Y.out.blk 1 rfl) (fun hHeld=>?_)
  clear hK K
  try simp only [Act.put,jA,jB,jC]
  refine' tk (i:=13) rfl ?U118 ?V118
  case U118=>intro w' hSw;go_simp;try (with_reducible rfl)
  try simp only [Act.put,jA,jB,jC]
  rw [<- hF]
  exact r7zs19 H1.out g264 _ Y
set_option maxHeartbeats 1000000 in
set_option maxRecDepth 100000 in
theorem r7zs20 (H0 : r7zH w0 TB XB limit life now A n c l k x FA fn fc RO Q Fr) (w : World) (X : Hid (SP w0 w ([.blk TB 70 #[.int .i64 limit,.int .i64 life,.int .i64 now,.slice A n c],.blk XB 125 #[.int .u32 x.src,.int .u32 x.dst,.int .u8 x.proto,.int .u16 x.id,.int .i64 x.begin_,.int .i64 (x.bytes : Int),.bool x.dead,.slice FA fn fc]]++RO))) :
 wpAnyH Tryz.prog .any (opsAt Tryz.f27 47) (NoPanic Q) (r7zS w0 TB XB limit life now A n c l k x FA fn fc RO) 7 #[false,true,true,true,true,false,true,false,false,true,true,true,true,true,false,false,false] (Fr y257 y258 y259 y260 (.slice A k c) y262 (.agg #[.int .u32 x.src,.int .u32 x.dst,.int .u8 x.proto,.int .u16 x.id,.int .i64 x.begin_,.int .i64 (x.bytes : Int),.bool x.dead,.slice FA fn fc]) y264 y265 y266 y267 y268 y269 (.slice (cutM 8 A c (k + 1)) (n - (k + 1)) (c - (k + 1))) y271 y272) w:=by
 have H1:=Lib.hid H0
 obtain ⟨HP,⟨u,hF⟩,HQ⟩:=H0
 rw [hF]
 obtain ⟨i0,hi0,hz0,hz1,hz2⟩:=info_parts info7E
 have hn:=HP.out.hn
 have hc:=HP.out.hc
 have hk:=HP.out.hk
 have g1 : (0 : Int)<=(k : Int):=by omega
 have g2 : (k : Int)<=(c : Int):=by omega
 have e1 : IntKind.i64.wrap ((k : Int) + 1)=(k : Int) + 1:=IntWalk.i64_in _ (by omega)
 have s1:=fun W=>run_slice_loM (P:=Tryz.prog) W Tryz.underlying68 hi0 hz1 A n c ((k : Int) + 1) (k + 1) (by omega) (by omega)
 have hHeld : (r7zS w0 TB XB limit life now A n c l k x FA fn fc RO) w:=by exact X.out.blk 1 rfl
 refine rdy [0,7] ?_
 refine cons_lit rfl (fun K hK=>?ss0x121) (cons_lit rfl (fun K hK=>?ss7x121) AllReadyH.nil)
 case ss0x121 =>
  go_simp
  obtain ⟨g257,hg257⟩ : ∃ g,g=w.heap.size:=⟨_,rfl⟩
  rw [<- hg257]
  refine nameW' (fun v hv=>?_)
  have Y:=Lib.hid (show SP w0 v ([.blk TB 70 #[.int .i64 limit,.int .i64 life,.int .i64 now,.slice A n c],.blk XB 125 #[.int .u32 x.src,.int .u32 x.dst,.int .u8 x.proto,.int .u16 x.id,.int .i64 x.begin_,.int .i64 (x.bytes : Int),.bool x.dead,.slice FA fn fc],.row 125 8 (some ⟨g257,0,none⟩) 0 0 []]++RO) by rw [hv];exact SP.pickT (A:=[_,_,_]) (B:=[_,_,_]) (C:=RO) (SP.rot (X.out.allocRow7 125 8 0 #[] (Nat.zero_le _) rfl hg257.symm)) [1,2,0] rfl (by decide))
  clear hv hg257
  refine hK.out _ _ (by exact Y.out.blk 1 rfl) (fun hHeld=>?_)
  clear hK K
  try simp only [Act.put,jA,jB,jC]
  rw [<- hF]
  exact r7zs13 H1.out g257 _ Y
 case ss7x121 =>
  go_simp
  obtain ⟨g264,hg264⟩ : ∃ g,g=w.heap.size:=⟨_,rfl⟩
  rw [<- hg264]
  refine nameW' (fun v hv=>?_)
  have Y:=Lib.hid (show SP w0 v ([.blk TB 70 #[.int .i64 limit,.int .i64 life,.int .i64 now,.slice A n c],.blk XB 125 #[.int .u32 x.src,.int .u32 x.dst,.int .u8 x.proto,.int .u16 x.id,.int .i64 x.begin_,.int .i64 (x.bytes : Int),.bool x.dead,.slice FA fn fc],.row 125 8 (some ⟨g264,0,none⟩) 1 1 [.int .u32 x.src,.int .u32 x.dst,.int .u8 x.proto,.int .u16 x.id,.int .i64 x.begin_,.int .i64 (x.bytes : Int),.bool x.dead,.slice FA fn fc]]++RO) by rw [hv];exact SP.pickT (A:=[_,_,_]) (B:=[_,_,_]) (C:=RO) (SP.rot (X.out.allocRow7 125 8 1 #[.int .u32 x.src,.int .u32 x.dst,.int .u8 x.proto,.int .u16 x.id,.int .i64 x.begin_,.int .i64 (x.bytes : Int),.bool x.dead,.slice FA fn fc] (by simp [maxLen]) rfl hg264.symm)) [1,2,0] rfl (by decide))
  clear hv hg264
  refine hK.out _ _ (by exact Y.out.blk 1 rfl) (fun hHeld=>?_)
  clear hK K
  try simp only [Act.put,jA,jB,jC]
  rw [<- hF]
  exact r7zs19 H1.out g264 _ Y
set_option maxHeartbeats 1000000 in
set_option maxRecDepth 100000 in
theorem r7zs17 (H0 : r7zH w0 TB XB limit life now A n c l k x FA fn fc RO Q Fr) (w : World) (X : Hid (SP w0 w ([.blk TB 70 #[.int .i64 limit,.int .i64 life,.int .i64 now,.slice A n c],.blk XB 125 #[.int .u32 x.src,.int .u32 x.dst,.int .u8 x.proto,.int .u16 x.id,.int .i64 x.begin_,.int .i64 (x.bytes : Int),.bool x.dead,.slice FA fn fc]]++RO))) :
 wpAnyH Tryz.prog .any (opsAt Tryz.f27 47) (NoPanic Q) (r7zS w0 TB XB limit life now A n c l k x FA fn fc RO) 9 #[false,true,true,true,true,false,true,false,false,true,false,true,true,false,false,false,false] (Fr y257 y258 y259 y260 (.slice A k c) y262 (.agg #[.int .u32 x.src,.int .u32 x.dst,.int .u8 x.proto,.int .u16 x.id,.int .i64 x.begin_,.int .i64 (x.bytes : Int),.bool x.dead,.slice FA fn fc]) y264 y265 (.pointer (some ⟨TB,3,none⟩)) y267 y268 (.int .i64 ((k : Int) + 1)) y270 y271 y272) w:=by
 have H1:=Lib.hid H0
 obtain ⟨HP,⟨u,hF⟩,HQ⟩:=H0
 rw [hF]
 obtain ⟨i0,hi0,hz0,hz1,hz2⟩:=info_parts info7E
 have hn:=HP.out.hn
 have hc:=HP.out.hc
 have hk:=HP.out.hk
 have g1 : (0 : Int)<=(k : Int):=by omega
 have g2 : (k : Int)<=(c : Int):=by omega
 have e1 : IntKind.i64.wrap ((k : Int) + 1)=(k : Int) + 1:=IntWalk.i64_in _ (by omega)
 have s1:=fun W=>run_slice_loM (P:=Tryz.prog) W Tryz.underlying68 hi0 hz1 A n c ((k : Int) + 1) (k + 1) (by omega) (by omega)
 have hHeld : (r7zS w0 TB XB limit life now A n c l k x FA fn fc RO) w:=by exact X.out.blk 1 rfl
 refine rdy [0,7,10] ?_
 refine cons_lit rfl (fun K hK=>?ss0x116) (cons_lit rfl (fun K hK=>?ss7x116) (cons_lit rfl (fun K hK=>?ss10x116) AllReadyH.nil))
 case ss0x116 =>
  go_simp
  obtain ⟨g257,hg257⟩ : ∃ g,g=w.heap.size:=⟨_,rfl⟩
  rw [<- hg257]
  refine nameW' (fun v hv=>?_)
  have Y:=Lib.hid (show SP w0 v ([.blk TB 70 #[.int .i64 limit,.int .i64 life,.int .i64 now,.slice A n c],.blk XB 125 #[.int .u32 x.src,.int .u32 x.dst,.int .u8 x.proto,.int .u16 x.id,.int .i64 x.begin_,.int .i64 (x.bytes : Int),.bool x.dead,.slice FA fn fc],.row 125 8 (some ⟨g257,0,none⟩) 0 0 []]++RO) by rw [hv];exact SP.pickT (A:=[_,_,_]) (B:=[_,_,_]) (C:=RO) (SP.rot (X.out.allocRow7 125 8 0 #[] (Nat.zero_le _) rfl hg257.symm)) [1,2,0] rfl (by decide))
  clear hv hg257
  refine hK.out _ _ (by exact Y.out.blk 1 rfl) (fun hHeld=>?_)
  clear hK K
  try simp only [Act.put,jA,jB,jC]
  rw [<- hF]
  exact r7zs2 H1.out g257 _ Y
 case ss7x116 =>
  go_simp
  obtain ⟨g264,hg264⟩ : ∃ g,g=w.heap.size:=⟨_,rfl⟩
  rw [<- hg264]
  refine nameW' (fun v hv=>?_)
  have Y:=Lib.hid (show SP w0 v ([.blk TB 70 #[.int .i64 limit,.int .i64 life,.int .i64 now,.slice A n c],.blk XB 125 #[.int .u32 x.src,.int .u32 x.dst,.int .u8 x.proto,.int .u16 x.id,.int .i64 x.begin_,.int .i64 (x.bytes : Int),.bool x.dead,.slice FA fn fc],.row 125 8 (some ⟨g264,0,none⟩) 1 1 [.int .u32 x.src,.int .u32 x.dst,.int .u8 x.proto,.int .u16 x.id,.int .i64 x.begin_,.int .i64 (x.bytes : Int),.bool x.dead,.slice FA fn fc]]++RO) by rw [hv];exact SP.pickT (A:=[_,_,_]) (B:=[_,_,_]) (C:=RO) (SP.rot (X.out.allocRow7 125 8 1 #[.int .u32 x.src,.int .u32 x.dst,.int .u8 x.proto,.int .u16 x.id,.int .i64 x.begin_,.int .i64 (x.bytes : Int),.bool x.dead,.slice FA fn fc] (by simp [maxLen]) rfl hg264.symm)) [1,2,0] rfl (by decide))
  clear hv hg264
  refine hK.out _ _ (by exact Y.out.blk 1 rfl) (fun hHeld=>?_)
  clear hK K
  try simp only [Act.put,jA,jB,jC]
  rw [<- hF]
  exact r7zs18 H1.out g264 _ Y
 case ss10x116 =>
  have xc:=X.out.cell 0 rfl 3 rfl
  go_simp
  clear xc
  have Y:=X
  refine hK.out _ _ (by exact Y.out.blk 1 rfl) (fun hHeld=>?_)
  clear hK K
  try simp only [Act.put,jA,jB,jC]
  refine' tk (i:=13) rfl ?U120 ?V120
  case U120=>intro w' hSw;go_simp;try (with_reducible rfl)
  try simp only [Act.put,jA,jB,jC]
  rw [<- hF]
  exact r7zs20 H1.out  _ Y
set_option maxHeartbeats 1000000 in
set_option maxRecDepth 100000 in
theorem r7zs22 (H0 : r7zH w0 TB XB limit life now A n c l k x FA fn fc RO Q Fr) (g264 : Nat) (w : World) (X : Hid (SP w0 w ([.blk TB 70 #[.int .i64 limit,.int .i64 life,.int .i64 now,.slice A n c],.blk XB 125 #[.int .u32 x.src,.int .u32 x.dst,.int .u8 x.proto,.int .u16 x.id,.int .i64 x.begin_,.int .i64 (x.bytes : Int),.bool x.dead,.slice FA fn fc],.row 125 8 (some ⟨g264,0,none⟩) 1 1 [.int .u32 x.src,.int .u32 x.dst,.int .u8 x.proto,.int .u16 x.id,.int .i64 x.begin_,.int .i64 (x.bytes : Int),.bool x.dead,.slice FA fn fc]]++RO))) :
 wpAnyH Tryz.prog .any (opsAt Tryz.f27 47) (NoPanic Q) (r7zS w0 TB XB limit life now A n c l k x FA fn fc RO) 8 #[false,true,false,true,false,false,true,true,false,true,true,true,true,true,false,false,false] (Fr y257 (.pointer (some ⟨TB,3,none⟩)) y259 (.int .i64 (k : Int)) y261 y262 y263 (.slice (some ⟨g264,0,none⟩) 1 1) y265 y266 y267 y268 y269 (.slice (cutM 8 A c (k + 1)) (n - (k + 1)) (c - (k + 1))) y271 y272) w:=by
 have H1:=Lib.hid H0
 obtain ⟨HP,⟨u,hF⟩,HQ⟩:=H0
 rw [hF]
 obtain ⟨i0,hi0,hz0,hz1,hz2⟩:=info_parts info7E
 have hn:=HP.out.hn
 have hc:=HP.out.hc
 have hk:=HP.out.hk
 have g1 : (0 : Int)<=(k : Int):=by omega
 have g2 : (k : Int)<=(c : Int):=by omega
 have e1 : IntKind.i64.wrap ((k : Int) + 1)=(k : Int) + 1:=IntWalk.i64_in _ (by omega)
 have s1:=fun W=>run_slice_loM (P:=Tryz.prog) W Tryz.underlying68 hi0 hz1 A n c ((k : Int) + 1) (k + 1) (by omega) (by omega)
 have hHeld : (r7zS w0 TB XB limit life now A n c l k x FA fn fc RO) w:=by exact X.out.blk 1 rfl
 refine rdy [0,2] ?_
 refine cons_lit rfl (fun K hK=>?ss0x125) (cons_lit rfl (fun K hK=>?ss2x125) AllReadyH.nil)
 case ss0x125 =>
  go_simp
  obtain ⟨g257,hg257⟩ : ∃ g,g=w.heap.size:=⟨_,rfl⟩
  rw [<- hg257]
  refine nameW' (fun v hv=>?_)
  have Y:=Lib.hid (show SP w0 v ([.blk TB 70 #[.int .i64 limit,.int .i64 life,.int .i64 now,.slice A n c],.blk XB 125 #[.int .u32 x.src,.int .u32 x.dst,.int .u8 x.proto,.int .u16 x.id,.int .i64 x.begin_,.int .i64 (x.bytes : Int),.bool x.dead,.slice FA fn fc],.row 125 8 (some ⟨g257,0,none⟩) 0 0 [],.row 125 8 (some ⟨g264,0,none⟩) 1 1 [.int .u32 x.src,.int .u32 x.dst,.int .u8 x.proto,.int .u16 x.id,.int .i64 x.begin_,.int .i64 (x.bytes : Int),.bool x.dead,.slice FA fn fc]]++RO) by rw [hv];exact SP.pickT (A:=[_,_,_,_]) (B:=[_,_,_,_]) (C:=RO) (SP.rot (X.out.allocRow7 125 8 0 #[] (Nat.zero_le _) rfl hg257.symm)) [1,2,0,3] rfl (by decide))
  clear hv hg257
  refine hK.out _ _ (by exact Y.out.blk 1 rfl) (fun hHeld=>?_)
  clear hK K
  try simp only [Act.put,jA,jB,jC]
  rw [<- hF]
  exact r7zs15 H1.out g257 g264 _ Y
 case ss2x125 =>
  have xc:=X.out.cell 0 rfl 3 rfl
  go_simp
  clear xc
  have Y:=X
  refine hK.out _ _ (by exact Y.out.blk 1 rfl) (fun hHeld=>?_)
  clear hK K
  try simp only [Act.put,jA,jB,jC]
  refine' tk (i:=4) rfl ?U126 ?V126
  case U126=>intro w' hSw;go_simp;try (with_reducible rfl)
  try simp only [Act.put,jA,jB,jC]
  rw [<- hF]
  exact r7zs19 H1.out g264 _ Y
set_option maxHeartbeats 1000000 in
set_option maxRecDepth 100000 in
theorem r7zs21 (H0 : r7zH w0 TB XB limit life now A n c l k x FA fn fc RO Q Fr) (g264 : Nat) (w : World) (X : Hid (SP w0 w ([.blk TB 70 #[.int .i64 limit,.int .i64 life,.int .i64 now,.slice A n c],.blk XB 125 #[.int .u32 x.src,.int .u32 x.dst,.int .u8 x.proto,.int .u16 x.id,.int .i64 x.begin_,.int .i64 (x.bytes : Int),.bool x.dead,.slice FA fn fc],.row 125 8 (some ⟨g264,0,none⟩) 1 1 [.int .u32 x.src,.int .u32 x.dst,.int .u8 x.proto,.int .u16 x.id,.int .i64 x.begin_,.int .i64 (x.bytes : Int),.bool x.dead,.slice FA fn fc]]++RO))) :
 wpAnyH Tryz.prog .any (opsAt Tryz.f27 47) (NoPanic Q) (r7zS w0 TB XB limit life now A n c l k x FA fn fc RO) 10 #[false,true,false,true,false,false,true,true,false,true,false,true,true,false,false,false,false] (Fr y257 (.pointer (some ⟨TB,3,none⟩)) y259 (.int .i64 (k : Int)) y261 y262 y263 (.slice (some ⟨g264,0,none⟩) 1 1) y265 (.pointer (some ⟨TB,3,none⟩)) y267 y268 (.int .i64 ((k : Int) + 1)) y270 y271 y272) w:=by
 have H1:=Lib.hid H0
 obtain ⟨HP,⟨u,hF⟩,HQ⟩:=H0
 rw [hF]
 obtain ⟨i0,hi0,hz0,hz1,hz2⟩:=info_parts info7E
 have hn:=HP.out.hn
 have hc:=HP.out.hc
 have hk:=HP.out.hk
 have g1 : (0 : Int)<=(k : Int):=by omega
 have g2 : (k : Int)<=(c : Int):=by omega
 have e1 : IntKind.i64.wrap ((k : Int) + 1)=(k : Int) + 1:=IntWalk.i64_in _ (by omega)
 have s1:=fun W=>run_slice_loM (P:=Tryz.prog) W Tryz.underlying68 hi0 hz1 A n c ((k : Int) + 1) (k + 1) (by omega) (by omega)
 have hHeld : (r7zS w0 TB XB limit life now A n c l k x FA fn fc RO) w:=by exact X.out.blk 1 rfl
 refine rdy [0,2,10] ?_
 refine cons_lit rfl (fun K hK=>?ss0x122) (cons_lit rfl (fun K hK=>?ss2x122) (cons_lit rfl (fun K hK=>?ss10x122) AllReadyH.nil))
 case ss0x122 =>
  go_simp
  obtain ⟨g257,hg257⟩ : ∃ g,g=w.heap.size:=⟨_,rfl⟩
  rw [<- hg257]
  refine nameW' (fun v hv=>?_)
  have Y:=Lib.hid (show SP w0 v ([.blk TB 70 #[.int .i64 limit,.int .i64 life,.int .i64 now,.slice A n c],.blk XB 125 #[.int .u32 x.src,.int .u32 x.dst,.int .u8 x.proto,.int .u16 x.id,.int .i64 x.begin_,.int .i64 (x.bytes : Int),.bool x.dead,.slice FA fn fc],.row 125 8 (some ⟨g257,0,none⟩) 0 0 [],.row 125 8 (some ⟨g264,0,none⟩) 1 1 [.int .u32 x.src,.int .u32 x.dst,.int .u8 x.proto,.int .u16 x.id,.int .i64 x.begin_,.int .i64 (x.bytes : Int),.bool x.dead,.slice FA fn fc]]++RO) by rw [hv];exact SP.pickT (A:=[_,_,_,_]) (B:=[_,_,_,_]) (C:=RO) (SP.rot (X.out.allocRow7 125 8 0 #[] (Nat.zero_le _) rfl hg257.symm)) [1,2,0,3] rfl (by decide))
  clear hv hg257
  refine hK.out _ _ (by exact Y.out.blk 1 rfl) (fun hHeld=>?_)
  clear hK K
  try simp only [Act.put,jA,jB,jC]
  rw [<- hF]
  exact r7zs14 H1.out g257 g264 _ Y
 case ss2x122 =>
  have xc:=X.out.cell 0 rfl 3 rfl
  go_simp
  clear xc
  have Y:=X
  refine hK.out _ _ (by exact Y.out.blk 1 rfl) (fun hHeld=>?_)
  clear hK K
  try simp only [Act.put,jA,jB,jC]
  refine' tk (i:=4) rfl ?U123 ?V123
  case U123=>intro w' hSw;go_simp;try (with_reducible rfl)
  try simp only [Act.put,jA,jB,jC]
  rw [<- hF]
  exact r7zs18 H1.out g264 _ Y
 case ss10x122 =>
  have xc:=X.out.cell 0 rfl 3 rfl
  go_simp
  clear xc
  have Y:=X
  refine hK.out _ _ (by exact Y.out.blk 1 rfl) (fun hHeld=>?_)
  clear hK K
  try simp only [Act.put,jA,jB,jC]
  refine' tk (i:=13) rfl ?U124 ?V124
  case U124=>intro w' hSw;go_simp;try (with_reducible rfl)
  try simp only [Act.put,jA,jB,jC]
  rw [<- hF]
  exact r7zs22 H1.out g264 _ Y
set_option maxHeartbeats 1000000 in
set_option maxRecDepth 100000 in
theorem r7zs23 (H0 : r7zH w0 TB XB limit life now A n c l k x FA fn fc RO Q Fr) (w : World) (X : Hid (SP w0 w ([.blk TB 70 #[.int .i64 limit,.int .i64 life,.int .i64 now,.slice A n c],.blk XB 125 #[.int .u32 x.src,.int .u32 x.dst,.int .u8 x.proto,.int .u16 x.id,.int .i64 x.begin_,.int .i64 (x.bytes : Int),.bool x.dead,.slice FA fn fc]]++RO))) :
 wpAnyH Tryz.prog .any (opsAt Tryz.f27 47) (NoPanic Q) (r7zS w0 TB XB limit life now A n c l k x FA fn fc RO) 9 #[false,true,false,true,false,false,true,false,false,true,true,true,true,true,false,false,false] (Fr y257 (.pointer (some ⟨TB,3,none⟩)) y259 (.int .i64 (k : Int)) y261 y262 (.agg #[.int .u32 x.src,.int .u32 x.dst,.int .u8 x.proto,.int .u16 x.id,.int .i64 x.begin_,.int .i64 (x.bytes : Int),.bool x.dead,.slice FA fn fc]) y264 y265 y266 y267 y268 y269 (.slice (cutM 8 A c (k + 1)) (n - (k + 1)) (c - (k + 1))) y271 y272) w:=by
 have H1:=Lib.hid H0
 obtain ⟨HP,⟨u,hF⟩,HQ⟩:=H0
 rw [hF]
 obtain ⟨i0,hi0,hz0,hz1,hz2⟩:=info_parts info7E
 have hn:=HP.out.hn
 have hc:=HP.out.hc
 have hk:=HP.out.hk
 have g1 : (0 : Int)<=(k : Int):=by omega
 have g2 : (k : Int)<=(c : Int):=by omega
 have e1 : IntKind.i64.wrap ((k : Int) + 1)=(k : Int) + 1:=IntWalk.i64_in _ (by omega)
 have s1:=fun W=>run_slice_loM (P:=Tryz.prog) W Tryz.underlying68 hi0 hz1 A n c ((k : Int) + 1) (k + 1) (by omega) (by omega)
 have hHeld : (r7zS w0 TB XB limit life now A n c l k x FA fn fc RO) w:=by exact X.out.blk 1 rfl
 refine rdy [0,2,7] ?_
 refine cons_lit rfl (fun K hK=>?ss0x128) (cons_lit rfl (fun K hK=>?ss2x128) (cons_lit rfl (fun K hK=>?ss7x128) AllReadyH.nil))
 case ss0x128 =>
  go_simp
  obtain ⟨g257,hg257⟩ : ∃ g,g=w.heap.size:=⟨_,rfl⟩
  rw [<- hg257]
  refine nameW' (fun v hv=>?_)
  have Y:=Lib.hid (show SP w0 v ([.blk TB 70 #[.int .i64 limit,.int .i64 life,.int .i64 now,.slice A n c],.blk XB 125 #[.int .u32 x.src,.int .u32 x.dst,.int .u8 x.proto,.int .u16 x.id,.int .i64 x.begin_,.int .i64 (x.bytes : Int),.bool x.dead,.slice FA fn fc],.row 125 8 (some ⟨g257,0,none⟩) 0 0 []]++RO) by rw [hv];exact SP.pickT (A:=[_,_,_]) (B:=[_,_,_]) (C:=RO) (SP.rot (X.out.allocRow7 125 8 0 #[] (Nat.zero_le _) rfl hg257.symm)) [1,2,0] rfl (by decide))
  clear hv hg257
  refine hK.out _ _ (by exact Y.out.blk 1 rfl) (fun hHeld=>?_)
  clear hK K
  try simp only [Act.put,jA,jB,jC]
  rw [<- hF]
  exact r7zs16 H1.out g257 _ Y
 case ss2x128 =>
  have xc:=X.out.cell 0 rfl 3 rfl
  go_simp
  clear xc
  have Y:=X
  refine hK.out _ _ (by exact Y.out.blk 1 rfl) (fun hHeld=>?_)
  clear hK K
  try simp only [Act.put,jA,jB,jC]
  refine' tk (i:=4) rfl ?U129 ?V129
  case U129=>intro w' hSw;go_simp;try (with_reducible rfl)
  try simp only [Act.put,jA,jB,jC]
  rw [<- hF]
  exact r7zs20 H1.out  _ Y
 case ss7x128 =>
  go_simp
  obtain ⟨g264,hg264⟩ : ∃ g,g=w.heap.size:=⟨_,rfl⟩
  rw [<- hg264]
  refine nameW' (fun v hv=>?_)
  have Y:=Lib.hid (show SP w0 v ([.blk TB 70 #[.int .i64 limit,.int .i64 life,.int .i64 now,.slice A n c],.blk XB 125 #[.int .u32 x.src,.int .u32 x.dst,.int .u8 x.proto,.int .u16 x.id,.int .i64 x.begin_,.int .i64 (x.bytes : Int),.bool x.dead,.slice FA fn fc],.row 125 8 (some ⟨g264,0,none⟩) 1 1 [.int .u32 x.src,.int .u32 x.dst,.int .u8 x.proto,.int .u16 x.id,.int .i64 x.begin_,.int .i64 (x.bytes : Int),.bool x.dead,.slice FA fn fc]]++RO) by rw [hv];exact SP.pickT (A:=[_,_,_]) (B:=[_,_,_]) (C:=RO) (SP.rot (X.out.allocRow7 125 8 1 #[.int .u32 x.src,.int .u32 x.dst,.int .u8 x.proto,.int .u16 x.id,.int .i64 x.begin_,.int .i64 (x.bytes : Int),.bool x.dead,.slice FA fn fc] (by simp [maxLen]) rfl hg264.symm)) [1,2,0] rfl (by decide))
  clear hv hg264
  refine hK.out _ _ (by exact Y.out.blk 1 rfl) (fun hHeld=>?_)
  clear hK K
  try simp only [Act.put,jA,jB,jC]
  rw [<- hF]
  exact r7zs22 H1.out g264 _ Y
set_option maxHeartbeats 1000000 in
set_option maxRecDepth 100000 in
theorem r7zs0 (H0 : r7zH w0 TB XB limit life now A n c l k x FA fn fc RO Q Fr) (w : World) (X : Hid (SP w0 w ([.blk TB 70 #[.int .i64 limit,.int .i64 life,.int .i64 now,.slice A n c],.blk XB 125 #[.int .u32 x.src,.int .u32 x.dst,.int .u8 x.proto,.int .u16 x.id,.int .i64 x.begin_,.int .i64 (x.bytes : Int),.bool x.dead,.slice FA fn fc]]++RO))) :
 wpAnyH Tryz.prog .any (opsAt Tryz.f27 47) (NoPanic Q) (r7zS w0 TB XB limit life now A n c l k x FA fn fc RO) 17 #[false,false,false,false,false,false,false,false,false,false,false,false,false,false,false,false,false] (Fr y257 y258 y259 y260 y261 y262 y263 y264 y265 y266 y267 y268 y269 y270 y271 y272) w:=by
 have H1:=Lib.hid H0
 obtain ⟨HP,⟨u,hF⟩,HQ⟩:=H0
 rw [hF]
 obtain ⟨i0,hi0,hz0,hz1,hz2⟩:=info_parts info7E
 have hn:=HP.out.hn
 have hc:=HP.out.hc
 have hk:=HP.out.hk
 have g1 : (0 : Int)<=(k : Int):=by omega
 have g2 : (k : Int)<=(c : Int):=by omega
 have e1 : IntKind.i64.wrap ((k : Int) + 1)=(k : Int) + 1:=IntWalk.i64_in _ (by omega)
 have s1:=fun W=>run_slice_loM (P:=Tryz.prog) W Tryz.underlying68 hi0 hz1 A n c ((k : Int) + 1) (k + 1) (by omega) (by omega)
 have hHeld : (r7zS w0 TB XB limit life now A n c l k x FA fn fc RO) w:=by exact X.out.blk 1 rfl
 refine' tk (i:=1) rfl ?U81 ?V81
 case U81=>intro w' hSw;go_simp;try (with_reducible rfl)
 try simp only [Act.put,jA,jB,jC]
 refine' tk (i:=3) rfl ?U82 ?V82
 case U82=>intro w' hSw;go_simp;try (with_reducible rfl)
 try simp only [Act.put,jA,jB,jC]
 refine' take_lit (i:=6) (v:=.agg (#[.int .u32 x.src,.int .u32 x.dst,.int .u8 x.proto,.int .u16 x.id,.int .i64 x.begin_,.int .i64 (x.bytes : Int),.bool x.dead,.slice FA fn fc])) rfl (by kernel_rfl) (by kernel_rfl) (by kernel_rfl) (fun _ _ _ h=>h) (Or.inl ⟨by rfl,?yy83⟩) (by assumption) ?rr83
 case yy83=>intro w' hSw;exact exec_load_row 125 _ rfl XB rfl 125 (#[.int .u32 x.src,.int .u32 x.dst,.int .u8 x.proto,.int .u16 x.id,.int .i64 x.begin_,.int .i64 (x.bytes : Int),.bool x.dead,.slice FA fn fc]) (0,0) _ (hSw) Tryz.underlying125 rfl (by kernel_rfl)
 try simp only [Act.put,jA,jB,jC]
 refine' tk (i:=9) rfl ?U84 ?V84
 case U84=>intro w' hSw;go_simp;try (with_reducible rfl)
 try simp only [Act.put,jA,jB,jC]
 refine' tk (i:=11) rfl ?U85 ?V85
 case U85=>intro w' hSw;go_simp;try (with_reducible rfl)
 try simp only [Act.put,jA,jB,jC]
 refine' tk (i:=12) rfl ?U86 ?V86
 case U86=>intro w' hSw;go_simp;try (with_reducible rfl)
 try simp only [Act.put,jA,jB,jC]
 refine rdy [0,2,7,10] ?_
 refine cons_lit rfl (fun K hK=>?ss0x87) (cons_lit rfl (fun K hK=>?ss2x87) (cons_lit rfl (fun K hK=>?ss7x87) (cons_lit rfl (fun K hK=>?ss10x87) AllReadyH.nil)))
 case ss0x87 =>
  go_simp
  obtain ⟨g257,hg257⟩ : ∃ g,g=w.heap.size:=⟨_,rfl⟩
  rw [<- hg257]
  refine nameW' (fun v hv=>?_)
  have Y:=Lib.hid (show SP w0 v ([.blk TB 70 #[.int .i64 limit,.int .i64 life,.int .i64 now,.slice A n c],.blk XB 125 #[.int .u32 x.src,.int .u32 x.dst,.int .u8 x.proto,.int .u16 x.id,.int .i64 x.begin_,.int .i64 (x.bytes : Int),.bool x.dead,.slice FA fn fc],.row 125 8 (some ⟨g257,0,none⟩) 0 0 []]++RO) by rw [hv];exact SP.pickT (A:=[_,_,_]) (B:=[_,_,_]) (C:=RO) (SP.rot (X.out.allocRow7 125 8 0 #[] (Nat.zero_le _) rfl hg257.symm)) [1,2,0] rfl (by decide))
  clear hv hg257
  refine hK.out _ _ (by exact Y.out.blk 1 rfl) (fun hHeld=>?_)
  clear hK K
  try simp only [Act.put,jA,jB,jC]
  rw [<- hF]
  exact r7zs1 H1.out g257 _ Y
 case ss2x87 =>
  have xc:=X.out.cell 0 rfl 3 rfl
  go_simp
  clear xc
  have Y:=X
  refine hK.out _ _ (by exact Y.out.blk 1 rfl) (fun hHeld=>?_)
  clear hK K
  try simp only [Act.put,jA,jB,jC]
  refine' tk (i:=4) rfl ?U115 ?V115
  case U115=>intro w' hSw;go_simp;try (with_reducible rfl)
  try simp only [Act.put,jA,jB,jC]
  rw [<- hF]
  exact r7zs17 H1.out  _ Y
 case ss7x87 =>
  go_simp
  obtain ⟨g264,hg264⟩ : ∃ g,g=w.heap.size:=⟨_,rfl⟩
  rw [<- hg264]
  refine nameW' (fun v hv=>?_)
  have Y:=Lib.hid (show SP w0 v ([.blk TB 70 #[.int .i64 limit,.int .i64 life,.int .i64 now,.slice A n c],.blk XB 125 #[.int .u32 x.src,.int .u32 x.dst,.int .u8 x.proto,.int .u16 x.id,.int .i64 x.begin_,.int .i64 (x.bytes : Int),.bool x.dead,.slice FA fn fc],.row 125 8 (some ⟨g264,0,none⟩) 1 1 [.int .u32 x.src,.int .u32 x.dst,.int .u8 x.proto,.int .u16 x.id,.int .i64 x.begin_,.int .i64 (x.bytes : Int),.bool x.dead,.slice FA fn fc]]++RO) by rw [hv];exact SP.pickT (A:=[_,_,_]) (B:=[_,_,_]) (C:=RO) (SP.rot (X.out.allocRow7 125 8 1 #[.int .u32 x.src,.int .u32 x.dst,.int .u8 x.proto,.int .u16 x.id,.int .i64 x.begin_,.int .i64 (x.bytes : Int),.bool x.dead,.slice FA fn fc] (by simp [maxLen]) rfl hg264.symm)) [1,2,0] rfl (by decide))
  clear hv hg264
  refine hK.out _ _ (by exact Y.out.blk 1 rfl) (fun hHeld=>?_)
  clear hK K
  try simp only [Act.put,jA,jB,jC]
  rw [<- hF]
  exact r7zs21 H1.out g264 _ Y
 case ss10x87 =>
  have xc:=X.out.cell 0 rfl 3 rfl
  go_simp
  clear xc
  have Y:=X
  refine hK.out _ _ (by exact Y.out.blk 1 rfl) (fun hHeld=>?_)
  clear hK K
  try simp only [Act.put,jA,jB,jC]
  refine' tk (i:=13) rfl ?U127 ?V127
  case U127=>intro w' hSw;go_simp;try (with_reducible rfl)
  try simp only [Act.put,jA,jB,jC]
  rw [<- hF]
  exact r7zs23 H1.out  _ Y
end
set_option maxRecDepth 100000 in
theorem r7z_0 {u0 u1 u2 u4 u5 u6 u7 u8 u9 u10 u11 u12 u14 u15 u17 u18 u19 u20 u21 u22 u23 u24 u25 u26 u27 u28 u29 u30 u31 u32 u33 u34 u35 u36 u37 u38 u39 u40 u41 u42 u43 u44 u45 u46 u47 u48 u49 u50 u51 u52 u53 u54 u55 u56 u57 u58 u59 u60 u61 u62 u63 u64 u65 u66 u67 u68 u69 u70 u71 u72 u73 u74 u75 u76 u77 u78 u79 u80 u81 u82 u83 u84 u85 u86 u87 u88 u89 u90 u91 u92 u93 u94 u95 u96 u97 u98 u99 u100 u101 u102 u103 u104 u105 u106 u107 u108 u109 u110 u111 u112 u113 u114 u115 u116 u117 u118 u119 u120 u121 u122 u123 u124 u125 u126 u127 u128 u129 u130 u131 u132 u133 u134 u135 u136 u137 u138 u139 u140 u141 u142 u143 u144 u145 u146 u147 u148 u149 u150 u151 u152 u153 u154 u155 u156 u157 u158 u159 u160 u161 u162 u163 u164 u165 u166 u167 u168 u169 u170 u171 u172 u173 u174 u175 u176 u177 u178 u179 u180 u181 u182 u183 u184 u185 u186 u187 u188 u189 u190 u191 u192 u193 u194 u195 u196 u197 u198 u199 u200 u201 u202 u203 u204 u205 u206 u207 u208 u209 u210 u211 u212 u213 u214 u215 u216 u217 u218 u219 u220 u221 u222 u223 u224 u225 u226 u227 u228 u229 u230 u231 u232 u233 u234 u235 u236 u237 u238 u239 u240 u241 u242 u243 u244 u245 u246 u247 u248 u249 u250 u251 u252 u253 u254 u255 u256 u257 u258 u259 u260 u261 u262 u263 u264 u265 u266 u267 u268 u269 u270 u271 u272 u273 u274 u275 u276 u277 : Value} {Q : Exit->Act->World->Prop} {w0 : World} {TB XB : Nat} {limit life now : Int} {A : Option Addr} {n c : Nat} {l : List EM} {k : Nat} {x : RE} {FA : Option Addr} {fn fc : Nat} {RO : List IT} (HP : Hid (r7zP w0 TB XB limit life now A n c l k x FA fn fc RO)) (HQ : Hid (∀ (y257 y258 y259 y260 y261 y262 y263 y264 y265 y266 y267 y268 y269 y270 y271 y272 : Value) (g257 : Nat) (A262 : Option Addr) (c262 : Nat) (g264 : Nat) (A265 : Option Addr) (c265 : Nat) (A271 : Option Addr) (c271 : Nat) (w' : World),SP w0 w' ([.blk TB 70 #[.int .i64 limit,.int .i64 life,.int .i64 now,.slice A271 (k + 1 + (n - (k + 1))) c271],.blk XB 125 #[.int .u32 x.src,.int .u32 x.dst,.int .u8 x.proto,.int .u16 x.id,.int .i64 x.begin_,.int .i64 (x.bytes : Int),.bool x.dead,.slice FA fn fc],.row 125 8 A271 (k + 1 + (n - (k + 1))) c271 ((l.take k).flatMap EM.cells++[.int .u32 x.src,.int .u32 x.dst,.int .u8 x.proto,.int .u16 x.id,.int .i64 x.begin_,.int .i64 (x.bytes : Int),.bool x.dead,.slice FA fn fc]++(l.drop (k + 1)).flatMap EM.cells)]++RO)->Q .normal ⟨List.toArray (u0::u1::u2::.pointer (some ⟨TB,0,none⟩)::u4::u5::u6::u7::u8::u9::u10::u11::u12::.int .i64 (k : Int)::u14::u15::.pointer (some ⟨XB,0,none⟩)::u17::u18::u19::u20::u21::u22::u23::u24::u25::u26::u27::u28::u29::u30::u31::u32::u33::u34::u35::u36::u37::u38::u39::u40::u41::u42::u43::u44::u45::u46::u47::u48::u49::u50::u51::u52::u53::u54::u55::u56::u57::u58::u59::u60::u61::u62::u63::u64::u65::u66::u67::u68::u69::u70::u71::u72::u73::u74::u75::u76::u77::u78::u79::u80::u81::u82::u83::u84::u85::u86::u87::u88::u89::u90::u91::u92::u93::u94::u95::u96::u97::u98::u99::u100::u101::u102::u103::u104::u105::u106::u107::u108::u109::u110::u111::u112::u113::u114::u115::u116::u117::u118::u119::u120::u121::u122::u123::u124::u125::u126::u127::u128::u129::u130::u131::u132::u133::u134::u135::u136::u137::u138::u139::u140::u141::u142::u143::u144::u145::u146::u147::u148::u149::u150::u151::u152::u153::u154::u155::u156::u157::u158::u159::u160::u161::u162::u163::u164::u165::u166::u167::u168::u169::u170::u171::u172::u173::u174::u175::u176::u177::u178::u179::u180::u181::u182::u183::u184::u185::u186::u187::u188::u189::u190::u191::u192::u193::u194::u195::u196::u197::u198::u199::u200::u201::u202::u203::u204::u205::u206::u207::u208::u209::u210::u211::u212::u213::u214::u215::u216::u217::u218::u219::u220::u221::u222::u223::u224::u225::u226::u227::u228::u229::u230::u231::u232::u233::u234::u235::u236::u237::u238::u239::u240::u241::u242::u243::u244::u245::u246::u247::u248::u249::u250::u251::u252::u253::u254::u255::u256::y257::y258::y259::y260::y261::y262::y263::y264::y265::y266::y267::y268::y269::y270::y271::y272::u273::u274::u275::u276::u277::[]),[]⟩ w')) (w : World) (X : Hid (SP w0 w ([.blk TB 70 #[.int .i64 limit,.int .i64 life,.int .i64 now,.slice A n c],.blk XB 125 #[.int .u32 x.src,.int .u32 x.dst,.int .u8 x.proto,.int .u16 x.id,.int .i64 x.begin_,.int .i64 (x.bytes : Int),.bool x.dead,.slice FA fn fc]]++RO))) :
 wpAnyH Tryz.prog .any (opsAt Tryz.f27 47) (NoPanic Q) (r7zS w0 TB XB limit life now A n c l k x FA fn fc RO) 17 #[false,false,false,false,false,false,false,false,false,false,false,false,false,false,false,false,false] ⟨List.toArray (u0::u1::u2::.pointer (some ⟨TB,0,none⟩)::u4::u5::u6::u7::u8::u9::u10::u11::u12::.int .i64 (k : Int)::u14::u15::.pointer (some ⟨XB,0,none⟩)::u17::u18::u19::u20::u21::u22::u23::u24::u25::u26::u27::u28::u29::u30::u31::u32::u33::u34::u35::u36::u37::u38::u39::u40::u41::u42::u43::u44::u45::u46::u47::u48::u49::u50::u51::u52::u53::u54::u55::u56::u57::u58::u59::u60::u61::u62::u63::u64::u65::u66::u67::u68::u69::u70::u71::u72::u73::u74::u75::u76::u77::u78::u79::u80::u81::u82::u83::u84::u85::u86::u87::u88::u89::u90::u91::u92::u93::u94::u95::u96::u97::u98::u99::u100::u101::u102::u103::u104::u105::u106::u107::u108::u109::u110::u111::u112::u113::u114::u115::u116::u117::u118::u119::u120::u121::u122::u123::u124::u125::u126::u127::u128::u129::u130::u131::u132::u133::u134::u135::u136::u137::u138::u139::u140::u141::u142::u143::u144::u145::u146::u147::u148::u149::u150::u151::u152::u153::u154::u155::u156::u157::u158::u159::u160::u161::u162::u163::u164::u165::u166::u167::u168::u169::u170::u171::u172::u173::u174::u175::u176::u177::u178::u179::u180::u181::u182::u183::u184::u185::u186::u187::u188::u189::u190::u191::u192::u193::u194::u195::u196::u197::u198::u199::u200::u201::u202::u203::u204::u205::u206::u207::u208::u209::u210::u211::u212::u213::u214::u215::u216::u217::u218::u219::u220::u221::u222::u223::u224::u225::u226::u227::u228::u229::u230::u231::u232::u233::u234::u235::u236::u237::u238::u239::u240::u241::u242::u243::u244::u245::u246::u247::u248::u249::u250::u251::u252::u253::u254::u255::u256::u257::u258::u259::u260::u261::u262::u263::u264::u265::u266::u267::u268::u269::u270::u271::u272::u273::u274::u275::u276::u277::[]),[]⟩ w :=
 r7zs0 (Fr:=(fun y257 y258 y259 y260 y261 y262 y263 y264 y265 y266 y267 y268 y269 y270 y271 y272=>⟨List.toArray (u0::u1::u2::.pointer (some ⟨TB,0,none⟩)::u4::u5::u6::u7::u8::u9::u10::u11::u12::.int .i64 (k : Int)::u14::u15::.pointer (some ⟨XB,0,none⟩)::u17::u18::u19::u20::u21::u22::u23::u24::u25::u26::u27::u28::u29::u30::u31::u32::u33::u34::u35::u36::u37::u38::u39::u40::u41::u42::u43::u44::u45::u46::u47::u48::u49::u50::u51::u52::u53::u54::u55::u56::u57::u58::u59::u60::u61::u62::u63::u64::u65::u66::u67::u68::u69::u70::u71::u72::u73::u74::u75::u76::u77::u78::u79::u80::u81::u82::u83::u84::u85::u86::u87::u88::u89::u90::u91::u92::u93::u94::u95::u96::u97::u98::u99::u100::u101::u102::u103::u104::u105::u106::u107::u108::u109::u110::u111::u112::u113::u114::u115::u116::u117::u118::u119::u120::u121::u122::u123::u124::u125::u126::u127::u128::u129::u130::u131::u132::u133::u134::u135::u136::u137::u138::u139::u140::u141::u142::u143::u144::u145::u146::u147::u148::u149::u150::u151::u152::u153::u154::u155::u156::u157::u158::u159::u160::u161::u162::u163::u164::u165::u166::u167::u168::u169::u170::u171::u172::u173::u174::u175::u176::u177::u178::u179::u180::u181::u182::u183::u184::u185::u186::u187::u188::u189::u190::u191::u192::u193::u194::u195::u196::u197::u198::u199::u200::u201::u202::u203::u204::u205::u206::u207::u208::u209::u210::u211::u212::u213::u214::u215::u216::u217::u218::u219::u220::u221::u222::u223::u224::u225::u226::u227::u228::u229::u230::u231::u232::u233::u234::u235::u236::u237::u238::u239::u240::u241::u242::u243::u244::u245::u246::u247::u248::u249::u250::u251::u252::u253::u254::u255::u256::y257::y258::y259::y260::y261::y262::y263::y264::y265::y266::y267::y268::y269::y270::y271::y272::u273::u274::u275::u276::u277::[]),[]⟩)) ⟨HP,⟨fun i=>([u0,u1,u2,undef,u4,u5,u6,u7,u8,u9,u10,u11,u12,undef,u14,u15,undef,u17,u18,u19,u20,u21,u22,u23,u24,u25,u26,u27,u28,u29,u30,u31,u32,u33,u34,u35,u36,u37,u38,u39,u40,u41,u42,u43,u44,u45,u46,u47,u48,u49,u50,u51,u52,u53,u54,u55,u56,u57,u58,u59,u60,u61,u62,u63,u64,u65,u66,u67,u68,u69,u70,u71,u72,u73,u74,u75,u76,u77,u78,u79,u80,u81,u82,u83,u84,u85,u86,u87,u88,u89,u90,u91,u92,u93,u94,u95,u96,u97,u98,u99,u100,u101,u102,u103,u104,u105,u106,u107,u108,u109,u110,u111,u112,u113,u114,u115,u116,u117,u118,u119,u120,u121,u122,u123,u124,u125,u126,u127,u128,u129,u130,u131,u132,u133,u134,u135,u136,u137,u138,u139,u140,u141,u142,u143,u144,u145,u146,u147,u148,u149,u150,u151,u152,u153,u154,u155,u156,u157,u158,u159,u160,u161,u162,u163,u164,u165,u166,u167,u168,u169,u170,u171,u172,u173,u174,u175,u176,u177,u178,u179,u180,u181,u182,u183,u184,u185,u186,u187,u188,u189,u190,u191,u192,u193,u194,u195,u196,u197,u198,u199,u200,u201,u202,u203,u204,u205,u206,u207,u208,u209,u210,u211,u212,u213,u214,u215,u216,u217,u218,u219,u220,u221,u222,u223,u224,u225,u226,u227,u228,u229,u230,u231,u232,u233,u234,u235,u236,u237,u238,u239,u240,u241,u242,u243,u244,u245,u246,u247,u248,u249,u250,u251,u252,u253,u254,u255,u256,u257,u258,u259,u260,u261,u262,u263,u264,u265,u266,u267,u268,u269,u270,u271,u272,u273,u274,u275,u276,u277] : List Value)[i]?.getD undef,fun _ _ _ _ _ _ _ _ _ _ _ _ _ _ _ _=>rfl⟩,Lib.hid HQ.out⟩ w X
end Go.Proofs.YtljbfnabnkkfeaaGreat
