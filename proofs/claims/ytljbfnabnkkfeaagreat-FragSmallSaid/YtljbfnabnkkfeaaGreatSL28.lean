import Derived.Test.YtljbfnabnkkfeaaGreatSL27
set_option linter.unusedVariables false
set_option linter.unusedSimpArgs false
/- Joined by program: FgSb. -/
namespace Go.Proofs.YtljbfnabnkkfeaaGreat
open Go.RowKit
def OP.cut (x : OP) (m : Nat) : OP:={ x with n:=m,zs:=x.zs.take m }
theorem OPOK.cut {w : World} {x : OP} (h : OPOK w x) {m : Nat} (hm : m<=x.n) : OPOK w (x.cut m):=⟨h.rd.take hm,h.bd.take m,Nat.le_trans hm h.le,h.now⟩
def OPS9 (x0 x1 x2 : OP) : List OP:=[x0.at_ true 0,x1.at_ true 1,OP.tick 2,x2.at_ true 1,x2.at_ true 1099511627777,x2.at_ true 1099511627776,OP.tick 1099511627777,OP.tick (-1),(x2.cut 23).at_ true 1099511627776]
theorem ops9_ok {w : World} {x0 x1 x2 : OP} (h0 : OPOK w x0) (h1 : OPOK w x1) (h2 : OPOK w x2) (hn : 23<=x2.n) : ∀ x ∈ OPS9 x0 x1 x2,OPOK w x:=by
 intro x hx
 simp only [OPS9,List.mem_cons,List.not_mem_nil,or_false] at hx
 rcases hx with rfl | rfl | rfl | rfl | rfl | rfl | rfl | rfl | rfl
 ·exact h0.at_ true (by omega)
 ·exact h1.at_ true (by omega)
 ·exact OPOK.tick w (by omega)
 ·exact h2.at_ true (by omega)
 ·exact h2.at_ true (by omega)
 ·exact h2.at_ true (by omega)
 ·exact OPOK.tick w (by omega)
 ·exact OPOK.tick w (by omega)
 ·exact (h2.cut hn).at_ true (by omega)
theorem OPS.none (w : World) : OPS w none 0 []:=⟨rfl,fun i x h=>by simp at h,fun x h=>by cases h⟩
attribute [local go_sem ↓] Go.wp_at_zero Go.wp_at_succ
structure sm3P (w0 : World) (lg cl : Nat) (x : Int) (x0 x1 x2 : OP) (RO : List IT) : Prop where
 lk : ∀ W,SP w0 W RO->(W.cell? ⟨lg,0,none⟩=some (.slice x0.A x0.n x0.c)∧W.cell? ⟨lg,1,none⟩=some (.slice x1.A x1.n x1.c)∧W.cell? ⟨lg,2,none⟩=some (.slice x2.A x2.n x2.c))∧OPOK W x0∧OPOK W x1∧OPOK W x2
 hn : 23<=x2.n
 hc : x2.n<=x2.c
def sm3S (w0 : World) (lg cl : Nat) (x : Int) (x0 x1 x2 : OP) (RO : List IT) : World->Prop:=fun W=>(W.cell? ⟨lg,0,none⟩=some (.slice x0.A x0.n x0.c)∧W.cell? ⟨lg,1,none⟩=some (.slice x1.A x1.n x1.c)∧W.cell? ⟨lg,2,none⟩=some (.slice x2.A x2.n x2.c))
set_option maxRecDepth 100000 in
def sm3F (w0 : World) (lg cl : Nat) (x : Int) (x0 x1 x2 : OP) (RO : List IT) (Fr : Value->Value->Value->Value->Value->Value->Value->Value->Value->Value->Value->Value->Value->Value->Value->Value->Value->Value->Value->Value->Value->Value->Value->Value->Value->Value->Value->Value->Value->Value->Value->Value->Value->Value->Value->Value->Value->Act) : Prop:=∃ u : Nat->Value,∀ y131 y132 y133 y134 y135 y136 y137 y138 y139 y140 y141 y142 y143 y144 y145 y146 y147 y148 y149 y150 y151 y152 y153 y154 y155 y156 y157 y158 y159 y160 y161 y162 y163 y164 y165 y166 y167,Fr y131 y132 y133 y134 y135 y136 y137 y138 y139 y140 y141 y142 y143 y144 y145 y146 y147 y148 y149 y150 y151 y152 y153 y154 y155 y156 y157 y158 y159 y160 y161 y162 y163 y164 y165 y166 y167=⟨List.toArray (u 0::u 1::u 2::.slice (some ⟨lg,0,none⟩) 3 cl::u 4::u 5::u 6::u 7::u 8::u 9::u 10::u 11::u 12::u 13::u 14::u 15::u 16::.int .i64 x::u 18::u 19::u 20::u 21::u 22::u 23::u 24::u 25::u 26::u 27::u 28::u 29::u 30::u 31::u 32::u 33::u 34::u 35::u 36::u 37::u 38::u 39::u 40::u 41::u 42::u 43::u 44::u 45::u 46::u 47::u 48::u 49::u 50::u 51::u 52::u 53::u 54::u 55::u 56::u 57::u 58::u 59::u 60::u 61::u 62::u 63::u 64::u 65::u 66::u 67::u 68::u 69::u 70::u 71::u 72::u 73::u 74::u 75::u 76::u 77::u 78::u 79::u 80::u 81::u 82::u 83::u 84::u 85::u 86::u 87::u 88::u 89::u 90::u 91::u 92::u 93::u 94::u 95::u 96::u 97::u 98::u 99::u 100::u 101::u 102::u 103::u 104::u 105::u 106::u 107::u 108::u 109::u 110::u 111::u 112::u 113::u 114::u 115::u 116::u 117::u 118::u 119::u 120::u 121::u 122::u 123::u 124::u 125::u 126::u 127::u 128::u 129::u 130::y131::y132::y133::y134::y135::y136::y137::y138::y139::y140::y141::y142::y143::y144::y145::y146::y147::y148::y149::y150::y151::y152::y153::y154::y155::y156::y157::y158::y159::y160::y161::y162::y163::y164::y165::y166::y167::u 168::u 169::u 170::u 171::u 172::u 173::u 174::u 175::u 176::u 177::u 178::u 179::u 180::u 181::u 182::u 183::u 184::u 185::u 186::u 187::u 188::u 189::u 190::u 191::u 192::u 193::u 194::u 195::u 196::u 197::u 198::u 199::u 200::u 201::u 202::u 203::u 204::u 205::u 206::[]),[]⟩
def sm3R (w0 : World) (lg cl : Nat) (x : Int) (x0 x1 x2 : OP) (RO : List IT) (Q : Exit->Act->World->Prop) (Fr : Value->Value->Value->Value->Value->Value->Value->Value->Value->Value->Value->Value->Value->Value->Value->Value->Value->Value->Value->Value->Value->Value->Value->Value->Value->Value->Value->Value->Value->Value->Value->Value->Value->Value->Value->Value->Value->Act) : Prop:=∀ (y131 y132 y133 y134 y135 y136 y137 y138 y139 y140 y141 y142 y143 y144 y145 y146 y147 y148 y149 y150 y151 y152 y153 y154 y155 y156 y157 y158 y159 y160 y161 y162 y163 y164 y165 y166 : Value) (gO : Nat) (w' : World),SP w0 w' ([.row 36 3 (some ⟨gO,0,none⟩) 9 9 [.bool true,.int .i64 0,.slice x0.A x0.n x0.c,.bool true,.int .i64 1,.slice x1.A x1.n x1.c,.bool false,.int .i64 2,.slice none 0 0,.bool true,.int .i64 1,.slice x2.A x2.n x2.c,.bool true,.int .i64 1099511627777,.slice x2.A x2.n x2.c,.bool true,.int .i64 1099511627776,.slice x2.A x2.n x2.c,.bool false,.int .i64 1099511627777,.slice none 0 0,.bool false,.int .i64 (-1),.slice none 0 0,.bool true,.int .i64 1099511627776,.slice x2.A 23 x2.c]]++RO)->Q .normal (Fr y131 y132 y133 y134 y135 y136 y137 y138 y139 y140 y141 y142 y143 y144 y145 y146 y147 y148 y149 y150 y151 y152 y153 y154 y155 y156 y157 y158 y159 y160 y161 y162 y163 y164 y165 y166 (.bool false)) w'
def sm3H (w0 : World) (lg cl : Nat) (x : Int) (x0 x1 x2 : OP) (RO : List IT) (Q : Exit->Act->World->Prop) (Fr : Value->Value->Value->Value->Value->Value->Value->Value->Value->Value->Value->Value->Value->Value->Value->Value->Value->Value->Value->Value->Value->Value->Value->Value->Value->Value->Value->Value->Value->Value->Value->Value->Value->Value->Value->Value->Value->Act) : Prop:=Hid (sm3P w0 lg cl x x0 x1 x2 RO)∧sm3F w0 lg cl x x0 x1 x2 RO Fr∧Hid (sm3R w0 lg cl x x0 x1 x2 RO Q Fr)
section
variable {Q : Exit->Act->World->Prop} {y131 y132 y133 y134 y135 y136 y137 y138 y139 y140 y141 y142 y143 y144 y145 y146 y147 y148 y149 y150 y151 y152 y153 y154 y155 y156 y157 y158 y159 y160 y161 y162 y163 y164 y165 y166 y167 : Value} {w0 : World} {lg cl : Nat} {x : Int} {x0 x1 x2 : OP} {RO : List IT} {Fr : Value->Value->Value->Value->Value->Value->Value->Value->Value->Value->Value->Value->Value->Value->Value->Value->Value->Value->Value->Value->Value->Value->Value->Value->Value->Value->Value->Value->Value->Value->Value->Value->Value->Value->Value->Value->Value->Act}
set_option maxHeartbeats 1000000 in
set_option maxRecDepth 100000 in
theorem sm3s3 (H0 : sm3H w0 lg cl x x0 x1 x2 RO Q Fr) (gO : Nat) (w : World) (X : Hid (SP w0 w ([.row 36 3 (some ⟨gO,0,none⟩) 9 9 [.bool true,.int .i64 0,.slice x0.A x0.n x0.c,.bool true,.int .i64 1,.slice x1.A x1.n x1.c,.bool false,.int .i64 2,.slice none 0 0,.bool true,.int .i64 1,.slice x2.A x2.n x2.c,.bool true,.int .i64 1099511627777,.slice x2.A x2.n x2.c,.bool true,.int .i64 1099511627776,.slice x2.A x2.n x2.c,.bool false,.int .i64 1099511627777,.slice none 0 0,.bool false,.int .i64 (-1),.slice none 0 0,.bool true,.int .i64 1099511627776,.slice x2.A 23 x2.c]]++RO))) :
 wpAnyH Tryz.prog .any (opsAt Tryz.f3 22) (NoPanic Q) (sm3S w0 lg cl x x0 x1 x2 RO) 0 #[true,true,true,true,true,true,true,true,true,true,true,true,true,true,true,true,true,true,true,true,true,true,true,true,true,true,true,true,true,true,true,true,true,true,true,true,true] (Fr y131 y132 y133 y134 y135 y136 y137 y138 y139 y140 y141 y142 y143 y144 y145 y146 y147 y148 y149 y150 y151 y152 y153 y154 y155 y156 y157 y158 y159 y160 y161 y162 y163 y164 y165 y166 (.bool false)) w:=by
 have H1:=Lib.hid H0
 obtain ⟨HP,⟨u,hF⟩,HQ⟩:=H0
 rw [hF]
 have hn:=HP.out.hn
 have hc:=HP.out.hc
 have g1 : (23 : Int)<=(x2.c : Int):=by omega
 have g2 : (23 : Nat)<=x2.c:=by omega
 clear hn hc
 have hHeld : (sm3S w0 lg cl x x0 x1 x2 RO) w:=by exact (HP.out.lk _ X.out.right).1
 refine wpAnyH_done (by kernel_rfl) ?_ _
 refine NoPanic.normal ?_
 rw [<- hF]
 exact HQ.out _ _ _ _ _ _ _ _ _ _ _ _ _ _ _ _ _ _ _ _ _ _ _ _ _ _ _ _ _ _ _ _ _ _ _ _ gO _ X.out
set_option maxHeartbeats 1000000 in
set_option maxRecDepth 100000 in
theorem sm3s2 (H0 : sm3H w0 lg cl x x0 x1 x2 RO Q Fr) (gO : Nat) (w : World) (X : Hid (SP w0 w ([.row 36 3 (some ⟨gO,0,none⟩) 9 9 [.bool true,.int .i64 0,.slice x0.A x0.n x0.c,.bool true,.int .i64 1,.slice x1.A x1.n x1.c,.bool false,.int .i64 2,.slice none 0 0,.bool true,.int .i64 1,.slice x2.A x2.n x2.c,.bool true,.int .i64 1099511627777,.slice x2.A x2.n x2.c,.bool true,.int .i64 1099511627776,.slice x2.A x2.n x2.c,.bool false,.int .i64 1099511627777,.slice none 0 0,.bool false,.int .i64 (-1),.slice none 0 0,.bool true,.int .i64 1099511627776,.slice x2.A 23 x2.c]]++RO))) :
 wpAnyH Tryz.prog .any (opsAt Tryz.f3 22) (NoPanic Q) (sm3S w0 lg cl x x0 x1 x2 RO) 3 #[true,true,true,true,true,true,true,true,true,true,true,true,true,true,true,true,true,true,true,true,true,true,true,true,true,true,true,true,true,true,true,true,true,true,false,false,false] (Fr y131 y132 y133 (.bool false) (.int .i64 x) y136 y137 y138 y139 y140 y141 y142 y143 y144 y145 y146 y147 y148 y149 y150 y151 y152 y153 y154 y155 y156 y157 y158 y159 y160 y161 y162 y163 (.slice (some ⟨gO,0,none⟩) 9 9) y165 y166 y167) w:=by
 have H1:=Lib.hid H0
 obtain ⟨HP,⟨u,hF⟩,HQ⟩:=H0
 rw [hF]
 have hn:=HP.out.hn
 have hc:=HP.out.hc
 have g1 : (23 : Int)<=(x2.c : Int):=by omega
 have g2 : (23 : Nat)<=x2.c:=by omega
 clear hn hc
 have hHeld : (sm3S w0 lg cl x x0 x1 x2 RO) w:=by exact (HP.out.lk _ X.out.right).1
 refine rdy [34] ?_
 refine cons_lit rfl (fun K hK=>?ss34x66) AllReadyH.nil
 case ss34x66 =>
  go_simp
  refine (tells7_any _ _ _ _ _ _ w (ops_of_row (l:=OPS9 x0 x1 x2) (X.out.row 0 rfl) rfl (ops9_ok (HP.out.lk _ X.out.right).2.1 (HP.out.lk _ X.out.right).2.2.1 (HP.out.lk _ X.out.right).2.2.2 HP.out.hn))).mono ?_
  rintro e v ⟨rfl,hb⟩
  have Y:=Lib.hid (show SP w0 v ([.row 36 3 (some ⟨gO,0,none⟩) 9 9 [.bool true,.int .i64 0,.slice x0.A x0.n x0.c,.bool true,.int .i64 1,.slice x1.A x1.n x1.c,.bool false,.int .i64 2,.slice none 0 0,.bool true,.int .i64 1,.slice x2.A x2.n x2.c,.bool true,.int .i64 1099511627777,.slice x2.A x2.n x2.c,.bool true,.int .i64 1099511627776,.slice x2.A x2.n x2.c,.bool false,.int .i64 1099511627777,.slice none 0 0,.bool false,.int .i64 (-1),.slice none 0 0,.bool true,.int .i64 1099511627776,.slice x2.A 23 x2.c]]++RO) from X.out.next hb)
  clear hb
  refine hK.out _ _ (by exact (HP.out.lk _ Y.out.right).1) (fun hHeld=>?_)
  clear hK K
  try simp only [Act.put,jA,jB,jC]
  refine' tk (i:=35) rfl ?U67 ?V67
  case U67=>intro w' hSw;go_simp;try (with_reducible rfl)
  try simp only [Act.put,jA,jB,jC]
  refine' tk (i:=36) rfl ?U68 ?V68
  case U68=>intro w' hSw;go_simp;try (with_reducible rfl)
  try simp only [Act.put,jA,jB,jC]
  rw [<- hF]
  exact sm3s3 H1.out gO _ Y
set_option maxHeartbeats 1000000 in
set_option maxRecDepth 100000 in
theorem sm3s1 (H0 : sm3H w0 lg cl x x0 x1 x2 RO Q Fr) (w : World) (X : Hid (SP w0 w ([]++RO))) :
 wpAnyH Tryz.prog .any (opsAt Tryz.f3 22) (NoPanic Q) (sm3S w0 lg cl x x0 x1 x2 RO) 4 #[true,true,true,true,true,true,true,true,true,true,true,true,true,true,true,true,true,true,true,true,true,true,true,true,true,true,true,true,true,true,true,true,true,false,false,false,false] (Fr y131 y132 y133 (.bool false) (.int .i64 x) y136 y137 y138 (.agg #[.bool true,.int .i64 0,.slice x0.A x0.n x0.c]) y140 y141 y142 (.agg #[.bool true,.int .i64 1,.slice x1.A x1.n x1.c]) (.agg #[.bool false,.int .i64 2,.slice none 0 0]) y145 y146 y147 (.agg #[.bool true,.int .i64 1,.slice x2.A x2.n x2.c]) y149 y150 y151 (.agg #[.bool true,.int .i64 1099511627777,.slice x2.A x2.n x2.c]) y153 y154 y155 (.agg #[.bool true,.int .i64 1099511627776,.slice x2.A x2.n x2.c]) (.agg #[.bool false,.int .i64 1099511627777,.slice none 0 0]) (.agg #[.bool false,.int .i64 (-1),.slice none 0 0]) y159 y160 y161 y162 (.agg #[.bool true,.int .i64 1099511627776,.slice x2.A 23 x2.c]) y164 y165 y166 y167) w:=by
 have H1:=Lib.hid H0
 obtain ⟨HP,⟨u,hF⟩,HQ⟩:=H0
 rw [hF]
 have hn:=HP.out.hn
 have hc:=HP.out.hc
 have g1 : (23 : Int)<=(x2.c : Int):=by omega
 have g2 : (23 : Nat)<=x2.c:=by omega
 clear hn hc
 have hHeld : (sm3S w0 lg cl x x0 x1 x2 RO) w:=by exact (HP.out.lk _ X.out.right).1
 refine rdy [33] ?_
 refine cons_lit rfl (fun K hK=>?ss33x65) AllReadyH.nil
 case ss33x65 =>
  go_simp
  obtain ⟨gO,hgO⟩ : ∃ g,g=w.heap.size:=⟨_,rfl⟩
  rw [<- hgO]
  refine nameW' (fun v hv=>?_)
  have Y:=Lib.hid (show SP w0 v ([.row 36 3 (some ⟨gO,0,none⟩) 9 9 [.bool true,.int .i64 0,.slice x0.A x0.n x0.c,.bool true,.int .i64 1,.slice x1.A x1.n x1.c,.bool false,.int .i64 2,.slice none 0 0,.bool true,.int .i64 1,.slice x2.A x2.n x2.c,.bool true,.int .i64 1099511627777,.slice x2.A x2.n x2.c,.bool true,.int .i64 1099511627776,.slice x2.A x2.n x2.c,.bool false,.int .i64 1099511627777,.slice none 0 0,.bool false,.int .i64 (-1),.slice none 0 0,.bool true,.int .i64 1099511627776,.slice x2.A 23 x2.c]]++RO) by rw [hv];exact SP.pickT (A:=[_]) (B:=[_]) (C:=RO) (SP.rot (X.out.allocRow7 36 3 9 #[.bool true,.int .i64 0,.slice x0.A x0.n x0.c,.bool true,.int .i64 1,.slice x1.A x1.n x1.c,.bool false,.int .i64 2,.slice none 0 0,.bool true,.int .i64 1,.slice x2.A x2.n x2.c,.bool true,.int .i64 1099511627777,.slice x2.A x2.n x2.c,.bool true,.int .i64 1099511627776,.slice x2.A x2.n x2.c,.bool false,.int .i64 1099511627777,.slice none 0 0,.bool false,.int .i64 (-1),.slice none 0 0,.bool true,.int .i64 1099511627776,.slice x2.A 23 x2.c] (by simp [maxLen]) rfl hgO.symm)) [0] rfl (by decide))
  clear hv hgO
  refine hK.out _ _ (by exact (HP.out.lk _ Y.out.right).1) (fun hHeld=>?_)
  clear hK K
  try simp only [Act.put,jA,jB,jC]
  rw [<- hF]
  exact sm3s2 H1.out gO _ Y
set_option maxHeartbeats 1000000 in
set_option maxRecDepth 100000 in
theorem sm3s0 (H0 : sm3H w0 lg cl x x0 x1 x2 RO Q Fr) (w : World) (X : Hid (SP w0 w ([]++RO))) :
 wpAnyH Tryz.prog .any (opsAt Tryz.f3 22) (NoPanic Q) (sm3S w0 lg cl x x0 x1 x2 RO) 37 #[false,false,false,false,false,false,false,false,false,false,false,false,false,false,false,false,false,false,false,false,false,false,false,false,false,false,false,false,false,false,false,false,false,false,false,false,false] (Fr y131 y132 y133 y134 y135 y136 y137 y138 y139 y140 y141 y142 y143 y144 y145 y146 y147 y148 y149 y150 y151 y152 y153 y154 y155 y156 y157 y158 y159 y160 y161 y162 y163 y164 y165 y166 y167) w:=by
 have H1:=Lib.hid H0
 obtain ⟨HP,⟨u,hF⟩,HQ⟩:=H0
 rw [hF]
 have hn:=HP.out.hn
 have hc:=HP.out.hc
 have g1 : (23 : Int)<=(x2.c : Int):=by omega
 have g2 : (23 : Nat)<=x2.c:=by omega
 clear hn hc
 have hHeld : (sm3S w0 lg cl x x0 x1 x2 RO) w:=by exact (HP.out.lk _ X.out.right).1
 refine' tk (i:=0) rfl ?U32 ?V32
 case U32=>intro w' hSw;go_simp;try (with_reducible rfl)
 try simp only [Act.put,jA,jB,jC]
 refine rdy [1] ?_
 refine cons_lit rfl (fun K hK=>?ss1x33) AllReadyH.nil
 case ss1x33 =>
  go_simp
  refine (tells7_any _ _ _ _ _ _ w (OPS.none w)).mono ?_
  rintro e v ⟨rfl,hb⟩
  have Y:=Lib.hid (show SP w0 v ([]++RO) from X.out.next hb)
  clear hb
  refine hK.out _ _ (by exact (HP.out.lk _ Y.out.right).1) (fun hHeld=>?_)
  clear hK K
  try simp only [Act.put,jA,jB,jC]
  refine' tk (i:=2) rfl ?U34 ?V34
  case U34=>intro w' hSw;go_simp;try (with_reducible rfl)
  try simp only [Act.put,jA,jB,jC]
  refine' tk (i:=3) rfl ?U35 ?V35
  case U35=>intro w' hSw;go_simp;try (with_reducible rfl)
  try simp only [Act.put,jA,jB,jC]
  refine' tk (i:=4) rfl ?U36 ?V36
  case U36=>intro w' hSw;go_simp;try (with_reducible rfl)
  try simp only [Act.put,jA,jB,jC]
  refine' tk (i:=5) rfl ?U37 ?V37
  case U37=>intro w' hSw;go_simp;try (with_reducible rfl)
  try simp only [Act.put,jA,jB,jC]
  refine' tk (i:=6) rfl ?U38 ?V38
  case U38=>intro w' hSw;go_simp;try (with_reducible rfl)
  try simp only [Act.put,jA,jB,jC]
  refine' tk (i:=7) rfl ?U39 ?V39
  case U39=>intro w' hSw;unfold sm3S at hSw;(try dsimp only at hSw);go_simp;try (with_reducible rfl)
  try simp only [Act.put,jA,jB,jC]
  refine' tk (i:=8) rfl ?U40 ?V40
  case U40=>intro w' hSw;go_simp;try (with_reducible rfl)
  try simp only [Act.put,jA,jB,jC]
  refine' tk (i:=9) rfl ?U41 ?V41
  case U41=>intro w' hSw;go_simp;try (with_reducible rfl)
  try simp only [Act.put,jA,jB,jC]
  refine' tk (i:=10) rfl ?U42 ?V42
  case U42=>intro w' hSw;go_simp;try (with_reducible rfl)
  try simp only [Act.put,jA,jB,jC]
  refine' tk (i:=11) rfl ?U43 ?V43
  case U43=>intro w' hSw;unfold sm3S at hSw;(try dsimp only at hSw);go_simp;try (with_reducible rfl)
  try simp only [Act.put,jA,jB,jC]
  refine' tk (i:=12) rfl ?U44 ?V44
  case U44=>intro w' hSw;go_simp;try (with_reducible rfl)
  try simp only [Act.put,jA,jB,jC]
  refine' tk (i:=13) rfl ?U45 ?V45
  case U45=>intro w' hSw;go_simp;try (with_reducible rfl)
  try simp only [Act.put,jA,jB,jC]
  refine' tk (i:=14) rfl ?U46 ?V46
  case U46=>intro w' hSw;go_simp;try (with_reducible rfl)
  try simp only [Act.put,jA,jB,jC]
  refine' tk (i:=15) rfl ?U47 ?V47
  case U47=>intro w' hSw;go_simp;try (with_reducible rfl)
  try simp only [Act.put,jA,jB,jC]
  refine' tk (i:=16) rfl ?U48 ?V48
  case U48=>intro w' hSw;unfold sm3S at hSw;(try dsimp only at hSw);go_simp;try (with_reducible rfl)
  try simp only [Act.put,jA,jB,jC]
  refine' tk (i:=17) rfl ?U49 ?V49
  case U49=>intro w' hSw;go_simp;try (with_reducible rfl)
  try simp only [Act.put,jA,jB,jC]
  refine' tk (i:=18) rfl ?U50 ?V50
  case U50=>intro w' hSw;go_simp;try (with_reducible rfl)
  try simp only [Act.put,jA,jB,jC]
  refine' tk (i:=19) rfl ?U51 ?V51
  case U51=>intro w' hSw;go_simp;try (with_reducible rfl)
  try simp only [Act.put,jA,jB,jC]
  refine' tk (i:=20) rfl ?U52 ?V52
  case U52=>intro w' hSw;unfold sm3S at hSw;(try dsimp only at hSw);go_simp;try (with_reducible rfl)
  try simp only [Act.put,jA,jB,jC]
  refine' tk (i:=21) rfl ?U53 ?V53
  case U53=>intro w' hSw;go_simp;try (with_reducible rfl)
  try simp only [Act.put,jA,jB,jC]
  refine' tk (i:=22) rfl ?U54 ?V54
  case U54=>intro w' hSw;go_simp;try (with_reducible rfl)
  try simp only [Act.put,jA,jB,jC]
  refine' tk (i:=23) rfl ?U55 ?V55
  case U55=>intro w' hSw;go_simp;try (with_reducible rfl)
  try simp only [Act.put,jA,jB,jC]
  refine' tk (i:=24) rfl ?U56 ?V56
  case U56=>intro w' hSw;unfold sm3S at hSw;(try dsimp only at hSw);go_simp;try (with_reducible rfl)
  try simp only [Act.put,jA,jB,jC]
  refine' tk (i:=25) rfl ?U57 ?V57
  case U57=>intro w' hSw;go_simp;try (with_reducible rfl)
  try simp only [Act.put,jA,jB,jC]
  refine' tk (i:=26) rfl ?U58 ?V58
  case U58=>intro w' hSw;go_simp;try (with_reducible rfl)
  try simp only [Act.put,jA,jB,jC]
  refine' tk (i:=27) rfl ?U59 ?V59
  case U59=>intro w' hSw;go_simp;try (with_reducible rfl)
  try simp only [Act.put,jA,jB,jC]
  refine' tk (i:=28) rfl ?U60 ?V60
  case U60=>intro w' hSw;go_simp;try (with_reducible rfl)
  try simp only [Act.put,jA,jB,jC]
  refine' tk (i:=29) rfl ?U61 ?V61
  case U61=>intro w' hSw;go_simp;try (with_reducible rfl)
  try simp only [Act.put,jA,jB,jC]
  refine' tk (i:=30) rfl ?U62 ?V62
  case U62=>intro w' hSw;unfold sm3S at hSw;(try dsimp only at hSw);go_simp;try (with_reducible rfl)
  try simp only [Act.put,jA,jB,jC]
  refine' tk (i:=31) rfl ?U63 ?V63
  case U63=>intro w' hSw;go_simp;try (with_reducible rfl)
  try simp only [Act.put,jA,jB,jC]
  refine' tk (i:=32) rfl ?U64 ?V64
  case U64=>intro w' hSw;go_simp;try (with_reducible rfl)
  try simp only [Act.put,jA,jB,jC]
  rw [<- hF]
  exact sm3s1 H1.out  _ Y
end
set_option maxRecDepth 100000 in
theorem sm3_0 {u0 u1 u2 u4 u5 u6 u7 u8 u9 u10 u11 u12 u13 u14 u15 u16 u18 u19 u20 u21 u22 u23 u24 u25 u26 u27 u28 u29 u30 u31 u32 u33 u34 u35 u36 u37 u38 u39 u40 u41 u42 u43 u44 u45 u46 u47 u48 u49 u50 u51 u52 u53 u54 u55 u56 u57 u58 u59 u60 u61 u62 u63 u64 u65 u66 u67 u68 u69 u70 u71 u72 u73 u74 u75 u76 u77 u78 u79 u80 u81 u82 u83 u84 u85 u86 u87 u88 u89 u90 u91 u92 u93 u94 u95 u96 u97 u98 u99 u100 u101 u102 u103 u104 u105 u106 u107 u108 u109 u110 u111 u112 u113 u114 u115 u116 u117 u118 u119 u120 u121 u122 u123 u124 u125 u126 u127 u128 u129 u130 u131 u132 u133 u134 u135 u136 u137 u138 u139 u140 u141 u142 u143 u144 u145 u146 u147 u148 u149 u150 u151 u152 u153 u154 u155 u156 u157 u158 u159 u160 u161 u162 u163 u164 u165 u166 u167 u168 u169 u170 u171 u172 u173 u174 u175 u176 u177 u178 u179 u180 u181 u182 u183 u184 u185 u186 u187 u188 u189 u190 u191 u192 u193 u194 u195 u196 u197 u198 u199 u200 u201 u202 u203 u204 u205 u206 : Value} {Q : Exit->Act->World->Prop} {w0 : World} {lg cl : Nat} {x : Int} {x0 x1 x2 : OP} {RO : List IT} (HP : Hid (sm3P w0 lg cl x x0 x1 x2 RO)) (HQ : Hid (∀ (y131 y132 y133 y134 y135 y136 y137 y138 y139 y140 y141 y142 y143 y144 y145 y146 y147 y148 y149 y150 y151 y152 y153 y154 y155 y156 y157 y158 y159 y160 y161 y162 y163 y164 y165 y166 : Value) (gO : Nat) (w' : World),SP w0 w' ([.row 36 3 (some ⟨gO,0,none⟩) 9 9 [.bool true,.int .i64 0,.slice x0.A x0.n x0.c,.bool true,.int .i64 1,.slice x1.A x1.n x1.c,.bool false,.int .i64 2,.slice none 0 0,.bool true,.int .i64 1,.slice x2.A x2.n x2.c,.bool true,.int .i64 1099511627777,.slice x2.A x2.n x2.c,.bool true,.int .i64 1099511627776,.slice x2.A x2.n x2.c,.bool false,.int .i64 1099511627777,.slice none 0 0,.bool false,.int .i64 (-1),.slice none 0 0,.bool true,.int .i64 1099511627776,.slice x2.A 23 x2.c]]++RO)->Q .normal ⟨List.toArray (u0::u1::u2::.slice (some ⟨lg,0,none⟩) 3 cl::u4::u5::u6::u7::u8::u9::u10::u11::u12::u13::u14::u15::u16::.int .i64 x::u18::u19::u20::u21::u22::u23::u24::u25::u26::u27::u28::u29::u30::u31::u32::u33::u34::u35::u36::u37::u38::u39::u40::u41::u42::u43::u44::u45::u46::u47::u48::u49::u50::u51::u52::u53::u54::u55::u56::u57::u58::u59::u60::u61::u62::u63::u64::u65::u66::u67::u68::u69::u70::u71::u72::u73::u74::u75::u76::u77::u78::u79::u80::u81::u82::u83::u84::u85::u86::u87::u88::u89::u90::u91::u92::u93::u94::u95::u96::u97::u98::u99::u100::u101::u102::u103::u104::u105::u106::u107::u108::u109::u110::u111::u112::u113::u114::u115::u116::u117::u118::u119::u120::u121::u122::u123::u124::u125::u126::u127::u128::u129::u130::y131::y132::y133::y134::y135::y136::y137::y138::y139::y140::y141::y142::y143::y144::y145::y146::y147::y148::y149::y150::y151::y152::y153::y154::y155::y156::y157::y158::y159::y160::y161::y162::y163::y164::y165::y166::.bool false::u168::u169::u170::u171::u172::u173::u174::u175::u176::u177::u178::u179::u180::u181::u182::u183::u184::u185::u186::u187::u188::u189::u190::u191::u192::u193::u194::u195::u196::u197::u198::u199::u200::u201::u202::u203::u204::u205::u206::[]),[]⟩ w')) (w : World) (X : Hid (SP w0 w ([]++RO))) :
 wpAnyH Tryz.prog .any (opsAt Tryz.f3 22) (NoPanic Q) (sm3S w0 lg cl x x0 x1 x2 RO) 37 #[false,false,false,false,false,false,false,false,false,false,false,false,false,false,false,false,false,false,false,false,false,false,false,false,false,false,false,false,false,false,false,false,false,false,false,false,false] ⟨List.toArray (u0::u1::u2::.slice (some ⟨lg,0,none⟩) 3 cl::u4::u5::u6::u7::u8::u9::u10::u11::u12::u13::u14::u15::u16::.int .i64 x::u18::u19::u20::u21::u22::u23::u24::u25::u26::u27::u28::u29::u30::u31::u32::u33::u34::u35::u36::u37::u38::u39::u40::u41::u42::u43::u44::u45::u46::u47::u48::u49::u50::u51::u52::u53::u54::u55::u56::u57::u58::u59::u60::u61::u62::u63::u64::u65::u66::u67::u68::u69::u70::u71::u72::u73::u74::u75::u76::u77::u78::u79::u80::u81::u82::u83::u84::u85::u86::u87::u88::u89::u90::u91::u92::u93::u94::u95::u96::u97::u98::u99::u100::u101::u102::u103::u104::u105::u106::u107::u108::u109::u110::u111::u112::u113::u114::u115::u116::u117::u118::u119::u120::u121::u122::u123::u124::u125::u126::u127::u128::u129::u130::u131::u132::u133::u134::u135::u136::u137::u138::u139::u140::u141::u142::u143::u144::u145::u146::u147::u148::u149::u150::u151::u152::u153::u154::u155::u156::u157::u158::u159::u160::u161::u162::u163::u164::u165::u166::u167::u168::u169::u170::u171::u172::u173::u174::u175::u176::u177::u178::u179::u180::u181::u182::u183::u184::u185::u186::u187::u188::u189::u190::u191::u192::u193::u194::u195::u196::u197::u198::u199::u200::u201::u202::u203::u204::u205::u206::[]),[]⟩ w :=
 sm3s0 (Fr:=(fun y131 y132 y133 y134 y135 y136 y137 y138 y139 y140 y141 y142 y143 y144 y145 y146 y147 y148 y149 y150 y151 y152 y153 y154 y155 y156 y157 y158 y159 y160 y161 y162 y163 y164 y165 y166 y167=>⟨List.toArray (u0::u1::u2::.slice (some ⟨lg,0,none⟩) 3 cl::u4::u5::u6::u7::u8::u9::u10::u11::u12::u13::u14::u15::u16::.int .i64 x::u18::u19::u20::u21::u22::u23::u24::u25::u26::u27::u28::u29::u30::u31::u32::u33::u34::u35::u36::u37::u38::u39::u40::u41::u42::u43::u44::u45::u46::u47::u48::u49::u50::u51::u52::u53::u54::u55::u56::u57::u58::u59::u60::u61::u62::u63::u64::u65::u66::u67::u68::u69::u70::u71::u72::u73::u74::u75::u76::u77::u78::u79::u80::u81::u82::u83::u84::u85::u86::u87::u88::u89::u90::u91::u92::u93::u94::u95::u96::u97::u98::u99::u100::u101::u102::u103::u104::u105::u106::u107::u108::u109::u110::u111::u112::u113::u114::u115::u116::u117::u118::u119::u120::u121::u122::u123::u124::u125::u126::u127::u128::u129::u130::y131::y132::y133::y134::y135::y136::y137::y138::y139::y140::y141::y142::y143::y144::y145::y146::y147::y148::y149::y150::y151::y152::y153::y154::y155::y156::y157::y158::y159::y160::y161::y162::y163::y164::y165::y166::y167::u168::u169::u170::u171::u172::u173::u174::u175::u176::u177::u178::u179::u180::u181::u182::u183::u184::u185::u186::u187::u188::u189::u190::u191::u192::u193::u194::u195::u196::u197::u198::u199::u200::u201::u202::u203::u204::u205::u206::[]),[]⟩)) ⟨HP,⟨fun i=>([u0,u1,u2,undef,u4,u5,u6,u7,u8,u9,u10,u11,u12,u13,u14,u15,u16,undef,u18,u19,u20,u21,u22,u23,u24,u25,u26,u27,u28,u29,u30,u31,u32,u33,u34,u35,u36,u37,u38,u39,u40,u41,u42,u43,u44,u45,u46,u47,u48,u49,u50,u51,u52,u53,u54,u55,u56,u57,u58,u59,u60,u61,u62,u63,u64,u65,u66,u67,u68,u69,u70,u71,u72,u73,u74,u75,u76,u77,u78,u79,u80,u81,u82,u83,u84,u85,u86,u87,u88,u89,u90,u91,u92,u93,u94,u95,u96,u97,u98,u99,u100,u101,u102,u103,u104,u105,u106,u107,u108,u109,u110,u111,u112,u113,u114,u115,u116,u117,u118,u119,u120,u121,u122,u123,u124,u125,u126,u127,u128,u129,u130,u131,u132,u133,u134,u135,u136,u137,u138,u139,u140,u141,u142,u143,u144,u145,u146,u147,u148,u149,u150,u151,u152,u153,u154,u155,u156,u157,u158,u159,u160,u161,u162,u163,u164,u165,u166,u167,u168,u169,u170,u171,u172,u173,u174,u175,u176,u177,u178,u179,u180,u181,u182,u183,u184,u185,u186,u187,u188,u189,u190,u191,u192,u193,u194,u195,u196,u197,u198,u199,u200,u201,u202,u203,u204,u205,u206] : List Value)[i]?.getD undef,fun _ _ _ _ _ _ _ _ _ _ _ _ _ _ _ _ _ _ _ _ _ _ _ _ _ _ _ _ _ _ _ _ _ _ _ _ _=>rfl⟩,Lib.hid HQ.out⟩ w X
set_option maxHeartbeats 1000000 in
set_option maxRecDepth 100000 in
theorem small7_3 {u0 u1 u2 u4 u5 u6 u7 u8 u9 u10 u11 u12 u13 u14 u15 u16 u17 u18 u19 u20 u21 u22 u23 u24 u25 u26 u27 u28 u29 u30 u31 u32 u33 u34 u35 u36 u37 u38 u39 u40 u41 u42 u43 u44 u45 u46 u47 u48 u49 u50 u51 u52 u53 u54 u55 u56 u57 u58 u59 u60 u61 u62 u63 u64 u65 u66 u67 u68 u69 u70 u71 u72 u73 u74 u75 u76 u77 u78 u79 u80 u81 u82 u83 u84 u85 u86 u87 u88 u89 u90 u91 u92 u93 u94 u95 u96 u97 u98 u99 u100 u101 u102 u103 u104 u105 u106 u107 u108 u109 u110 u111 u112 u113 u114 u115 u116 u117 u118 u119 u120 u121 u122 u123 u124 u128 u129 u130 u131 u132 u133 u134 u135 u136 u137 u138 u139 u140 u141 u142 u143 u144 u145 u146 u147 u148 u149 u150 u151 u152 u153 u154 u155 u156 u157 u158 u159 u160 u161 u162 u163 u164 u165 u166 u167 u168 u169 u170 u171 u172 u173 u174 u175 u176 u177 u178 u179 u180 u181 u182 u183 u184 u185 u186 u187 u188 u189 u190 u191 u192 u193 u194 u195 u196 u197 u198 u199 u200 u201 u202 u203 u204 u205 u206 : Value} {Q : Exit->Act->World->Prop} (w : World) (lg cl gX : Nat) (x0 x1 x2 : OP) (RO : List IT) (HL : Hid (∀ W,SP w W RO->(W.cell? ⟨lg,0,none⟩=some (.slice x0.A x0.n x0.c)∧W.cell? ⟨lg,1,none⟩=some (.slice x1.A x1.n x1.c)∧W.cell? ⟨lg,2,none⟩=some (.slice x2.A x2.n x2.c))∧OPOK W x0∧OPOK W x1∧OPOK W x2)) (hn : 23<=x2.n) (hc : x2.n<=x2.c)
 (HX : Hid (∀ W,SP w W RO->∀ i,i < 9->∃ x : Int,W.cell? ⟨gX,i,none⟩=some (.int .i64 x))) (w1 : World) (X1 : Hid (SP w w1 RO))
 (HQ : Hid (∀ (y0 y17 y127 y128 y129 y130 y131 y132 y133 y134 y135 y136 y137 y138 y139 y140 y141 y142 y143 y144 y145 y146 y147 y148 y149 y150 y151 y152 y153 y154 y155 y156 y157 y158 y159 y160 y161 y162 y163 y164 y165 y166 y167 y168 : Value) (w' : World),SP w w' RO->Q (.exit 4) ⟨List.toArray (y0::u1::u2::.slice (some ⟨lg,0,none⟩) 3 cl::u4::u5::u6::u7::u8::u9::u10::u11::u12::u13::u14::u15::u16::y17::u18::u19::u20::u21::u22::u23::u24::u25::u26::u27::u28::u29::u30::u31::u32::u33::u34::u35::u36::u37::u38::u39::u40::u41::u42::u43::u44::u45::u46::u47::u48::u49::u50::u51::u52::u53::u54::u55::u56::u57::u58::u59::u60::u61::u62::u63::u64::u65::u66::u67::u68::u69::u70::u71::u72::u73::u74::u75::u76::u77::u78::u79::u80::u81::u82::u83::u84::u85::u86::u87::u88::u89::u90::u91::u92::u93::u94::u95::u96::u97::u98::u99::u100::u101::u102::u103::u104::u105::u106::u107::u108::u109::u110::u111::u112::u113::u114::u115::u116::u117::u118::u119::u120::u121::u122::u123::u124::.slice (some ⟨gX,0,none⟩) 9 9::.int .i64 9::y127::y128::y129::y130::y131::y132::y133::y134::y135::y136::y137::y138::y139::y140::y141::y142::y143::y144::y145::y146::y147::y148::y149::y150::y151::y152::y153::y154::y155::y156::y157::y158::y159::y160::y161::y162::y163::y164::y165::y166::y167::y168::u169::u170::u171::u172::u173::u174::u175::u176::u177::u178::u179::u180::u181::u182::u183::u184::u185::u186::u187::u188::u189::u190::u191::u192::u193::u194::u195::u196::u197::u198::u199::u200::u201::u202::u203::u204::u205::u206::[]),[]⟩ w')) :
 Code.wp Tryz.prog (loopAt Tryz.f3 20) Q ⟨List.toArray (u0::u1::u2::.slice (some ⟨lg,0,none⟩) 3 cl::u4::u5::u6::u7::u8::u9::u10::u11::u12::u13::u14::u15::u16::u17::u18::u19::u20::u21::u22::u23::u24::u25::u26::u27::u28::u29::u30::u31::u32::u33::u34::u35::u36::u37::u38::u39::u40::u41::u42::u43::u44::u45::u46::u47::u48::u49::u50::u51::u52::u53::u54::u55::u56::u57::u58::u59::u60::u61::u62::u63::u64::u65::u66::u67::u68::u69::u70::u71::u72::u73::u74::u75::u76::u77::u78::u79::u80::u81::u82::u83::u84::u85::u86::u87::u88::u89::u90::u91::u92::u93::u94::u95::u96::u97::u98::u99::u100::u101::u102::u103::u104::u105::u106::u107::u108::u109::u110::u111::u112::u113::u114::u115::u116::u117::u118::u119::u120::u121::u122::u123::u124::.slice (some ⟨gX,0,none⟩) 9 9::.int .i64 9::.int .i64 0::u128::u129::u130::u131::u132::u133::u134::u135::u136::u137::u138::u139::u140::u141::u142::u143::u144::u145::u146::u147::u148::u149::u150::u151::u152::u153::u154::u155::u156::u157::u158::u159::u160::u161::u162::u163::u164::u165::u166::u167::u168::u169::u170::u171::u172::u173::u174::u175::u176::u177::u178::u179::u180::u181::u182::u183::u184::u185::u186::u187::u188::u189::u190::u191::u192::u193::u194::u195::u196::u197::u198::u199::u200::u201::u202::u203::u204::u205::u206::[]),[]⟩ w1:=by
 have HN:=Lib.hid (And.intro hn hc)
 clear hn hc
 conv=>arg 2;whnf
 go_loopw [17,127] (fun _ s127 wr=>∃ k : Nat,k<=9∧s127 = .int .i64 (k : Int)∧SP w wr RO) (fun _ s127 _=>9 - (intOf s127).toNat)
 case atStart=>exact ⟨0,Nat.zero_le _,rfl,X1.out⟩
 case round =>
  obtain ⟨k,hk,rfl,Y0⟩:=hrel
  have Y:=Lib.hid Y0
  clear Y0 X1
  by_cases hlt : k < 9
  ·have t1 : (k : Int) < 9:=by omega
   have t0 : (0 : Int)<=(k : Int):=by omega
   obtain ⟨x,hx⟩:=HX.out _ Y.out k hlt
   have e6 : IntKind.i64.wrap ((k : Int) + 1)=(k : Int) + 1:=IntWalk.i64_in _ (by omega)
   go_upto_region 22 with fail
   clear hx
   refine wp_region_noPanic ?_
   refine wp_region_held_drew (S:=sm3S w lg cl x x0 x1 x2 RO) (by kernel_rfl) (HL.out _ Y.out.drew).1 (fun hHeld=>?_)
   clear hHeld
   refine sm3_0 (Lib.hid ⟨HL.out,HN.out.1,HN.out.2⟩) (Lib.hid ?_) _ (Lib.hid Y.out.drew)
   intro y131 y132 y133 y134 y135 y136 y137 y138 y139 y140 y141 y142 y143 y144 y145 y146 y147 y148 y149 y150 y151 y152 y153 y154 y155 y156 y157 y158 y159 y160 y161 y162 y163 y164 y165 y166 gO w2 hX2
   have Z:=Lib.hid hX2.right
   clear hX2 Y
   go_wp2_with fail
   go_roundw
   case rel=>exact ⟨k + 1,by omega,by go_num,Z.out⟩
   case measure=>simp [intOf];omega
  ·have t1 : ¬ (k : Int) < 9:=by omega
   obtain rfl : k=9:=by omega
   go_wp2_with fail
   exact HQ.out _ _ _ _ _ _ _ _ _ _ _ _ _ _ _ _ _ _ _ _ _ _ _ _ _ _ _ _ _ _ _ _ _ _ _ _ _ _ _ _ _ _ _ _ _ Y.out
set_option maxHeartbeats 1000000 in
set_option maxRecDepth 100000 in
theorem empty_put {p : Option Addr} {w : World} (h : Hid (Calls Tryz.prog 32 #[.pointer p] w fun e w'=>e = .returned (.bool true)∧w'=w)) (t : Int) : Calls Tryz.prog 9 #[.pointer p,.int .i64 t,.slice none 0 0] w fun e w'=>e = .returned (.tuple #[.slice none 0 0,.int .i64 1])∧w'=w:=by
 go_enter Tryz.func9,Tryz.ntmps9
 go_wp2_with fail
 refine h.out.mono ?_
 rintro e w' ⟨rfl,rfl⟩
 go_wp2_with fail
 go_ret2
 exact ⟨rfl,rfl⟩
set_option maxHeartbeats 1000000 in
set_option maxRecDepth 100000 in
theorem empty_tick {p : Option Addr} {w : World} (h : Hid (Calls Tryz.prog 32 #[.pointer p] w fun e w'=>e = .returned (.bool true)∧w'=w)) (t : Int) : Calls Tryz.prog 10 #[.pointer p,.int .i64 t] w fun e w'=>e = .returned (.int .i64 1)∧w'=w:=by
 go_enter Tryz.func10,Tryz.ntmps10
 go_wp2_with fail
 refine h.out.mono ?_
 rintro e w' ⟨rfl,rfl⟩
 go_wp2_with fail
 go_ret
 exact ⟨rfl,rfl⟩
set_option maxHeartbeats 1000000 in
set_option maxRecDepth 100000 in
theorem empty_now {p : Option Addr} {w : World} (h : Hid (Calls Tryz.prog 32 #[.pointer p] w fun e w'=>e = .returned (.bool true)∧w'=w)) (t : Int) : Calls Tryz.prog 11 #[.pointer p] w fun e w'=>e = .returned (.int .i64 0)∧w'=w:=by
 go_enter Tryz.func11,Tryz.ntmps11
 go_wp2_with fail
 refine h.out.mono ?_
 rintro e w' ⟨rfl,rfl⟩
 go_wp2_with fail
 go_ret
 exact ⟨rfl,rfl⟩
set_option maxHeartbeats 1000000 in
set_option maxRecDepth 100000 in
theorem empty_groups {p : Option Addr} {w : World} (h : Hid (Calls Tryz.prog 32 #[.pointer p] w fun e w'=>e = .returned (.bool true)∧w'=w)) (t : Int) : Calls Tryz.prog 12 #[.pointer p] w fun e w'=>e = .returned (.slice none 0 0)∧w'=w:=by
 go_enter Tryz.func12,Tryz.ntmps12
 go_wp2_with fail
 refine h.out.mono ?_
 rintro e w' ⟨rfl,rfl⟩
 go_wp2_with fail
 go_ret
 exact ⟨rfl,rfl⟩
set_option maxHeartbeats 1000000 in
set_option maxRecDepth 100000 in
theorem small7_4 {u0 u1 u2 u3 u4 u5 u6 u7 u8 u9 u10 u11 u12 u13 u14 u15 u16 u17 u18 u19 u20 u21 u22 u23 u24 u25 u26 u27 u28 u29 u30 u31 u32 u33 u34 u35 u36 u37 u38 u39 u40 u41 u42 u43 u44 u45 u46 u47 u48 u49 u50 u51 u52 u53 u54 u55 u56 u57 u58 u59 u60 u61 u62 u63 u64 u65 u66 u67 u68 u69 u70 u71 u72 u73 u74 u75 u76 u77 u78 u79 u80 u81 u82 u83 u84 u85 u86 u87 u88 u89 u90 u91 u92 u93 u94 u95 u96 u97 u98 u99 u100 u101 u102 u103 u104 u105 u106 u107 u108 u109 u110 u111 u112 u113 u114 u115 u116 u117 u118 u119 u120 u121 u122 u123 u124 u125 u126 u127 u128 u129 u130 u131 u132 u133 u134 u135 u136 u137 u138 u139 u140 u141 u142 u143 u144 u145 u146 u147 u148 u149 u150 u151 u152 u153 u154 u155 u156 u157 u158 u159 u160 u161 u162 u163 u164 u165 u166 u167 u168 u169 u170 u174 u175 u176 u177 u178 u179 u180 u181 u182 u183 u184 u185 u186 u187 u188 u189 u190 u191 u192 u193 u194 u195 u196 u197 u198 u199 u200 u201 u202 u203 u204 u205 u206 : Value} {Q : Exit->Act->World->Prop} (w : World) (gP TB : Nat) (RO : List IT)
 (HC : Hid (∀ W,SP w W RO->W.cell? ⟨gP,0,none⟩=some (.pointer none)∧W.cell? ⟨gP,1,none⟩=some (.pointer (some ⟨TB,0,none⟩))∧W.cell? ⟨TB,0,none⟩=some (.int .i64 0))) (w1 : World) (X1 : Hid (SP w w1 RO))
 (HQ : Hid (∀ (y0 y20 y21 y22 y173 y174 y175 y176 y177 y178 y179 y180 y181 y182 y183 y184 y185 y186 y187 y188 y189 y190 y191 y192 y193 y194 y195 y196 y197 y198 y199 y200 y201 y202 y203 y204 y205 : Value) (w' : World),SP w w' RO->Q (.exit 6) ⟨List.toArray (y0::u1::u2::u3::u4::u5::u6::u7::u8::u9::u10::u11::u12::u13::u14::u15::u16::u17::u18::u19::y20::y21::y22::u23::u24::u25::u26::u27::u28::u29::u30::u31::u32::u33::u34::u35::u36::u37::u38::u39::u40::u41::u42::u43::u44::u45::u46::u47::u48::u49::u50::u51::u52::u53::u54::u55::u56::u57::u58::u59::u60::u61::u62::u63::u64::u65::u66::u67::u68::u69::u70::u71::u72::u73::u74::u75::u76::u77::u78::u79::u80::u81::u82::u83::u84::u85::u86::u87::u88::u89::u90::u91::u92::u93::u94::u95::u96::u97::u98::u99::u100::u101::u102::u103::u104::u105::u106::u107::u108::u109::u110::u111::u112::u113::u114::u115::u116::u117::u118::u119::u120::u121::u122::u123::u124::u125::u126::u127::u128::u129::u130::u131::u132::u133::u134::u135::u136::u137::u138::u139::u140::u141::u142::u143::u144::u145::u146::u147::u148::u149::u150::u151::u152::u153::u154::u155::u156::u157::u158::u159::u160::u161::u162::u163::u164::u165::u166::u167::u168::u169::u170::.slice (some ⟨gP,0,none⟩) 2 2::.int .i64 2::y173::y174::y175::y176::y177::y178::y179::y180::y181::y182::y183::y184::y185::y186::y187::y188::y189::y190::y191::y192::y193::y194::y195::y196::y197::y198::y199::y200::y201::y202::y203::y204::y205::u206::[]),[]⟩ w')) :
 Code.wp Tryz.prog (loopAt Tryz.f3 27) Q ⟨List.toArray (u0::u1::u2::u3::u4::u5::u6::u7::u8::u9::u10::u11::u12::u13::u14::u15::u16::u17::u18::u19::u20::u21::u22::u23::u24::u25::u26::u27::u28::u29::u30::u31::u32::u33::u34::u35::u36::u37::u38::u39::u40::u41::u42::u43::u44::u45::u46::u47::u48::u49::u50::u51::u52::u53::u54::u55::u56::u57::u58::u59::u60::u61::u62::u63::u64::u65::u66::u67::u68::u69::u70::u71::u72::u73::u74::u75::u76::u77::u78::u79::u80::u81::u82::u83::u84::u85::u86::u87::u88::u89::u90::u91::u92::u93::u94::u95::u96::u97::u98::u99::u100::u101::u102::u103::u104::u105::u106::u107::u108::u109::u110::u111::u112::u113::u114::u115::u116::u117::u118::u119::u120::u121::u122::u123::u124::u125::u126::u127::u128::u129::u130::u131::u132::u133::u134::u135::u136::u137::u138::u139::u140::u141::u142::u143::u144::u145::u146::u147::u148::u149::u150::u151::u152::u153::u154::u155::u156::u157::u158::u159::u160::u161::u162::u163::u164::u165::u166::u167::u168::u169::u170::.slice (some ⟨gP,0,none⟩) 2 2::.int .i64 2::.int .i64 0::u174::u175::u176::u177::u178::u179::u180::u181::u182::u183::u184::u185::u186::u187::u188::u189::u190::u191::u192::u193::u194::u195::u196::u197::u198::u199::u200::u201::u202::u203::u204::u205::u206::[]),[]⟩ w1:=by
 conv=>arg 2;whnf
 go_loopw [20,21,22,173] (fun _ _ _ s173 wr=>∃ k : Nat,k<=2∧s173 = .int .i64 (k : Int)∧SP w wr RO) (fun _ _ _ s173 _=>2 - (intOf s173).toNat)
 case atStart=>exact ⟨0,Nat.zero_le _,rfl,X1.out⟩
 case round =>
  obtain ⟨k,hk,rfl,Y0⟩:=hrel
  have Y:=Lib.hid Y0
  clear Y0 X1
  by_cases hlt : k < 2
  ·have t1 : (k : Int) < 2:=by omega
   have t0 : (0 : Int)<=(k : Int):=by omega
   have e6 : IntKind.i64.wrap ((k : Int) + 1)=(k : Int) + 1:=IntWalk.i64_in _ (by omega)
   obtain ⟨p,hp,hn⟩ : ∃ p : Option Addr,wr.cell? ⟨gP,k,none⟩=some (.pointer p)∧Hid (Calls Tryz.prog 32 #[.pointer p] wr fun e w'=>e = .returned (.bool true)∧w'=wr):=by
    obtain ⟨h0,h1,h2⟩:=HC.out _ Y.out
    have hk2 : k=0∨k=1:=by omega
    rcases hk2 with rfl | rfl
    ·exact ⟨none,h0,Lib.hid (none_nil wr)⟩
    ·exact ⟨_,h1,Lib.hid (none_zero TB wr h2)⟩
   go_wp2_with fail
   refine (empty_put hn _).mono ?_
   rintro e w2 ⟨rfl,rfl⟩
   go_wp2_with fail
   refine (empty_tick hn _).mono ?_
   rintro e w2 ⟨rfl,rfl⟩
   go_wp2_with fail
   refine (empty_now hn 0).mono ?_
   rintro e w2 ⟨rfl,rfl⟩
   go_wp2_with fail
   refine (empty_groups hn 0).mono ?_
   rintro e w2 ⟨rfl,rfl⟩
   go_wp2_with fail
   go_roundw
   case rel=>exact ⟨k + 1,by omega,by go_num,Y.out⟩
   case measure=>simp [intOf];omega
  ·have t1 : ¬ (k : Int) < 2:=by omega
   obtain rfl : k=2:=by omega
   go_wp2_with fail
   exact HQ.out _ _ _ _ _ _ _ _ _ _ _ _ _ _ _ _ _ _ _ _ _ _ _ _ _ _ _ _ _ _ _ _ _ _ _ _ _ _ Y.out
end Go.Proofs.YtljbfnabnkkfeaaGreat
