import Derived.Test.YtljbfnabnkkfeaaGreatSL07
set_option linter.unusedVariables false
set_option linter.unusedSimpArgs false
/- Joined by program: FgA. -/
namespace Go.Proofs.YtljbfnabnkkfeaaGreat
open Go.RowKit Go.Shelf
attribute [local go_sem] Oper.semAt_some
section
variable {w0 w : World} {g : GM} {R L : List IT}
theorem gm_len (H : SP w0 w (g.its++R)) : ∀ p ∈ g.ps,p.d.length=p.n:=fun p hp=>by
 have:=H.mem p.it (by unfold GM.its;simp only [List.mem_append,List.mem_cons,List.mem_map];exact .inl (.inr (.inr (.inr ⟨p,hp,rfl⟩))))
 exact OWN.len this
theorem sumN_all : ∀ (ps : List PM),(∀ p ∈ ps,p.d.length=p.n)->sumN ps ps.length=bytesP (ps.map PM.a)
 | [],_=>rfl
 | p::ps,h=>by
   have:=sumN_all ps (fun q hq=>h q (by simp [hq]))
   have h1:=h p (by simp)
   unfold sumN at this ⊢
   simp only [List.take_length] at this ⊢
   rw [List.map_cons,List.map_cons,bytesP_cons,List.sum_cons,this]
   show p.n + _=p.d.length + _
   omega
theorem sumN_mono (ps : List PM) {i j : Nat} (h : i<=j) : sumN ps i<=sumN ps j:=by
 unfold sumN
 have : ps.take j=ps.take i++(ps.take j).drop i:=by
  have h2:=(List.take_append_drop i (ps.take j)).symm
  rwa [List.take_take,Nat.min_eq_left h] at h2
 rw [this,List.map_append,List.sum_append];omega
structure GFACTS (w : World) (g : GM) : Prop where
 lt : g.N < w.heap.size
 blk : BLOCK w g.N 88 g.cells
 parts : PARTS w g.pA g.pn g.ps
 bd : ∀ p ∈ g.ps,p.b<=100000∧p.n<=100000
 pn : g.pn<=100000
 sum : sumN g.ps g.pn=bytesP g.a.ps
 sk : ∀ k,k<=g.pn->sumN g.ps k<=100000
theorem gm_facts (H : SP w0 w (g.its++R)) (hk : GOK g.a) : GFACTS w g:=by
 have hl:=gm_len H
 have hb:=H.blk 0 rfl
 have hp:=parts_of_row (H.row 1 rfl)
 have hs : sumN g.ps g.pn=bytesP g.a.ps:=by rw [<- hp.1];exact sumN_all g.ps hl
 have hbb:=hk.ps.bytes
 have hll : g.ps.length<=65515:=by have:=hk.ps.len;unfold GM.a at this;simpa using this
 refine ⟨hb.lt,hb,hp,fun p hm=>?_,by rw [<- hp.1];omega,hs,fun k hk2=>?_⟩
 ·have h1:=hk.ps.le p.a (List.mem_map_of_mem hm)
  have h2:=hl p hm
  unfold PM.a pe at h1
  simp only at h1
  omega
 ·have:=sumN_mono g.ps hk2
  rw [hs] at this;omega
theorem bytesG_any (H : SP w0 w (g.its++R)) (hk : GOK g.a) :
 Calls Tryz.prog 41 #[.pointer (some ⟨g.N,0,none⟩)] w fun e w'=>e = .returned (.int .i64 (bytesP g.a.ps : Int))∧SP w0 w' (g.its++R):=by
 have F:=gm_facts H hk
 refine (bytes_any g.N g.pA g.pn g.pc g.ps w F.bd F.pn (F.sk _ (Nat.le_refl _)) F.sk F.lt (F.blk.cell 17) F.parts).mono ?_
 rintro e w' ⟨rfl,hb⟩
 exact ⟨by rw [F.sum],H.next hb⟩
set_option maxHeartbeats 1000000 in
set_option maxRecDepth 100000 in
theorem complete_any (H : SP w0 w (g.its++R)) (hk : GOK g.a) :
 Calls Tryz.prog 39 #[.pointer (some ⟨g.N,0,none⟩)] w fun e w'=>e = .returned (.bool (doneG g.a))∧SP w0 w' (g.its++R):=by
 have HH:=Lib.hid H
 have HK:=Lib.hid hk
 have KS:=Lib.hid (fun W' (hs : SP w0 W' (g.its++R))=>(show W'.cell? ⟨g.N,5,none⟩=some (.int .i64 g.q.total) from hs.cell 0 rfl 5 rfl))
 have hbb:=hk.ps.bytes
 obtain ⟨bs,hbs⟩ : ∃ bs,bytesP g.a.ps=bs:=⟨_,rfl⟩
 have HBS:=Lib.hid hbs
 have HD:=Lib.hid (show doneG g.a=(decide (0<=g.q.total) && decide ((bs : Int)=g.q.total)) by rw [<- hbs];rfl)
 obtain ⟨N,hN⟩ : ∃ N,g.N=N:=⟨_,rfl⟩
 have HN:=Lib.hid hN
 obtain ⟨T,hT⟩ : ∃ T,g.q.total=T:=⟨_,rfl⟩
 rw [hN,hT] at KS
 rw [hT] at HD
 rw [hN,HD.out]
 clear H hk hN hT hbs
 by_cases h0 : 0<=T
 ·have b0 : decide (0<=T)=true:=by simpa using h0
  go_enter Tryz.func39,Tryz.ntmps39
  go_upto_region 1 with fail
  have ZD:=Lib.hid HH.out.drew
  refine wp_region_noPanic ?_
  refine wp_region_held_drew (S:=fun W'=>W'.cell? ⟨N,5,none⟩=some (.int .i64 T)) (by kernel_rfl) (by exact KS.out _ ZD.out) (fun hHeld=>?_)
  generalize w.drew=v0 at ZD hHeld ⊢
  refine' tk (i:=0) rfl ?U1 ?V1
  case U1=>intro w' hSw;(try dsimp only at hSw);go_simp;try (with_reducible rfl)
  try simp only [Act.put,jA,jB,jC]
  refine' tk (i:=1) rfl ?U2 ?V2
  case U2=>intro w' hSw;(try dsimp only at hSw);go_simp;try (with_reducible rfl)
  try simp only [Act.put,jA,jB,jC]
  refine' tk (i:=2) rfl ?U3 ?V3
  case U3=>intro w' hSw;(try dsimp only at hSw);go_simp;try (with_reducible rfl)
  try simp only [Act.put,jA,jB,jC]
  refine' tk (i:=3) rfl ?U4 ?V4
  case U4=>intro w' hSw;(try dsimp only at hSw);go_simp;try (with_reducible rfl)
  try simp only [Act.put,jA,jB,jC]
  refine' tk (i:=4) rfl ?U5 ?V5
  case U5=>intro w' hSw;(try dsimp only at hSw);go_simp;try (with_reducible rfl)
  try simp only [Act.put,jA,jB,jC]
  refine' tk (i:=5) rfl ?U6 ?V6
  case U6=>intro w' hSw;(try dsimp only at hSw);go_simp;try (with_reducible rfl)
  try simp only [Act.put,jA,jB,jC]
  refine' tk (i:=6) rfl ?U7 ?V7
  case U7=>intro w' hSw;(try dsimp only at hSw);go_simp;try (with_reducible rfl)
  try simp only [Act.put,jA,jB,jC]
  refine' tk (i:=8) rfl ?U8 ?V8
  case U8=>intro w' hSw;(try dsimp only at hSw);go_simp;try (with_reducible rfl)
  try simp only [Act.put,jA,jB,jC]
  refine' tk (i:=9) rfl ?U9 ?V9
  case U9=>intro w' hSw;(try dsimp only at hSw);go_simp;try (with_reducible rfl)
  try simp only [Act.put,jA,jB,jC]
  refine' tk (i:=10) rfl ?U10 ?V10
  case U10=>intro w' hSw;(try dsimp only at hSw);go_simp;try (with_reducible rfl)
  try simp only [Act.put,jA,jB,jC]
  refine' tk (i:=11) rfl ?U11 ?V11
  case U11=>intro w' hSw;(try dsimp only at hSw);go_simp;try (with_reducible rfl)
  try simp only [Act.put,jA,jB,jC]
  refine rdy [7] ?_
  refine cons_lit rfl (fun K hK=>?ss7x12) AllReadyH.nil
  case ss7x12 =>
   go_simp
   rw [<- HN.out]
   refine (bytesG_any ZD.out HK.out).mono ?_
   rw [HBS.out]
   rintro e wd ⟨rfl,hS⟩
   rw [HN.out]
   replace ZD:=Lib.hid hS
   clear hS
   try simp only [Oper.upon_returned]
   refine hK.out _ _ (by exact KS.out _ ZD.out) (fun hHeld=>?_)
   clear hK K
   try simp only [Act.put,jA,jB,jC]
   refine' tk (i:=12) rfl ?U13 ?V13
   case U13=>intro w' hSw;(try dsimp only at hSw);go_simp;try (with_reducible rfl)
   try simp only [Act.put,jA,jB,jC]
   refine' tk (i:=13) rfl ?U14 ?V14
   case U14=>intro w' hSw;(try dsimp only at hSw);go_simp;try (with_reducible rfl)
   try simp only [Act.put,jA,jB,jC]
   refine' tk (i:=14) rfl ?U15 ?V15
   case U15=>intro w' hSw;(try dsimp only at hSw);go_simp;try (with_reducible rfl)
   try simp only [Act.put,jA,jB,jC]
   refine wpAnyH_done (by kernel_rfl) ?_ _
   refine NoPanic.normal ?_
   go_wp2_with fail
   go_ret
   exact ⟨by first | rfl | (rw [b0];rfl),ZD.out⟩
 ·have b0 : decide (0<=T)=false:=by simp;omega
  have x5:=KS.out _ HH.out
  go_enter Tryz.func39,Tryz.ntmps39
  go_upto_region 1 with fail
  go_quiet (fail)
  go_wp2_with fail
  go_ret
  exact ⟨by first | rfl | (rw [b0];rfl),HH.out.drewN _⟩
end
set_option maxHeartbeats 1000000 in
set_option maxRecDepth 100000 in
theorem add1_any (HB GB EB N : Nat) (mf : Bool) (T : Int) (E : Nat) (w : World) (x1 : w.cell? ⟨HB,3,none⟩=some (.bool mf)) (x2 : w.cell? ⟨GB,0,none⟩=some (.pointer (some ⟨N,0,none⟩))) (x3 : w.cell? ⟨EB,0,none⟩=some (.int .i64 (E : Int))) (x4 : w.cell? ⟨N,5,none⟩=some (.int .i64 T)) :
 Calls Tryz.prog 67 #[.pointer (some ⟨HB,0,none⟩),.pointer (some ⟨GB,0,none⟩),.pointer (some ⟨EB,0,none⟩)] w fun e w'=>e = .returned (.bool (dies1 T mf E))∧∃ k,w'=w.drewN k:=by
 have HD:=Lib.hid (show dies1 T mf E=((!mf && decide (0<=T)) || (decide (0<=T) && decide (T < (E : Int)))) from rfl)
 rw [HD.out]
 clear HD
 by_cases h0 : 0<=T
 ·have b0 : decide (0<=T)=true:=by simpa using h0
  cases mf
  ·go_enter Tryz.func67,Tryz.ntmps67
   go_upto_region 1 with fail
   go_quiet (fail)
   go_wp2_with fail
   go_ret
   exact ⟨by first | rfl | (rw [b0];rfl),_,rfl⟩
  ·by_cases h1 : T < (E : Int)
   ·have b1 : decide (T < (E : Int))=true:=by simpa using h1
    go_enter Tryz.func67,Tryz.ntmps67
    go_upto_region 1 with fail
    go_quiet (fail)
    go_wp2_with fail
    go_ret
    exact ⟨by first | rfl | (rw [b0,b1];rfl),_,rfl⟩
   ·have b1 : decide (T < (E : Int))=false:=by simp;omega
    go_enter Tryz.func67,Tryz.ntmps67
    go_upto_region 1 with fail
    go_quiet (fail)
    go_wp2_with fail
    go_ret
    exact ⟨by first | rfl | (rw [b0,b1];rfl),_,rfl⟩
 ·have b0 : decide (0<=T)=false:=by simp;omega
  cases mf
  all_goals
   go_enter Tryz.func67,Tryz.ntmps67
   go_upto_region 1 with fail
   go_quiet (fail)
   go_wp2_with fail
   go_ret
   exact ⟨by first | rfl | (rw [b0];rfl),_,rfl⟩
theorem results_cell1 {P : Program} {fn : Func} {p : Tmp} {ty : TypeId} (h : fn.results = #[.cell p ty]) (tmps : Array Value) (w : World) (g2 : Nat) {v : Value}
 (hp : tmps.getD p undef = .pointer (some ⟨g2,0,none⟩)) (hv : P.underlying ty=some .bool) (hc : w.cell? ⟨g2,0,none⟩=some v) :
 (results fn tmps).run P w = .ok v w:=by
 have hp' : tmps[p]?.getD undef = .pointer (some ⟨g2,0,none⟩):=by simpa using hp
 have hi : (isAgg ty).run P w = .ok false w:=by simp [isAgg,run_underlying hv]
 have hl : (loadVar ty ⟨g2,0,none⟩).run P w = .ok v w:=by simp [loadVar,hi,load,Sem.run,hc]
 simp [results,h,hp',asAddr,hl]
theorem any_take {α : Type} (f : α->Bool) (l : List α) (d : α) {k : Nat} (hk : k < l.length) : (l.take (k + 1)).any f=((l.take k).any f || f (l[k]?.getD d)):=by
 rw [List.take_add_one,List.getElem?_eq_getElem hk,List.any_append];simp
def anyD (D : PM->Bool) (l : List PM) : Bool:=l.any D
set_option maxHeartbeats 1000000 in
set_option maxRecDepth 100000 in
theorem add2_any (HB GB EB BB : Nat) (mf : Bool) (B E : Nat) (g : GM) (w : World) (F : GFACTS w g) (hB : B<=100000) (hE : E<=200000) (lt : HB < w.heap.size∧GB < w.heap.size∧EB < w.heap.size∧BB < w.heap.size)
 (x1 : w.cell? ⟨HB,3,none⟩=some (.bool mf)) (x2 : w.cell? ⟨GB,0,none⟩=some (.pointer (some ⟨g.N,0,none⟩))) (x3 : w.cell? ⟨EB,0,none⟩=some (.int .i64 (E : Int))) (x4 : w.cell? ⟨BB,0,none⟩=some (.int .i64 (B : Int))) :
 Calls Tryz.prog 68 #[.pointer (some ⟨GB,0,none⟩),.pointer (some ⟨EB,0,none⟩),.pointer (some ⟨BB,0,none⟩),.pointer (some ⟨HB,0,none⟩)] w fun e w'=>e = .returned (.bool (g.ps.any (fun p=>dies2 mf B E (p.b,List.replicate p.n 0))))∧Below w.heap.size w w':=by
 obtain ⟨D2,hD2⟩ : ∃ D2,(fun p : PM=>dies2 mf B E (p.b,List.replicate p.n 0))=D2:=⟨_,rfl⟩
 have HD2:=Lib.hid (fun p : PM=>(show D2 p=((decide (p.b < E) && decide (B < p.b + p.n)) || (!mf && decide (E < p.b + p.n))) by rw [<- hD2];simp [dies2,pe]))
 rw [hD2]
 clear hD2
 have HP:=Lib.hid F.parts
 have HB2:=Lib.hid F.bd
 have hn:=F.pn
 have H17:=Lib.hid (fun W (hb : Below w.heap.size w W)=>(hb.cell (p:=⟨g.N,17,none⟩) F.lt).trans (F.blk.cell 17))
 have KC:=Lib.hid (fun W (hb : Below w.heap.size w W)=>(And.intro ((hb.cell (p:=⟨HB,3,none⟩) lt.1).trans x1) (And.intro ((hb.cell (p:=⟨EB,0,none⟩) lt.2.2.1).trans x3) ((hb.cell (p:=⟨BB,0,none⟩) lt.2.2.2).trans x4))))
 have KG:=Lib.hid (fun W (hb : Below w.heap.size w W)=>(hb.cell (p:=⟨GB,0,none⟩) lt.2.1).trans x2)
 obtain ⟨N,hN⟩ : ∃ N,g.N=N:=⟨_,rfl⟩
 obtain ⟨A,hA⟩ : ∃ A,g.pA=A:=⟨_,rfl⟩
 obtain ⟨n,hnn⟩ : ∃ n,g.pn=n:=⟨_,rfl⟩
 obtain ⟨c,hc⟩ : ∃ c,g.pc=c:=⟨_,rfl⟩
 obtain ⟨ps,hps⟩ : ∃ ps,g.ps=ps:=⟨_,rfl⟩
 replace H17:=Lib.hid (show ∀ W,Below w.heap.size w W->W.cell? ⟨N,17,none⟩=some (.slice A n c) from fun W hb=>by rw [<- hN,<- hA,<- hnn,<- hc];exact H17.out W hb)
 rw [hA,hnn,hps] at HP
 rw [hps] at HB2 ⊢
 rw [hN] at KG
 rw [hnn] at hn
 clear F x1 x2 x3 x4 lt hN hA hnn hc hps
 refine callsIn_wide.1 (callsIn_of_wp_marks (n:=2) Tryz.func68 rfl trivial ?_ rfl)
 simp only [Tryz.ntmps68,List.size_toArray,List.length_cons,List.length_nil,Nat.reduceAdd,Nat.reduceSub,Array.replicate_succ,Array.replicate_zero,List.push_toArray,List.append_toArray,List.nil_append,List.cons_append]
 refine wpIn_wide.2 ?_
 obtain ⟨S,hS⟩ : ∃ S,w.heap.size=S:=⟨_,rfl⟩
 have X1:=Lib.hid ((SP.start w).alloc' (N:=S) 4 #[.bool false] hS)
 have kg:=KG.out _ X1.out.bel
 go_wp2_with fail
 clear kg
 refine (each_any N _).mono ?_
 rintro e w2 ⟨rfl,hw2⟩
 rw [hS] at *
 obtain ⟨BV,hBV⟩ : ∃ B,B=(w.alloc (.cells #[.bool false] 4)).heap.size:=⟨_,rfl⟩
 have X2:=Lib.hid (X1.out.alloc' (N:=BV) 82 #[.pointer (some ⟨N,0,none⟩)] hBV.symm)
 rw [<- hw2] at X2
 rw [<- hBV]
 replace X2:=Lib.hid (show SP w w2 [.blk S 4 #[.bool false],.blk BV 82 #[.pointer (some ⟨N,0,none⟩)]] from X2.out)
 clear hw2 hBV hS X1
 go_wp2_with fail
 obtain ⟨D,hD⟩ : ∃ D,w2.heap.size=D:=⟨_,rfl⟩
 refine (wpIn_wide (n:=2)).1 ?_
 refine wpIn_range_raw (gf:=92) (lb:=#[.pointer (some ⟨BV,0,none⟩)]) rfl (fun h=>by cases h) rfl trivial (enters_of Tryz.func92 (by kernel_rfl) rfl)
  (fun W=>anyD D2 ps=false∧∃ r : Loop,SP w W [.blk S 4 #[.bool false],.blk BV 82 #[.pointer (some ⟨N,0,none⟩)],.obj D (.deferred (some [])),.obj (D + 1) (.loop r)])
  (fun W=>anyD D2 ps=true∧∃ r : Loop,SP w W [.blk S 4 #[.bool true],.blk BV 82 #[.pointer (some ⟨N,0,none⟩)],.obj D (.deferred (some [])),.obj (D + 1) (.loop r)]) ?call ?done ?stop
 case call =>
  intro fn hfn W1 hW1 hbook
  rw [hD] at hbook ⊢
  generalize hrec : recOf fn _ _ _ _ D=rec at hbook ⊢
  have H3:=Lib.hid (show SP w W1 [.blk S 4 #[.bool false],.blk BV 82 #[.pointer (some ⟨N,0,none⟩)],.obj D (.deferred (some [])),.obj (D + 1) (.loop (rec .ready none))] by
   have h9:=((X2.out.allocO (.deferred (some []))).allocO (.loop (rec .ready none)))
   rw [World.size_alloc,hD] at h9
   rw [hW1,hD,hrec]
   exact h9)
  clear hW1 X2
  refine (each1_in 1 (D + 1) BV N (by omega) A n c ps HB2.out hn (fun k W=>anyD D2 (ps.take k)=false∧SP w W [.blk S 4 #[.bool false],.blk BV 82 #[.pointer (some ⟨N,0,none⟩)],.obj D (.deferred (some [])),.obj (D + 1) (.loop (rec .ready none))])
   (fun W=>anyD D2 ps=true∧SP w W [.blk S 4 #[.bool true],.blk BV 82 #[.pointer (some ⟨N,0,none⟩)],.obj D (.deferred (some [])),.obj (D + 1) (.loop (rec .done (some .ret)))]) ?hJ ?hal ?hy W1 ⟨by simp [anyD],H3.out⟩).mono ?_
  case hJ=>exact fun k W X=>⟨X.2.cell 1 rfl 0 rfl,H17.out W X.2.bel,HP.out.below X.2.bel⟩
  case hal=>exact fun k W o X=>⟨X.1,X.2.next ((Below.refl _ W).alloc (Nat.le_refl _) o)⟩
  case hy =>
   rintro k W hk ⟨hno,X⟩
   subst hrec
   refine yield_of_round trivial ⟨X.obj 3 rfl,X.obj 2 rfl⟩ rfl ?a1 ?assign ?body
   case assign =>
    intro W0 K0 hK0
    gi_wp2
    exact hK0
   case body =>
    intro hbusy
    have X2:=X.turn 3 rfl _ (grownBy_putObj' _ _ _) hbusy.loop
    clear hbook X
    generalize W.putObj (D + 1) _=Wb at X2 hbusy ⊢
    generalize recOf fn _ _ _ _ D=rec at X2 hbusy ⊢
    have HX:=Lib.hid X2
    clear X2 hbusy H3
    have c0 : Wb.cell? ⟨S,0,none⟩=some (.bool false):=HX.out.cell 0 rfl 0 rfl
    have f0:=HX.out.free 0 rfl 0
    obtain ⟨k1,k2,k3⟩:=KC.out _ HX.out.bel
    obtain ⟨p,hp⟩ : ∃ p,ps[k]?.getD PM0=p:=⟨_,rfl⟩
    have hpm : p ∈ ps:=by rw [<- hp,List.getElem?_eq_getElem (by have:=HP.out.1;omega)];exact List.getElem_mem _
    obtain ⟨b1,b2⟩:=HB2.out p hpm
    have HNO:=Lib.hid (show D2 p=false->anyD D2 (ps.take (k + 1))=false from fun h=>by unfold anyD at hno ⊢;rw [any_take D2 ps PM0 (by have:=HP.out.1;omega),hno,hp,h];rfl)
    have HYES:=Lib.hid (show D2 p=true->anyD D2 ps=true from fun h=>List.any_eq_true.2 ⟨p,hpm,h⟩)
    have HDP:=Lib.hid (HD2.out p)
    rw [hp]
    clear hp hpm hno
    obtain ⟨te,hto⟩ : ∃ te : Nat,p.b + p.n=te:=⟨_,rfl⟩
    have hto2 : (p.b : Int) + (p.n : Int)=(te : Int):=by omega
    rw [hto2]
    have HTO:=Lib.hid hto
    clear hto hto2
    by_cases h1 : p.b < E
    ·have t1 : (p.b : Int) < (E : Int):=by omega
     have d1 : decide (p.b < E)=true:=by simpa using h1
     have i1 : decide ((p.b : Int) < (E : Int))=true:=by simpa using t1
     by_cases h2 : B < te
     ·have t2 : (B : Int) < (te : Int):=by omega
      have d2 : decide (B < te)=true:=by simpa using h2
      have i2 : decide ((B : Int) < (te : Int))=true:=by simpa using t2
      have HV:=Lib.hid (show D2 p=true by rw [HDP.out,HTO.out];rw [d1,d2];simp)
      gi_wp2
      have Y:=HX.out.setB 0 rfl 0 (.bool true)
      have Y2:=Y.turn 3 rfl (.loop (rec .done (some .ret))) (grownBy_putObj' _ _ _) (World.putObj_heap_same (Y.all 3 _ rfl |>.lt rfl).2)
      exact ⟨⟨Y.obj 3 rfl,Y.obj 2 rfl⟩,.inr ⟨rfl,HYES.out HV.out,Y2⟩⟩
     ·have t2 : ¬ (B : Int) < (te : Int):=by omega
      have d2 : decide (B < te)=false:=by simpa using h2
      have i2 : decide ((B : Int) < (te : Int))=false:=by simpa using t2
      cases mf
      case false =>
       by_cases h4 : E < te
       ·have t4 : (E : Int) < (te : Int):=by omega
        have d4 : decide (E < te)=true:=by simpa using h4
        have i4 : decide ((E : Int) < (te : Int))=true:=by simpa using t4
        have HV:=Lib.hid (show D2 p=true by rw [HDP.out,HTO.out];rw [d1,d2,d4];simp)
        gi_wp2
        have Y:=HX.out.setB 0 rfl 0 (.bool true)
        have Y2:=Y.turn 3 rfl (.loop (rec .done (some .ret))) (grownBy_putObj' _ _ _) (World.putObj_heap_same (Y.all 3 _ rfl |>.lt rfl).2)
        exact ⟨⟨Y.obj 3 rfl,Y.obj 2 rfl⟩,.inr ⟨rfl,HYES.out HV.out,Y2⟩⟩
       ·have t4 : ¬ (E : Int) < (te : Int):=by omega
        have d4 : decide (E < te)=false:=by simpa using h4
        have i4 : decide ((E : Int) < (te : Int))=false:=by simpa using t4
        have HV:=Lib.hid (show D2 p=false by rw [HDP.out,HTO.out];rw [d1,d2,d4];simp)
        gi_wp2
        have Y:=HX.out
        have Y2:=Y.turn 3 rfl (.loop (rec .ready none)) (grownBy_putObj' _ _ _) (World.putObj_heap_same (Y.all 3 _ rfl |>.lt rfl).2)
        exact ⟨⟨Y.obj 3 rfl,Y.obj 2 rfl⟩,.inl ⟨rfl,HNO.out HV.out,Y2⟩⟩
      case true =>
       have HV:=Lib.hid (show D2 p=false by rw [HDP.out,HTO.out];rw [d1,d2];simp)
       gi_wp2
       have Y:=HX.out
       have Y2:=Y.turn 3 rfl (.loop (rec .ready none)) (grownBy_putObj' _ _ _) (World.putObj_heap_same (Y.all 3 _ rfl |>.lt rfl).2)
       exact ⟨⟨Y.obj 3 rfl,Y.obj 2 rfl⟩,.inl ⟨rfl,HNO.out HV.out,Y2⟩⟩
    ·have t1 : ¬ (p.b : Int) < (E : Int):=by omega
     have d1 : decide (p.b < E)=false:=by simpa using h1
     have i1 : decide ((p.b : Int) < (E : Int))=false:=by simpa using t1
     cases mf
     case false =>
      by_cases h4 : E < te
      ·have t4 : (E : Int) < (te : Int):=by omega
       have d4 : decide (E < te)=true:=by simpa using h4
       have i4 : decide ((E : Int) < (te : Int))=true:=by simpa using t4
       have HV:=Lib.hid (show D2 p=true by rw [HDP.out,HTO.out];rw [d1,d4];simp)
       gi_wp2
       have Y:=HX.out.setB 0 rfl 0 (.bool true)
       have Y2:=Y.turn 3 rfl (.loop (rec .done (some .ret))) (grownBy_putObj' _ _ _) (World.putObj_heap_same (Y.all 3 _ rfl |>.lt rfl).2)
       exact ⟨⟨Y.obj 3 rfl,Y.obj 2 rfl⟩,.inr ⟨rfl,HYES.out HV.out,Y2⟩⟩
      ·have t4 : ¬ (E : Int) < (te : Int):=by omega
       have d4 : decide (E < te)=false:=by simpa using h4
       have i4 : decide ((E : Int) < (te : Int))=false:=by simpa using t4
       have HV:=Lib.hid (show D2 p=false by rw [HDP.out,HTO.out];rw [d1,d4];simp)
       gi_wp2
       have Y:=HX.out
       have Y2:=Y.turn 3 rfl (.loop (rec .ready none)) (grownBy_putObj' _ _ _) (World.putObj_heap_same (Y.all 3 _ rfl |>.lt rfl).2)
       exact ⟨⟨Y.obj 3 rfl,Y.obj 2 rfl⟩,.inl ⟨rfl,HNO.out HV.out,Y2⟩⟩
     case true =>
      have HV:=Lib.hid (show D2 p=false by rw [HDP.out,HTO.out];rw [d1];simp)
      gi_wp2
      have Y:=HX.out
      have Y2:=Y.turn 3 rfl (.loop (rec .ready none)) (grownBy_putObj' _ _ _) (World.putObj_heap_same (Y.all 3 _ rfl |>.lt rfl).2)
      exact ⟨⟨Y.obj 3 rfl,Y.obj 2 rfl⟩,.inl ⟨rfl,HNO.out HV.out,Y2⟩⟩
  rintro e W2 ⟨hv,⟨hno,X⟩ | ⟨hyes,X⟩⟩
  ·exact ⟨hv,.inl ⟨⟨X.obj 3 rfl,X.obj 2 rfl⟩,by rw [<- HP.out.1,List.take_length] at hno;exact hno,_,X⟩⟩
  ·exact ⟨hv,.inr ⟨⟨X.obj 3 rfl,X.obj 2 rfl⟩,hyes,_,X⟩⟩
 case done =>
  rintro W2 r r' hl2 hdf ⟨hno,r0,X⟩
  rw [hD] at hl2 hdf ⊢
  have X2:=X.turn 3 rfl (.loop r') (grownBy_putObj' _ _ _) (World.putObj_heap_same (X.all 3 _ rfl |>.lt rfl).2)
  generalize W2.putObj (D + 1) (.loop r')=W3 at X2 ⊢
  have HX:=Lib.hid X2
  have HNO:=Lib.hid hno
  clear X X2 hl2 hdf hno
  have c0 : W3.cell? ⟨S,0,none⟩=some (.bool false):=HX.out.cell 0 rfl 0 rfl
  have f0:=HX.out.free 0 rfl 0
  go_wp2_with fail
  have Y:=HX.out.setB 0 rfl 0 (.bool false)
  refine ⟨by simp,.inl ⟨D,_,rfl,run_takeDeferred (Y.obj 2 rfl),?_⟩⟩
  have Z:=Y.turn 2 rfl (.deferred none) (grownBy_putObj' _ _ _) (World.putObj_heap_same (Y.all 2 _ rfl |>.lt rfl).2)
  exact ⟨_,results_cell1 rfl _ _ S rfl Tryz.underlying4 (Z.cell 0 rfl 0 rfl),by rw [show ps.any D2=false from HNO.out];rfl,Z.bel⟩
 case stop =>
  rintro W2 r r' hl2 hdf ⟨hyes,r0,X⟩
  rw [hD] at hl2 hdf ⊢
  have X2:=X.turn 3 rfl (.loop r') (grownBy_putObj' _ _ _) (World.putObj_heap_same (X.all 3 _ rfl |>.lt rfl).2)
  refine ⟨by simp,.inl ⟨D,_,rfl,run_takeDeferred (X2.obj 2 rfl),?_⟩⟩
  have Z:=X2.turn 2 rfl (.deferred none) (grownBy_putObj' _ _ _) (World.putObj_heap_same (X2.all 2 _ rfl |>.lt rfl).2)
  exact ⟨_,results_cell1 rfl _ _ S rfl Tryz.underlying4 (Z.cell 0 rfl 0 rfl),by rw [show ps.any D2=true from hyes];rfl,Z.bel⟩
end Go.Proofs.YtljbfnabnkkfeaaGreat
namespace Go.Proofs.YtljbfnabnkkfeaaGreat
open Go.RowKit Go.Shelf
theorem infoPart : (Tryz.prog.info? 92).map (fun i=>(i.zero,i.size,i.bytes))=some (some (.agg #[.int .i64 0,.slice none 0 0]),2,32):=by kernel_rfl
theorem nameK {K : Act->World->Prop} {a : Act} {W : World} (h : ∀ W',W'=W->K a W') : K a W:=h W rfl
theorem exec_load_mid {P : Program} {o : Oper} {a : Act} {w : World} (ty : TypeId) (x : Operand) (ho : o.op = .load ty x)
 (b ofs : Nat) (hx : a.eval x = .pointer (some ⟨b,ofs,none⟩)) (cs : List Value) (d : TypeDesc) (hc : w.rangeAt b ofs cs)
 (hu : P.underlying ty=some d) (hd : d.isRow=true) (hi : (P.info? ty).map (·.size)=some cs.length) :
 (execOp a.eval o).run P w = .ok (.value (.agg cs.toArray)) w:=by
 unfold execOp
 simp only [ho,hx,Instr.loadAt,Instr.sureAddr,Sem.run_bind,Sem.run_pure,Result.andThen_ok,run_loadVar_mid w b ofs ty cs d hc hu hd hi]
theorem two_new (w : World) (t : TypeId) (u v : Value) (j : Nat) (x : Value) (hx : [u,v][j]?=some x) : (w.alloc (.cells #[u,v] t)).cell? ((⟨w.heap.size,0,none⟩ : Addr).add j)=some x:=by
 have hb : BLOCK (w.alloc (.cells #[u,v] t)) w.heap.size t #[u,v]:=BLOCK.new' w t _ rfl
 rw [Addr.add_mid,hb.cell,Nat.zero_add]
 match j,hx with
 | 0,hx=>simpa using hx
 | 1,hx=>simpa using hx
 | j + 2,hx=>simp at hx
theorem dies2_rep (mf : Bool) (b e : Nat) (p : PM) (h : p.d.length=p.n) : dies2 mf b e (p.b,List.replicate p.n 0)=dies2 mf b e p.a:=by
 unfold dies2 pe PM.a;simp [h]
theorem dies2_any (mf : Bool) (b e : Nat) : ∀ (ps : List PM),(∀ p ∈ ps,p.d.length=p.n)->ps.any (fun p=>dies2 mf b e (p.b,List.replicate p.n 0))=(ps.map PM.a).any (dies2 mf b e)
 | [],_=>rfl
 | p::ps,h=>by
   rw [List.map_cons,List.any_cons,List.any_cons,dies2_rep mf b e p (h p (by simp)),dies2_any mf b e ps (fun q hq=>h q (by simp [hq]))]
def ADDED (g : AG) (f : FR) (b : Bool) (g' : AG) : Prop :=
 (addG g f=some g'∧b=true)∨(addG g f=none∧b=false∧g'.src=g.src∧g'.dst=g.dst∧g'.proto=g.proto∧g'.id=g.id∧g'.begin_=g.begin_∧g'.dead=g.dead∧GOK g')
def ADDR (w0 : World) (N : Nat) (a : AG) (f : FR) (R : List IT) (e : Ending) (w' : World) : Prop :=
 ∃ (b : Bool) (g' : GM),e = .returned (.bool b)∧g'.N=N∧ADDED a f b g'.a∧SP w0 w' (g'.its++R)
def GMq (N : Nat) (q : AG) (hA : Option Addr) (hn hc : Nat) (pA : Option Addr) (pn pc : Nat) (ps : List PM) : GM:=⟨N,q,hA,hn,hc,pA,pn,pc,ps⟩
def putP (f : FR) (ps : List (Nat × List Int)) : List (Nat × List Int):=if f.d=[] then ps else ps++[(f.b,f.d)]
theorem hcells_one' (H : HD) (A : Option Addr) (n c : Nat) : (H.cells (.slice A n c)).all (·.oneCell')=true:=by
 unfold HD.cells;simp [Value.oneCell']
theorem nameL' {P : Program} {ops : Array Oper} {Q : Exit->Act->World->Prop} {rest : List Oper} {a : Act} {W : World} (h : ∀ W',W'=W->wpList P ops Q rest a W') : wpList P ops Q rest a W:=h W rfl
theorem setAll_head (N : Nat) (q : AG) (hA : Option Addr) (hn hc : Nat) (pA : Option Addr) (pn pc : Nat) (ps : List PM) (h : HD) (oA : Option Addr) (on oc : Nat) :
 setAll (GMq N q hA hn hc pA pn pc ps).cells 7 (h.cells (.slice oA on oc)).toList=(GMq N { q with h:=h } oA on oc pA pn pc ps).cells:=by
 simp [GMq,GM.cells,HD.cells,setAll]
def headQ (f : FR) (q : AG) : AG:={ q with total:=if f.h.mf then q.total else (f.e : Int),h:=if f.b=0 then { f.h with mf:=false } else q.h,o:=if f.b=0 then f.o else q.o }
def ADH (w0 W : World) (LC R : List IT) (N : Nat) (f : FR) (q : AG) (pA : Option Addr) (pn pc : Nat) (ps : List PM) : Prop :=
 ∃ (hA : Option Addr) (hn hc : Nat),SP w0 W (LC++((GMq N (headQ f q) hA hn hc pA pn pc ps).its++R))
def AD1 (w0 W : World) (LC X : List IT) (N : Nat) (q : AG) (hA : Option Addr) (hn hc : Nat) (ps' : List (Nat × List Int)) : Prop :=
 ∃ (pA : Option Addr) (pn pc : Nat) (ps : List PM),ps.map PM.a=ps'∧SP w0 W (LC++((GMq N q hA hn hc pA pn pc ps).its++X))
def FSA (HB GB PE PB : Nat) : Array Value:=#[.func (.func 67) #[] #[.pointer (some ⟨HB,0,none⟩),.pointer (some ⟨GB,0,none⟩),.pointer (some ⟨PE,0,none⟩)],.func (.func 68) #[] #[.pointer (some ⟨GB,0,none⟩),.pointer (some ⟨PE,0,none⟩),.pointer (some ⟨PB,0,none⟩),.pointer (some ⟨HB,0,none⟩)]]
def DJ (j : Nat) (d1 d2 : Bool) : Prop:=(1<=j->d1=false)∧(2<=j->d2=false)
set_option maxHeartbeats 2000000 in
set_option maxRecDepth 100000 in
theorem add9 {u0 u1 u5 u6 u9 u10 u11 u12 u13 u14 u15 u16 u17 u18 u19 u20 u21 u22 u23 u24 u25 u26 u27 u28 u29 u30 u31 u32 u33 u34 u35 u36 u37 u38 u39 u40 u41 u42 u43 u44 u45 u46 u47 u48 u49 u50 u51 u52 u53 u54 u55 u56 u57 u58 u59 u60 u61 u62 u63 u64 u65 u66 u67 u68 u69 u70 u71 u72 u73 u74 u75 : Value} {Q : Exit->Act->World->Prop} (w0 : World) (N : Nat) (f : FR) (R : List IT) (oA : Option Addr) (on oc : Nat) (dA : Option Addr) (dn dc : Nat) (PB PE HB GB : Nat) (q : AG) (hA : Option Addr) (hn hc : Nat) (pA : Option Addr) (pn pc : Nat) (ps : List PM)
 (hpn : pn<=100000) (hdn : dn<=140737488355328) (RDD : Hid (∀ W,SP w0 W R->RD .u8 W W.heap.size dA dn f.d)) (w1 : World) (Z : Hid (SP w0 w1 ([.blk PB 3 #[.int .i64 (f.b : Int)],.blk PE 3 #[.int .i64 (f.e : Int)],.blk HB 34 (f.h.cells (.slice oA on oc)),.blk GB 82 #[.pointer (some ⟨N,0,none⟩)]]++((GMq N q hA hn hc pA pn pc ps).its++(.own .u8 5 oA on oc f.o::R)))))
 (HQ : Hid (∀ (y32 y33 y34 y35 y36 y37 y38 y39 y40 y41 y42 y43 y44 : Value) (w' : World),AD1 w0 w' [.blk PB 3 #[.int .i64 (f.b : Int)],.blk PE 3 #[.int .i64 (f.e : Int)],.blk HB 34 (f.h.cells (.slice oA on oc)),.blk GB 82 #[.pointer (some ⟨N,0,none⟩)]] (.own .u8 5 oA on oc f.o::R) N q hA hn hc (ps.map PM.a++[(f.b,f.d)])->Q .normal ⟨List.toArray (u0::u1::.slice dA dn dc::.pointer (some ⟨GB,0,none⟩)::.pointer (some ⟨HB,0,none⟩)::u5::u6::.pointer (some ⟨PB,0,none⟩)::.pointer (some ⟨PE,0,none⟩)::u9::u10::u11::u12::u13::u14::u15::u16::u17::u18::u19::u20::u21::u22::u23::u24::u25::u26::u27::u28::u29::u30::u31::y32::y33::y34::y35::y36::y37::y38::y39::y40::y41::y42::y43::y44::u45::u46::u47::u48::u49::u50::u51::u52::u53::u54::u55::u56::u57::u58::u59::u60::u61::u62::u63::u64::u65::u66::u67::u68::u69::u70::u71::u72::u73::u74::u75::[]),[]⟩ w')) :
 Code.wp Tryz.prog (regAt Tryz.f38 9) Q ⟨List.toArray (u0::u1::.slice dA dn dc::.pointer (some ⟨GB,0,none⟩)::.pointer (some ⟨HB,0,none⟩)::u5::u6::.pointer (some ⟨PB,0,none⟩)::.pointer (some ⟨PE,0,none⟩)::u9::u10::u11::u12::u13::u14::u15::u16::u17::u18::u19::u20::u21::u22::u23::u24::u25::u26::u27::u28::u29::u30::u31::u32::u33::u34::u35::u36::u37::u38::u39::u40::u41::u42::u43::u44::u45::u46::u47::u48::u49::u50::u51::u52::u53::u54::u55::u56::u57::u58::u59::u60::u61::u62::u63::u64::u65::u66::u67::u68::u69::u70::u71::u72::u73::u74::u75::[]),[]⟩ w1:=by
 obtain ⟨i0,hi,hz0,hz1,hz2⟩:=info_parts infoPart
 have KS:=Lib.hid (fun W' (hs : SP w0 W' ([.blk PB 3 #[.int .i64 (f.b : Int)],.blk PE 3 #[.int .i64 (f.e : Int)],.blk HB 34 (f.h.cells (.slice oA on oc)),.blk GB 82 #[.pointer (some ⟨N,0,none⟩)]]++((GMq N q hA hn hc pA pn pc ps).its++(.own .u8 5 oA on oc f.o::R))))=>(show W'.cell? ⟨GB,0,none⟩=some (.pointer (some ⟨N,0,none⟩))∧W'.cell? ⟨PB,0,none⟩=some (.int .i64 (f.b : Int)) from ⟨hs.cell 3 rfl 0 rfl,hs.cell 0 rfl 0 rfl⟩))
 conv=>arg 2;whnf
 have ZD:=Lib.hid Z.out.drew
 refine wp_region_noPanic ?_
 refine wp_region_held_drew (S:=fun W'=>W'.cell? ⟨GB,0,none⟩=some (.pointer (some ⟨N,0,none⟩))∧W'.cell? ⟨PB,0,none⟩=some (.int .i64 (f.b : Int))) (by kernel_rfl) (by exact KS.out _ ZD.out) (fun hHeld=>?_)
 generalize w1.drew=v0 at ZD hHeld ⊢
 refine' tk (i:=0) rfl ?U1 ?V1
 case U1=>intro w' hSw;obtain ⟨hs1,hs2⟩:=hSw;go_simp;try (with_reducible rfl)
 try simp only [Act.put,jA,jB,jC]
 refine' tk (i:=1) rfl ?U2 ?V2
 case U2=>intro w' hSw;obtain ⟨hs1,hs2⟩:=hSw;go_simp;try (with_reducible rfl)
 try simp only [Act.put,jA,jB,jC]
 refine' tk (i:=2) rfl ?U3 ?V3
 case U3=>intro w' hSw;obtain ⟨hs1,hs2⟩:=hSw;go_simp;try (with_reducible rfl)
 try simp only [Act.put,jA,jB,jC]
 refine' tk (i:=3) rfl ?U4 ?V4
 case U4=>intro w' hSw;obtain ⟨hs1,hs2⟩:=hSw;go_simp;try (with_reducible rfl)
 try simp only [Act.put,jA,jB,jC]
 refine' tk (i:=5) rfl ?U5 ?V5
 case U5=>intro w' hSw;obtain ⟨hs1,hs2⟩:=hSw;go_simp;try (with_reducible rfl)
 try simp only [Act.put,jA,jB,jC]
 refine' tk (i:=6) rfl ?U6 ?V6
 case U6=>intro w' hSw;obtain ⟨hs1,hs2⟩:=hSw;go_simp;try (with_reducible rfl)
 try simp only [Act.put,jA,jB,jC]
 refine rdy [4,7] ?_
 refine cons_lit rfl (fun K hK=>?ss4x7) (cons_lit rfl (fun K hK=>?ss7x7) AllReadyH.nil)
 case ss4x7 =>
  have x0 : v0.cell? ⟨N,17,none⟩=some (.slice pA pn pc):=ZD.out.cell 4 rfl 17 rfl
  go_simp
  clear x0
  refine hK.out _ _ (by exact ⟨ZD.out.cell 3 rfl 0 rfl,ZD.out.cell 0 rfl 0 rfl⟩) (fun hHeld=>?_)
  clear hK K
  try simp only [Act.put,jA,jB,jC]
  refine rdy [7] ?_
  refine cons_lit rfl (fun K hK=>?ss7x8) AllReadyH.nil
  case ss7x8 =>
   go_simp
   refine (clone_any dA dn dc f.d _ (RDD.out _ ZD.out.right.right.tail) hdn).mono ?_
   rintro e v1 ⟨A3,n3,c3,rfl,ho,hb⟩
   have Y1:=Lib.hid (show SP w0 v1 (.own .u8 5 A3 n3 c3 f.d::([.blk PB 3 #[.int .i64 (f.b : Int)],.blk PE 3 #[.int .i64 (f.e : Int)],.blk HB 34 (f.h.cells (.slice oA on oc)),.blk GB 82 #[.pointer (some ⟨N,0,none⟩)]]++((GMq N q hA hn hc pA pn pc ps).its++(.own .u8 5 oA on oc f.o::R)))) from (ZD.out.pushOwn hb ho).rot)
   clear ho hb
   try simp only [Oper.upon_returned]
   refine hK.out _ _ (by exact ⟨Y1.out.cell 4 rfl 0 rfl,Y1.out.cell 1 rfl 0 rfl⟩) (fun hHeld=>?_)
   clear hK K
   try simp only [Act.put,jA,jB,jC]
   refine' tk (i:=8) rfl ?U9 ?V9
   case U9=>intro w' hSw;obtain ⟨hs1,hs2⟩:=hSw;go_simp;try (with_reducible rfl)
   try simp only [Act.put,jA,jB,jC]
   refine rdy [9] ?_
   refine cons_lit rfl (fun K hK=>?ss9x10) AllReadyH.nil
   case ss9x10 =>
    go_simp
    refine nameK (fun v2 hv2=>?_)
    have Y2:=Lib.hid (show SP w0 v2 (.own .u8 5 A3 n3 c3 f.d::([.blk PB 3 #[.int .i64 (f.b : Int)],.blk PE 3 #[.int .i64 (f.e : Int)],.blk HB 34 (f.h.cells (.slice oA on oc)),.blk GB 82 #[.pointer (some ⟨N,0,none⟩)]]++((GMq N q hA hn hc pA pn pc ps).its++(.own .u8 5 oA on oc f.o::R)))) by rw [hv2];exact Y1.out.next ((Below.refl _ v1).alloc (Nat.le_refl _) _))
    have HN2:=Lib.hid (show ∀ j x,[Value.int .i64 (f.b : Int),.slice A3 n3 c3][j]?=some x->v2.cell? ((⟨v1.heap.size,0,none⟩ : Addr).add j)=some x by rw [hv2];exact fun j x hx=>two_new v1 92 _ _ j x hx)
    clear hv2
    refine hK.out _ _ (by exact ⟨Y2.out.cell 4 rfl 0 rfl,Y2.out.cell 1 rfl 0 rfl⟩) (fun hHeld=>?_)
    clear hK K
    try simp only [Act.put,jA,jB,jC]
    refine rdy [10] ?_
    refine cons_lit rfl (fun K hK=>?ss10x11) AllReadyH.nil
    case ss10x11 =>
     refine step_append_row _ (by rfl) _ _ 86 (by rfl) w0.heap.size 92 i0 _ 2 32 Tryz.underlying86 hi hz0 hz1 hz2 (by rfl) (by decide) pA pn pc (ps.flatMap PM.cells) (by rfl) (Y2.out.row 6 rfl) ⟨v1.heap.size,0,none⟩ 1 1 [.int .i64 (f.b : Int),.slice A3 n3 c3] (by rfl) rfl HN2.out (by intro z hz;simp at hz;rcases hz with rfl | rfl <;> rfl) (by simp only [maxLen];omega) (by omega) Y2.out.size ?_
     intro A5 c5 v3 hrow hgrow hat
     have Y3:=Lib.hid (show SP w0 v3 (.own .u8 5 A3 n3 c3 f.d::[.blk PB 3 #[.int .i64 (f.b : Int)],.blk PE 3 #[.int .i64 (f.e : Int)],.blk HB 34 (f.h.cells (.slice oA on oc)),.blk GB 82 #[.pointer (some ⟨N,0,none⟩)]]++(.blk N 88 ((GMq N q hA hn hc pA pn pc ps)).cells::.row 92 2 A5 (pn + 1) c5 (ps.flatMap PM.cells++[.int .i64 (f.b : Int),.slice A3 n3 c3])::.own .u8 5 hA hn hc q.o::(ps.map PM.it++(.own .u8 5 oA on oc f.o::R)))) from Y2.out.appRow 6 rfl hrow hgrow hat)
     clear hrow hgrow hat HN2
     refine hK.out _ _ (by exact ⟨Y3.out.cell 4 rfl 0 rfl,Y3.out.cell 1 rfl 0 rfl⟩) (fun hHeld=>?_)
     clear hK K
     try simp only [Act.put,jA,jB,jC]
     refine' tk (i:=11) rfl ?U12 ?V12
     case U12=>intro w' hSw;obtain ⟨hs1,hs2⟩:=hSw;go_simp;try (with_reducible rfl)
     try simp only [Act.put,jA,jB,jC]
     refine' tk (i:=12) rfl ?U13 ?V13
     case U13=>intro w' hSw;obtain ⟨hs1,hs2⟩:=hSw;go_simp;try (with_reducible rfl)
     try simp only [Act.put,jA,jB,jC]
     refine rdy [13] ?_
     refine cons_lit rfl (fun K hK=>?ss13x14) AllReadyH.nil
     case ss13x14 =>
      have x0 : v3.cell? ⟨N,17,none⟩=some (.slice pA pn pc):=Y3.out.cell 5 rfl 17 rfl
      have d0:=Y3.out.free 5 rfl 17
      go_simp
      clear x0 d0
      have Y4:=Lib.hid (Y3.out.setB 5 rfl 17 (.slice A5 (pn + 1) c5))
      refine hK.out _ _ (by exact ⟨Y4.out.cell 4 rfl 0 rfl,Y4.out.cell 1 rfl 0 rfl⟩) (fun hHeld=>?_)
      clear hK K
      try simp only [Act.put,jA,jB,jC]
      refine wpAnyH_done (by kernel_rfl) ?_ _
      refine NoPanic.normal ?_
      refine HQ.out _ _ _ _ _ _ _ _ _ _ _ _ _ _ ⟨A5,pn + 1,c5,ps++[⟨f.b,A3,n3,c3,f.d⟩],by rw [List.map_append];rfl,?_⟩
      have e1 : (GMq N q hA hn hc A5 (pn + 1) c5 (ps++[⟨f.b,A3,n3,c3,f.d⟩])).its++(.own .u8 5 oA on oc f.o::R) = .blk N 88 ((GMq N q hA hn hc A5 (pn + 1) c5 (ps++[⟨f.b,A3,n3,c3,f.d⟩]))).cells::.row 92 2 A5 (pn + 1) c5 (ps.flatMap PM.cells++[.int .i64 (f.b : Int),.slice A3 n3 c3])::.own .u8 5 hA hn hc q.o::(ps.map PM.it++(.own .u8 5 A3 n3 c3 f.d::(.own .u8 5 oA on oc f.o::R))):=by
       unfold GM.its GMq
       simp [List.flatMap_append,PM.cells,PM.it]
      rw [e1]
      exact SP.backOf (A:=[.blk PB 3 #[.int .i64 (f.b : Int)],.blk PE 3 #[.int .i64 (f.e : Int)],.blk HB 34 (f.h.cells (.slice oA on oc)),.blk GB 82 #[.pointer (some ⟨N,0,none⟩)],.blk N 88 ((GMq N q hA hn hc A5 (pn + 1) c5 (ps++[⟨f.b,A3,n3,c3,f.d⟩]))).cells,.row 92 2 A5 (pn + 1) c5 (ps.flatMap PM.cells++[.int .i64 (f.b : Int),.slice A3 n3 c3]),.own .u8 5 hA hn hc q.o]++ps.map PM.it) (C:=(.own .u8 5 oA on oc f.o::R)) Y4.out
 case ss7x7 =>
  go_simp
  refine (clone_any dA dn dc f.d _ (RDD.out _ ZD.out.right.right.tail) hdn).mono ?_
  rintro e v1 ⟨A3,n3,c3,rfl,ho,hb⟩
  have Y1:=Lib.hid (show SP w0 v1 (.own .u8 5 A3 n3 c3 f.d::([.blk PB 3 #[.int .i64 (f.b : Int)],.blk PE 3 #[.int .i64 (f.e : Int)],.blk HB 34 (f.h.cells (.slice oA on oc)),.blk GB 82 #[.pointer (some ⟨N,0,none⟩)]]++((GMq N q hA hn hc pA pn pc ps).its++(.own .u8 5 oA on oc f.o::R)))) from (ZD.out.pushOwn hb ho).rot)
  clear ho hb
  try simp only [Oper.upon_returned]
  refine hK.out _ _ (by exact ⟨Y1.out.cell 4 rfl 0 rfl,Y1.out.cell 1 rfl 0 rfl⟩) (fun hHeld=>?_)
  clear hK K
  try simp only [Act.put,jA,jB,jC]
  refine' tk (i:=8) rfl ?U15 ?V15
  case U15=>intro w' hSw;obtain ⟨hs1,hs2⟩:=hSw;go_simp;try (with_reducible rfl)
  try simp only [Act.put,jA,jB,jC]
  refine rdy [4,9] ?_
  refine cons_lit rfl (fun K hK=>?ss4x16) (cons_lit rfl (fun K hK=>?ss9x16) AllReadyH.nil)
  case ss4x16 =>
   have x0 : v1.cell? ⟨N,17,none⟩=some (.slice pA pn pc):=Y1.out.cell 5 rfl 17 rfl
   go_simp
   clear x0
   refine hK.out _ _ (by exact ⟨Y1.out.cell 4 rfl 0 rfl,Y1.out.cell 1 rfl 0 rfl⟩) (fun hHeld=>?_)
   clear hK K
   try simp only [Act.put,jA,jB,jC]
   refine rdy [9] ?_
   refine cons_lit rfl (fun K hK=>?ss9x17) AllReadyH.nil
   case ss9x17 =>
    go_simp
    refine nameK (fun v2 hv2=>?_)
    have Y2:=Lib.hid (show SP w0 v2 (.own .u8 5 A3 n3 c3 f.d::([.blk PB 3 #[.int .i64 (f.b : Int)],.blk PE 3 #[.int .i64 (f.e : Int)],.blk HB 34 (f.h.cells (.slice oA on oc)),.blk GB 82 #[.pointer (some ⟨N,0,none⟩)]]++((GMq N q hA hn hc pA pn pc ps).its++(.own .u8 5 oA on oc f.o::R)))) by rw [hv2];exact Y1.out.next ((Below.refl _ v1).alloc (Nat.le_refl _) _))
    have HN2:=Lib.hid (show ∀ j x,[Value.int .i64 (f.b : Int),.slice A3 n3 c3][j]?=some x->v2.cell? ((⟨v1.heap.size,0,none⟩ : Addr).add j)=some x by rw [hv2];exact fun j x hx=>two_new v1 92 _ _ j x hx)
    clear hv2
    refine hK.out _ _ (by exact ⟨Y2.out.cell 4 rfl 0 rfl,Y2.out.cell 1 rfl 0 rfl⟩) (fun hHeld=>?_)
    clear hK K
    try simp only [Act.put,jA,jB,jC]
    refine rdy [10] ?_
    refine cons_lit rfl (fun K hK=>?ss10x18) AllReadyH.nil
    case ss10x18 =>
     refine step_append_row _ (by rfl) _ _ 86 (by rfl) w0.heap.size 92 i0 _ 2 32 Tryz.underlying86 hi hz0 hz1 hz2 (by rfl) (by decide) pA pn pc (ps.flatMap PM.cells) (by rfl) (Y2.out.row 6 rfl) ⟨v1.heap.size,0,none⟩ 1 1 [.int .i64 (f.b : Int),.slice A3 n3 c3] (by rfl) rfl HN2.out (by intro z hz;simp at hz;rcases hz with rfl | rfl <;> rfl) (by simp only [maxLen];omega) (by omega) Y2.out.size ?_
     intro A5 c5 v3 hrow hgrow hat
     have Y3:=Lib.hid (show SP w0 v3 (.own .u8 5 A3 n3 c3 f.d::[.blk PB 3 #[.int .i64 (f.b : Int)],.blk PE 3 #[.int .i64 (f.e : Int)],.blk HB 34 (f.h.cells (.slice oA on oc)),.blk GB 82 #[.pointer (some ⟨N,0,none⟩)]]++(.blk N 88 ((GMq N q hA hn hc pA pn pc ps)).cells::.row 92 2 A5 (pn + 1) c5 (ps.flatMap PM.cells++[.int .i64 (f.b : Int),.slice A3 n3 c3])::.own .u8 5 hA hn hc q.o::(ps.map PM.it++(.own .u8 5 oA on oc f.o::R)))) from Y2.out.appRow 6 rfl hrow hgrow hat)
     clear hrow hgrow hat HN2
     refine hK.out _ _ (by exact ⟨Y3.out.cell 4 rfl 0 rfl,Y3.out.cell 1 rfl 0 rfl⟩) (fun hHeld=>?_)
     clear hK K
     try simp only [Act.put,jA,jB,jC]
     refine' tk (i:=11) rfl ?U19 ?V19
     case U19=>intro w' hSw;obtain ⟨hs1,hs2⟩:=hSw;go_simp;try (with_reducible rfl)
     try simp only [Act.put,jA,jB,jC]
     refine' tk (i:=12) rfl ?U20 ?V20
     case U20=>intro w' hSw;obtain ⟨hs1,hs2⟩:=hSw;go_simp;try (with_reducible rfl)
     try simp only [Act.put,jA,jB,jC]
     refine rdy [13] ?_
     refine cons_lit rfl (fun K hK=>?ss13x21) AllReadyH.nil
     case ss13x21 =>
      have x0 : v3.cell? ⟨N,17,none⟩=some (.slice pA pn pc):=Y3.out.cell 5 rfl 17 rfl
      have d0:=Y3.out.free 5 rfl 17
      go_simp
      clear x0 d0
      have Y4:=Lib.hid (Y3.out.setB 5 rfl 17 (.slice A5 (pn + 1) c5))
      refine hK.out _ _ (by exact ⟨Y4.out.cell 4 rfl 0 rfl,Y4.out.cell 1 rfl 0 rfl⟩) (fun hHeld=>?_)
      clear hK K
      try simp only [Act.put,jA,jB,jC]
      refine wpAnyH_done (by kernel_rfl) ?_ _
      refine NoPanic.normal ?_
      refine HQ.out _ _ _ _ _ _ _ _ _ _ _ _ _ _ ⟨A5,pn + 1,c5,ps++[⟨f.b,A3,n3,c3,f.d⟩],by rw [List.map_append];rfl,?_⟩
      have e1 : (GMq N q hA hn hc A5 (pn + 1) c5 (ps++[⟨f.b,A3,n3,c3,f.d⟩])).its++(.own .u8 5 oA on oc f.o::R) = .blk N 88 ((GMq N q hA hn hc A5 (pn + 1) c5 (ps++[⟨f.b,A3,n3,c3,f.d⟩]))).cells::.row 92 2 A5 (pn + 1) c5 (ps.flatMap PM.cells++[.int .i64 (f.b : Int),.slice A3 n3 c3])::.own .u8 5 hA hn hc q.o::(ps.map PM.it++(.own .u8 5 A3 n3 c3 f.d::(.own .u8 5 oA on oc f.o::R))):=by
       unfold GM.its GMq
       simp [List.flatMap_append,PM.cells,PM.it]
      rw [e1]
      exact SP.backOf (A:=[.blk PB 3 #[.int .i64 (f.b : Int)],.blk PE 3 #[.int .i64 (f.e : Int)],.blk HB 34 (f.h.cells (.slice oA on oc)),.blk GB 82 #[.pointer (some ⟨N,0,none⟩)],.blk N 88 ((GMq N q hA hn hc A5 (pn + 1) c5 (ps++[⟨f.b,A3,n3,c3,f.d⟩]))).cells,.row 92 2 A5 (pn + 1) c5 (ps.flatMap PM.cells++[.int .i64 (f.b : Int),.slice A3 n3 c3]),.own .u8 5 hA hn hc q.o]++ps.map PM.it) (C:=(.own .u8 5 oA on oc f.o::R)) Y4.out
  case ss9x16 =>
   go_simp
   refine nameK (fun v2 hv2=>?_)
   have Y2:=Lib.hid (show SP w0 v2 (.own .u8 5 A3 n3 c3 f.d::([.blk PB 3 #[.int .i64 (f.b : Int)],.blk PE 3 #[.int .i64 (f.e : Int)],.blk HB 34 (f.h.cells (.slice oA on oc)),.blk GB 82 #[.pointer (some ⟨N,0,none⟩)]]++((GMq N q hA hn hc pA pn pc ps).its++(.own .u8 5 oA on oc f.o::R)))) by rw [hv2];exact Y1.out.next ((Below.refl _ v1).alloc (Nat.le_refl _) _))
   have HN2:=Lib.hid (show ∀ j x,[Value.int .i64 (f.b : Int),.slice A3 n3 c3][j]?=some x->v2.cell? ((⟨v1.heap.size,0,none⟩ : Addr).add j)=some x by rw [hv2];exact fun j x hx=>two_new v1 92 _ _ j x hx)
   clear hv2
   refine hK.out _ _ (by exact ⟨Y2.out.cell 4 rfl 0 rfl,Y2.out.cell 1 rfl 0 rfl⟩) (fun hHeld=>?_)
   clear hK K
   try simp only [Act.put,jA,jB,jC]
   refine rdy [4] ?_
   refine cons_lit rfl (fun K hK=>?ss4x22) AllReadyH.nil
   case ss4x22 =>
    have x0 : v2.cell? ⟨N,17,none⟩=some (.slice pA pn pc):=Y2.out.cell 5 rfl 17 rfl
    go_simp
    clear x0
    refine hK.out _ _ (by exact ⟨Y2.out.cell 4 rfl 0 rfl,Y2.out.cell 1 rfl 0 rfl⟩) (fun hHeld=>?_)
    clear hK K
    try simp only [Act.put,jA,jB,jC]
    refine rdy [10] ?_
    refine cons_lit rfl (fun K hK=>?ss10x23) AllReadyH.nil
    case ss10x23 =>
     refine step_append_row _ (by rfl) _ _ 86 (by rfl) w0.heap.size 92 i0 _ 2 32 Tryz.underlying86 hi hz0 hz1 hz2 (by rfl) (by decide) pA pn pc (ps.flatMap PM.cells) (by rfl) (Y2.out.row 6 rfl) ⟨v1.heap.size,0,none⟩ 1 1 [.int .i64 (f.b : Int),.slice A3 n3 c3] (by rfl) rfl HN2.out (by intro z hz;simp at hz;rcases hz with rfl | rfl <;> rfl) (by simp only [maxLen];omega) (by omega) Y2.out.size ?_
     intro A5 c5 v3 hrow hgrow hat
     have Y3:=Lib.hid (show SP w0 v3 (.own .u8 5 A3 n3 c3 f.d::[.blk PB 3 #[.int .i64 (f.b : Int)],.blk PE 3 #[.int .i64 (f.e : Int)],.blk HB 34 (f.h.cells (.slice oA on oc)),.blk GB 82 #[.pointer (some ⟨N,0,none⟩)]]++(.blk N 88 ((GMq N q hA hn hc pA pn pc ps)).cells::.row 92 2 A5 (pn + 1) c5 (ps.flatMap PM.cells++[.int .i64 (f.b : Int),.slice A3 n3 c3])::.own .u8 5 hA hn hc q.o::(ps.map PM.it++(.own .u8 5 oA on oc f.o::R)))) from Y2.out.appRow 6 rfl hrow hgrow hat)
     clear hrow hgrow hat HN2
     refine hK.out _ _ (by exact ⟨Y3.out.cell 4 rfl 0 rfl,Y3.out.cell 1 rfl 0 rfl⟩) (fun hHeld=>?_)
     clear hK K
     try simp only [Act.put,jA,jB,jC]
     refine' tk (i:=11) rfl ?U24 ?V24
     case U24=>intro w' hSw;obtain ⟨hs1,hs2⟩:=hSw;go_simp;try (with_reducible rfl)
     try simp only [Act.put,jA,jB,jC]
     refine' tk (i:=12) rfl ?U25 ?V25
     case U25=>intro w' hSw;obtain ⟨hs1,hs2⟩:=hSw;go_simp;try (with_reducible rfl)
     try simp only [Act.put,jA,jB,jC]
     refine rdy [13] ?_
     refine cons_lit rfl (fun K hK=>?ss13x26) AllReadyH.nil
     case ss13x26 =>
      have x0 : v3.cell? ⟨N,17,none⟩=some (.slice pA pn pc):=Y3.out.cell 5 rfl 17 rfl
      have d0:=Y3.out.free 5 rfl 17
      go_simp
      clear x0 d0
      have Y4:=Lib.hid (Y3.out.setB 5 rfl 17 (.slice A5 (pn + 1) c5))
      refine hK.out _ _ (by exact ⟨Y4.out.cell 4 rfl 0 rfl,Y4.out.cell 1 rfl 0 rfl⟩) (fun hHeld=>?_)
      clear hK K
      try simp only [Act.put,jA,jB,jC]
      refine wpAnyH_done (by kernel_rfl) ?_ _
      refine NoPanic.normal ?_
      refine HQ.out _ _ _ _ _ _ _ _ _ _ _ _ _ _ ⟨A5,pn + 1,c5,ps++[⟨f.b,A3,n3,c3,f.d⟩],by rw [List.map_append];rfl,?_⟩
      have e1 : (GMq N q hA hn hc A5 (pn + 1) c5 (ps++[⟨f.b,A3,n3,c3,f.d⟩])).its++(.own .u8 5 oA on oc f.o::R) = .blk N 88 ((GMq N q hA hn hc A5 (pn + 1) c5 (ps++[⟨f.b,A3,n3,c3,f.d⟩]))).cells::.row 92 2 A5 (pn + 1) c5 (ps.flatMap PM.cells++[.int .i64 (f.b : Int),.slice A3 n3 c3])::.own .u8 5 hA hn hc q.o::(ps.map PM.it++(.own .u8 5 A3 n3 c3 f.d::(.own .u8 5 oA on oc f.o::R))):=by
       unfold GM.its GMq
       simp [List.flatMap_append,PM.cells,PM.it]
      rw [e1]
      exact SP.backOf (A:=[.blk PB 3 #[.int .i64 (f.b : Int)],.blk PE 3 #[.int .i64 (f.e : Int)],.blk HB 34 (f.h.cells (.slice oA on oc)),.blk GB 82 #[.pointer (some ⟨N,0,none⟩)],.blk N 88 ((GMq N q hA hn hc A5 (pn + 1) c5 (ps++[⟨f.b,A3,n3,c3,f.d⟩]))).cells,.row 92 2 A5 (pn + 1) c5 (ps.flatMap PM.cells++[.int .i64 (f.b : Int),.slice A3 n3 c3]),.own .u8 5 hA hn hc q.o]++ps.map PM.it) (C:=(.own .u8 5 oA on oc f.o::R)) Y4.out
set_option maxHeartbeats 2000000 in
set_option maxRecDepth 100000 in
theorem add15 {u0 u1 u2 u4 u5 u6 u7 u8 u9 u10 u11 u12 u13 u14 u15 u16 u17 u18 u19 u20 u21 u22 u23 u24 u25 u26 u27 u28 u29 u30 u31 u32 u33 u34 u35 u36 u37 u38 u39 u40 u41 u42 u43 u44 u45 u46 u47 u48 u49 u50 u51 u52 u53 u54 u55 u56 u57 u58 u59 u60 u61 u62 u63 u64 u65 u66 u67 u68 u69 u70 u71 u72 u73 u74 u75 : Value} {Q : Exit->Act->World->Prop} (w0 : World) (N GB : Nat) (q : AG) (hA : Option Addr) (hn hc : Nat) (pA : Option Addr) (pn pc : Nat) (ps : List PM) (X : List IT) (hk : GOK ((GMq N q hA hn hc pA pn pc ps)).a) (hhn : hn<=40) (w1 : World) (Z : Hid (SP w0 w1 (.blk GB 82 #[.pointer (some ⟨N,0,none⟩)]::((GMq N q hA hn hc pA pn pc ps).its++X))))
 (HQ : Hid (∀ (y62 y63 y64 y65 y66 y67 y68 y69 y70 y71 y72 y73 y74 y75 : Value) (w' : World),SP w0 w' ((GMq N q hA hn hc pA pn pc ps).its++X)->Q .normal ⟨List.toArray (u0::u1::u2::.pointer (some ⟨GB,0,none⟩)::u4::u5::.bool (!doneG ((GMq N q hA hn hc pA pn pc ps)).a || rightB q.h.off q.h.mf hn q.total)::u7::u8::u9::u10::u11::u12::u13::u14::u15::u16::u17::u18::u19::u20::u21::u22::u23::u24::u25::u26::u27::u28::u29::u30::u31::u32::u33::u34::u35::u36::u37::u38::u39::u40::u41::u42::u43::u44::u45::u46::u47::u48::u49::u50::u51::u52::u53::u54::u55::u56::u57::u58::u59::u60::u61::y62::y63::y64::y65::y66::y67::y68::y69::y70::y71::y72::y73::y74::y75::[]),[]⟩ w')) :
 Code.wp Tryz.prog (regAt Tryz.f38 15) Q ⟨List.toArray (u0::u1::u2::.pointer (some ⟨GB,0,none⟩)::u4::u5::u6::u7::u8::u9::u10::u11::u12::u13::u14::u15::u16::u17::u18::u19::u20::u21::u22::u23::u24::u25::u26::u27::u28::u29::u30::u31::u32::u33::u34::u35::u36::u37::u38::u39::u40::u41::u42::u43::u44::u45::u46::u47::u48::u49::u50::u51::u52::u53::u54::u55::u56::u57::u58::u59::u60::u61::u62::u63::u64::u65::u66::u67::u68::u69::u70::u71::u72::u73::u74::u75::[]),[]⟩ w1:=by
 have KS:=Lib.hid (fun W' (hs : SP w0 W' (.blk GB 82 #[.pointer (some ⟨N,0,none⟩)]::((GMq N q hA hn hc pA pn pc ps).its++X)))=>(show W'.cell? ⟨GB,0,none⟩=some (.pointer (some ⟨N,0,none⟩))∧BLOCK W' N 88 ((GMq N q hA hn hc pA pn pc ps)).cells∧W'.cell? ⟨N,5,none⟩=some (.int .i64 q.total) from ⟨hs.cell 0 rfl 0 rfl,hs.blk 1 rfl,hs.cell 1 rfl 5 rfl⟩))
 have HK:=Lib.hid hk
 have hoff:=hk.hd.off
 have htot:=hk.tot
 obtain ⟨dn,hdn⟩ : ∃ dn,doneG ((GMq N q hA hn hc pA pn pc ps)).a=dn:=⟨_,rfl⟩
 have HDN:=Lib.hid hdn
 rw [hdn] at HQ
 clear hk hdn
 have HOT:=Lib.hid (show ((-9223372036854775808 : Int)<=q.h.off∧q.h.off<=9223372036854775807)∧((-9223372036854775808 : Int)<=q.total∧q.total<=9223372036854775807) from ⟨hoff,by have h1 : (-1 : Int)<=q.total:=htot.1;have h2 : q.total<=(65515 : Int):=htot.2;omega⟩)
 clear hoff htot
 conv=>arg 2;whnf
 have ZD:=Lib.hid Z.out.drew
 refine wp_region_noPanic ?_
 refine wp_region_held_drew (S:=fun W'=>W'.cell? ⟨GB,0,none⟩=some (.pointer (some ⟨N,0,none⟩))∧BLOCK W' N 88 ((GMq N q hA hn hc pA pn pc ps)).cells∧W'.cell? ⟨N,5,none⟩=some (.int .i64 q.total)) (by kernel_rfl) (by exact KS.out _ ZD.out) (fun hHeld=>?_)
 generalize w1.drew=v0 at ZD hHeld ⊢
 refine' tk (i:=0) rfl ?U27 ?V27
 case U27=>intro w' hSw;obtain ⟨hs1,hs2,hs3⟩:=hSw;go_simp;try (with_reducible rfl)
 try simp only [Act.put,jA,jB,jC]
 refine rdy [1] ?_
 refine cons_lit rfl (fun K hK=>?ss1x28) AllReadyH.nil
 case ss1x28 =>
  go_simp
  refine (complete_any (g:=(GMq N q hA hn hc pA pn pc ps)) (R:=.blk GB 82 #[.pointer (some ⟨N,0,none⟩)]::X) ZD.out.backOf HK.out).mono ?_
  rw [HDN.out]
  rintro e v1 ⟨rfl,hS⟩
  have YA:=Lib.hid (show SP w0 v1 (.blk GB 82 #[.pointer (some ⟨N,0,none⟩)]::((GMq N q hA hn hc pA pn pc ps).its++X)) from SP.frontOf hS)
  clear hS
  try simp only [Oper.upon_returned]
  refine hK.out _ _ (by exact KS.out _ YA.out) (fun hHeld=>?_)
  clear hK K
  try simp only [Act.put,jA,jB,jC]
  refine' tk (i:=2) rfl ?U29 ?V29
  case U29=>intro w' hSw;obtain ⟨hs1,hs2,hs3⟩:=hSw;go_simp;try (with_reducible rfl)
  try simp only [Act.put,jA,jB,jC]
  refine' tk (i:=3) rfl ?U30 ?V30
  case U30=>intro w' hSw;obtain ⟨hs1,hs2,hs3⟩:=hSw;go_simp;try (with_reducible rfl)
  try simp only [Act.put,jA,jB,jC]
  cases dn
  case false =>
   refine take_lit (i:=4) (v:=undef) rfl (by kernel_rfl) (by kernel_rfl) (by kernel_rfl) (fun _ _ _ h=>h) (Or.inr ⟨by rfl,rfl⟩) (by assumption) ?_
   try simp only [Act.put,jA,jB,jC]
   refine take_lit (i:=5) (v:=undef) rfl (by kernel_rfl) (by kernel_rfl) (by kernel_rfl) (fun _ _ _ h=>h) (Or.inr ⟨by rfl,rfl⟩) (by assumption) ?_
   try simp only [Act.put,jA,jB,jC]
   refine take_lit (i:=6) (v:=undef) rfl (by kernel_rfl) (by kernel_rfl) (by kernel_rfl) (fun _ _ _ h=>h) (Or.inr ⟨by rfl,rfl⟩) (by assumption) ?_
   try simp only [Act.put,jA,jB,jC]
   refine take_lit (i:=7) (v:=undef) rfl (by kernel_rfl) (by kernel_rfl) (by kernel_rfl) (fun _ _ _ h=>h) (Or.inr ⟨by rfl,rfl⟩) (by assumption) ?_
   try simp only [Act.put,jA,jB,jC]
   refine take_lit (i:=8) (v:=undef) rfl (by kernel_rfl) (by kernel_rfl) (by kernel_rfl) (fun _ _ _ h=>h) (Or.inr ⟨by rfl,rfl⟩) (by assumption) ?_
   try simp only [Act.put,jA,jB,jC]
   refine take_lit (i:=9) (v:=undef) rfl (by kernel_rfl) (by kernel_rfl) (by kernel_rfl) (fun _ _ _ h=>h) (Or.inr ⟨by rfl,rfl⟩) (by assumption) ?_
   try simp only [Act.put,jA,jB,jC]
   refine take_lit (i:=10) (v:=undef) rfl (by kernel_rfl) (by kernel_rfl) (by kernel_rfl) (fun _ _ _ h=>h) (Or.inr ⟨by rfl,rfl⟩) (by assumption) ?_
   try simp only [Act.put,jA,jB,jC]
   refine take_lit (i:=11) (v:=undef) rfl (by kernel_rfl) (by kernel_rfl) (by kernel_rfl) (fun _ _ _ h=>h) (Or.inr ⟨by rfl,rfl⟩) (by assumption) ?_
   try simp only [Act.put,jA,jB,jC]
   refine take_lit (i:=12) (v:=undef) rfl (by kernel_rfl) (by kernel_rfl) (by kernel_rfl) (fun _ _ _ h=>h) (Or.inr ⟨by rfl,rfl⟩) (by assumption) ?_
   try simp only [Act.put,jA,jB,jC]
   refine' tk (i:=13) rfl ?U31 ?V31
   case U31=>intro w' hSw;obtain ⟨hs1,hs2,hs3⟩:=hSw;go_simp;try (with_reducible rfl)
   try simp only [Act.put,jA,jB,jC]
   refine' tk (i:=14) rfl ?U32 ?V32
   case U32=>intro w' hSw;obtain ⟨hs1,hs2,hs3⟩:=hSw;go_simp;try (with_reducible rfl)
   try simp only [Act.put,jA,jB,jC]
   refine wpAnyH_done (by kernel_rfl) ?_ _
   refine NoPanic.normal ?_
   exact HQ.out _ _ _ _ _ _ _ _ _ _ _ _ _ _ _ YA.out.tail
  case true =>
   refine' tk (i:=4) rfl ?U33 ?V33
   case U33=>intro w' hSw;obtain ⟨hs1,hs2,hs3⟩:=hSw;go_simp;try (with_reducible rfl)
   try simp only [Act.put,jA,jB,jC]
   refine' tk (i:=5) rfl ?U34 ?V34
   case U34=>intro w' hSw;obtain ⟨hs1,hs2,hs3⟩:=hSw;go_simp;try (with_reducible rfl)
   try simp only [Act.put,jA,jB,jC]
   refine' tk (i:=6) rfl ?U35 ?V35
   case U35=>intro w' hSw;obtain ⟨hs1,hs2,hs3⟩:=hSw;go_simp;try (with_reducible rfl)
   try simp only [Act.put,jA,jB,jC]
   refine' take_lit (i:=7) (v:=.agg (q.h.cells (.slice hA hn hc))) rfl (by kernel_rfl) (by kernel_rfl) (by kernel_rfl) (fun _ _ _ h=>h) (Or.inl ⟨by rfl,?yy36⟩) (by assumption) ?rr36
   case yy36=>intro w' hSw;exact exec_load_mid 34 _ rfl N 7 rfl (q.h.cells (.slice hA hn hc)).toList _ (by have h:=hSw.2.1.range 7 10;exact h) Tryz.underlying34 rfl (by kernel_rfl)
   try simp only [Act.put,jA,jB,jC]
   refine' tk (i:=8) rfl ?U37 ?V37
   case U37=>intro w' hSw;obtain ⟨hs1,hs2,hs3⟩:=hSw;go_simp;try (with_reducible rfl)
   try simp only [Act.put,jA,jB,jC]
   refine' tk (i:=9) rfl ?U38 ?V38
   case U38=>intro w' hSw;obtain ⟨hs1,hs2,hs3⟩:=hSw;go_simp;try (with_reducible rfl)
   try simp only [Act.put,jA,jB,jC]
   refine' tk (i:=10) rfl ?U39 ?V39
   case U39=>intro w' hSw;obtain ⟨hs1,hs2,hs3⟩:=hSw;go_simp;try (with_reducible rfl)
   try simp only [Act.put,jA,jB,jC]
   refine' tk (i:=11) rfl ?U40 ?V40
   case U40=>intro w' hSw;obtain ⟨hs1,hs2,hs3⟩:=hSw;go_simp;try (with_reducible rfl)
   try simp only [Act.put,jA,jB,jC]
   refine rdy [12] ?_
   refine cons_lit rfl (fun K hK=>?ss12x41) AllReadyH.nil
   case ss12x41 =>
    go_simp
    refine (ipRight_any q.h hA hn hc q.total _ HOT.out.1 HOT.out.2 (by omega)).mono ?_
    rintro e v2 ⟨rfl,hb⟩
    have YB:=Lib.hid (YA.out.next hb)
    clear hb
    try simp only [Oper.upon_returned]
    refine hK.out _ _ (by exact KS.out _ YB.out) (fun hHeld=>?_)
    clear hK K
    try simp only [Act.put,jA,jB,jC]
    refine' tk (i:=13) rfl ?U42 ?V42
    case U42=>intro w' hSw;obtain ⟨hs1,hs2,hs3⟩:=hSw;go_simp;try (with_reducible rfl)
    try simp only [Act.put,jA,jB,jC]
    refine' tk (i:=14) rfl ?U43 ?V43
    case U43=>intro w' hSw;obtain ⟨hs1,hs2,hs3⟩:=hSw;go_simp;try (with_reducible rfl)
    try simp only [Act.put,jA,jB,jC]
    refine wpAnyH_done (by kernel_rfl) ?_ _
    refine NoPanic.normal ?_
    exact HQ.out _ _ _ _ _ _ _ _ _ _ _ _ _ _ _ YB.out.tail
set_option maxHeartbeats 2000000 in
set_option maxRecDepth 100000 in
theorem add_any {w0 w : World} {R : List IT} (g : GM) (f : FR) (oA : Option Addr) (on oc : Nat) (dA : Option Addr) (dn dc : Nat) (H : SP w0 w (g.its++(.own .u8 5 oA on oc f.o::R))) (hk : GOK g.a) (hf : FOK f) (rd : ∀ W,SP w0 W R->RD .u8 W W.heap.size dA dn f.d) :
 Calls Tryz.prog 38 #[.pointer (some ⟨g.N,0,none⟩),f.h.val (.slice oA on oc),.slice dA dn dc] w (ADDR w0 g.N g.a f R):=by
 obtain ⟨i0,hi,hz0,hz1,hz2⟩:=info_parts infoPart
 have hdl:=(rd w H.right.tail).len
 have HGL:=gm_len H
 have HKD:=Lib.hid (And.intro hk hf)
 have hfb:=hf.b
 have hfe:=hf.e
 have hfo:=hf.off
 have RDD:=Lib.hid rd
 have hol:=(H.right.own 0 rfl).len
 have hpl:=(gm_facts H hk).parts.1
 have hpn:=(gm_facts H hk).pn
 obtain ⟨N,q,hA,hn,hc,pA,pn,pc,ps⟩:=g
 have HH:=Lib.hid (show SP w0 w ((GMq N q hA hn hc pA pn pc ps).its++(.own .u8 5 oA on oc f.o::R)) from H)
 have HGA:=Lib.hid (show (((GMq N q hA hn hc pA pn pc ps)).a : AG)={ q with ps:=ps.map PM.a } from rfl)
 have HLEN:=Lib.hid HGL
 have hob:=hf.op.2
 clear H HGL rd hk hf
 simp only
 obtain ⟨GB,hGB⟩ : ∃ b,b=w.heap.size:=⟨_,rfl⟩
 obtain ⟨HB,hHB⟩ : ∃ b,b=GB + 1:=⟨_,rfl⟩
 have XB:=Lib.hid (show SP w0 ((w.alloc (.cells #[.pointer (some ⟨N,0,none⟩)] 82)).alloc (.cells #[.int .u8 f.h.tos,.int .u16 f.h.id,.bool f.h.df,.bool f.h.mf,.int .i64 f.h.off,.int .u8 f.h.ttl,.int .u8 f.h.proto,.int .u32 f.h.src,.int .u32 f.h.dst,.slice oA on oc] 34)) (.blk HB 34 (f.h.cells (.slice oA on oc))::.blk GB 82 #[.pointer (some ⟨N,0,none⟩)]::((GMq N q hA hn hc pA pn pc ps).its++(.own .u8 5 oA on oc f.o::R))) from (((HH.out.alloc' 82 #[.pointer (some ⟨N,0,none⟩)] hGB.symm).rot).alloc' 34 #[.int .u8 f.h.tos,.int .u16 f.h.id,.bool f.h.df,.bool f.h.mf,.int .i64 f.h.off,.int .u8 f.h.ttl,.int .u8 f.h.proto,.int .u32 f.h.src,.int .u32 f.h.dst,.slice oA on oc] (by rw [hHB,hGB];simp)).rot)
 unfold HD.val HD.cells
 go_enter Tryz.func38,Tryz.ntmps38
 go_upto_region 1 with fail
 rw [<- hGB,<- hHB]
 generalize ((w.alloc (.cells #[.pointer (some ⟨N,0,none⟩)] 82)).alloc (.cells #[.int .u8 f.h.tos,.int .u16 f.h.id,.bool f.h.df,.bool f.h.mf,.int .i64 f.h.off,.int .u8 f.h.ttl,.int .u8 f.h.proto,.int .u32 f.h.src,.int .u32 f.h.dst,.slice oA on oc] 34))=v0 at XB ⊢
 clear hGB hHB HH
 go_cut [7,8] (fun s7 s8 wx=>∃ PB PE : Nat,s7 = .pointer (some ⟨PB,0,none⟩)∧s8 = .pointer (some ⟨PE,0,none⟩)∧SP w0 wx ([.blk PB 3 #[.int .i64 (f.b : Int)],.blk PE 3 #[.int .i64 (f.e : Int)],.blk HB 34 (f.h.cells (.slice oA on oc)),.blk GB 82 #[.pointer (some ⟨N,0,none⟩)]]++((GMq N q hA hn hc pA pn pc ps).its++(.own .u8 5 oA on oc f.o::R))))
 case first =>
  have e1 : IntKind.i64.wrap (f.h.off + (dn : Int))=(f.e : Int):=by rw [show f.h.off + (dn : Int)=(f.e : Int) by unfold FR.e;omega];exact IntWalk.i64_in _ (by omega)
  have HLN:=Lib.hid hdl
  have HFB:=Lib.hid hfb
  clear hdl hfb hol hpl
  have KS:=Lib.hid (fun (L : List IT) W' (hs : SP w0 W' (.blk HB 34 (f.h.cells (.slice oA on oc))::L))=>(show W'.cell? ⟨HB,4,none⟩=some (.int .i64 f.h.off) from hs.cell 0 rfl 4 rfl))
  have ZD:=Lib.hid XB.out.drew
  refine wp_region_noPanic ?_
  refine wp_region_held_drew (S:=fun W'=>W'.cell? ⟨HB,4,none⟩=some (.int .i64 f.h.off)) (by kernel_rfl) (by exact KS.out _ _ ZD.out) (fun hHeld=>?_)
  generalize v0.drew=v1 at ZD hHeld ⊢
  refine' tk (i:=0) rfl ?U44 ?V44
  case U44=>intro w' hSw;(try dsimp only at hSw);go_simp;try (with_reducible rfl)
  try simp only [Act.put,jA,jB,jC]
  refine' tk (i:=1) rfl ?U45 ?V45
  case U45=>intro w' hSw;(try dsimp only at hSw);go_simp;try (with_reducible rfl)
  try simp only [Act.put,jA,jB,jC]
  refine' tk (i:=2) rfl ?U46 ?V46
  case U46=>intro w' hSw;(try dsimp only at hSw);go_simp;try (with_reducible rfl)
  try simp only [Act.put,jA,jB,jC]
  refine' tk (i:=3) rfl ?U47 ?V47
  case U47=>intro w' hSw;(try dsimp only at hSw);go_simp;try (with_reducible rfl)
  try simp only [Act.put,jA,jB,jC]
  refine' tk (i:=4) rfl ?U48 ?V48
  case U48=>intro w' hSw;(try dsimp only at hSw);go_simp;try (with_reducible rfl)
  try simp only [Act.put,jA,jB,jC]
  refine' tk (i:=5) rfl ?U49 ?V49
  case U49=>intro w' hSw;(try dsimp only at hSw);go_simp;try (with_reducible rfl)
  try simp only [Act.put,jA,jB,jC]
  refine' tk (i:=6) rfl ?U50 ?V50
  case U50=>intro w' hSw;(try dsimp only at hSw);go_simp;try (with_reducible rfl)
  try simp only [Act.put,jA,jB,jC]
  refine rdy [7,8] ?_
  refine cons_lit rfl (fun K hK=>?ss7x51) (cons_lit rfl (fun K hK=>?ss8x51) AllReadyH.nil)
  case ss7x51 =>
   go_simp
   have Y1:=Lib.hid (ZD.out.alloc' 3 #[.int .i64 0] (N:=v1.heap.size) rfl).rot
   refine hK.out _ _ (by exact Y1.out.cell 1 rfl 4 rfl) (fun hHeld=>?_)
   clear hK K
   try simp only [Act.put,jA,jB,jC]
   refine rdy [8] ?_
   refine cons_lit rfl (fun K hK=>?ss8x52) AllReadyH.nil
   case ss8x52 =>
    go_simp
    refine nameK (fun v2 hv2=>?_)
    have Y2:=Lib.hid (Y1.out.alloc' 3 #[.int .i64 0] (N:=v1.heap.size + 1) (by simp)).rot
    rw [<- hv2] at Y2
    clear hv2
    refine hK.out _ _ (by exact Y2.out.cell 2 rfl 4 rfl) (fun hHeld=>?_)
    clear hK K
    try simp only [Act.put,jA,jB,jC]
    refine rdy [9] ?_
    refine cons_lit rfl (fun K hK=>?ss9x53) AllReadyH.nil
    case ss9x53 =>
     have Y3:=Lib.hid (SP.perm Y2.out (List.Perm.swap _ _ _))
     have x0 : (_ : World).cell? ⟨v1.heap.size,0,none⟩=some (.int .i64 0):=Y3.out.cell 0 rfl 0 rfl
     have d0:=Y3.out.free 0 rfl 0
     go_simp
     clear x0 d0
     have Y4:=Lib.hid (Y3.out.setB 0 rfl 0 (.int .i64 f.h.off))
     refine hK.out _ _ (by exact Y4.out.cell 2 rfl 4 rfl) (fun hHeld=>?_)
     clear hK K
     try simp only [Act.put,jA,jB,jC]
     refine rdy [10] ?_
     refine cons_lit rfl (fun K hK=>?ss10x54) AllReadyH.nil
     case ss10x54 =>
      have x0 : (_ : World).cell? ⟨(v1.heap.size + 1),0,none⟩=some (.int .i64 0):=Y4.out.cell 1 rfl 0 rfl
      have d0:=Y4.out.free 1 rfl 0
      go_simp
      clear x0 d0
      have Y5:=Lib.hid (Y4.out.setB 1 rfl 0 (.int .i64 (f.e : Int)))
      refine hK.out _ _ (by exact Y5.out.cell 2 rfl 4 rfl) (fun hHeld=>?_)
      clear hK K
      try simp only [Act.put,jA,jB,jC]
      refine wpAnyH_done (by kernel_rfl) ?_ _
      refine NoPanic.normal ?_
      go_wp2_with fail
      go_meet
      exact ⟨v1.heap.size,(v1.heap.size + 1),rfl,rfl,by rw [HFB.out];exact Y5.out⟩
  case ss8x51 =>
   go_simp
   have Y1:=Lib.hid (ZD.out.alloc' 3 #[.int .i64 0] (N:=v1.heap.size) rfl).rot
   refine hK.out _ _ (by exact Y1.out.cell 1 rfl 4 rfl) (fun hHeld=>?_)
   clear hK K
   try simp only [Act.put,jA,jB,jC]
   refine rdy [7] ?_
   refine cons_lit rfl (fun K hK=>?ss7x55) AllReadyH.nil
   case ss7x55 =>
    go_simp
    refine nameK (fun v2 hv2=>?_)
    have Y2:=Lib.hid (Y1.out.alloc' 3 #[.int .i64 0] (N:=v1.heap.size + 1) (by simp)).rot
    rw [<- hv2] at Y2
    clear hv2
    refine hK.out _ _ (by exact Y2.out.cell 2 rfl 4 rfl) (fun hHeld=>?_)
    clear hK K
    try simp only [Act.put,jA,jB,jC]
    refine rdy [9] ?_
    refine cons_lit rfl (fun K hK=>?ss9x56) AllReadyH.nil
    case ss9x56 =>
     have Y3:=Lib.hid Y2.out
     have x0 : (_ : World).cell? ⟨(v1.heap.size + 1),0,none⟩=some (.int .i64 0):=Y3.out.cell 0 rfl 0 rfl
     have d0:=Y3.out.free 0 rfl 0
     go_simp
     clear x0 d0
     have Y4:=Lib.hid (Y3.out.setB 0 rfl 0 (.int .i64 f.h.off))
     refine hK.out _ _ (by exact Y4.out.cell 2 rfl 4 rfl) (fun hHeld=>?_)
     clear hK K
     try simp only [Act.put,jA,jB,jC]
     refine rdy [10] ?_
     refine cons_lit rfl (fun K hK=>?ss10x57) AllReadyH.nil
     case ss10x57 =>
      have x0 : (_ : World).cell? ⟨v1.heap.size,0,none⟩=some (.int .i64 0):=Y4.out.cell 1 rfl 0 rfl
      have d0:=Y4.out.free 1 rfl 0
      go_simp
      clear x0 d0
      have Y5:=Lib.hid (Y4.out.setB 1 rfl 0 (.int .i64 (f.e : Int)))
      refine hK.out _ _ (by exact Y5.out.cell 2 rfl 4 rfl) (fun hHeld=>?_)
      clear hK K
      try simp only [Act.put,jA,jB,jC]
      refine wpAnyH_done (by kernel_rfl) ?_ _
      refine NoPanic.normal ?_
      go_wp2_with fail
      go_meet
      exact ⟨(v1.heap.size + 1),v1.heap.size,rfl,rfl,by rw [HFB.out];exact Y5.out⟩
 case rest =>
 obtain ⟨PB,PE,rfl,rfl,hS⟩:=hcut
 have X1:=Lib.hid hS
 clear hS XB
 obtain ⟨FB,hFB⟩ : ∃ b,b=wc.heap.size:=⟨_,rfl⟩
 have X2:=Lib.hid (X1.out.alloc' 51 #[.func (.func 67) #[] #[.pointer (some ⟨HB,0,none⟩),.pointer (some ⟨GB,0,none⟩),.pointer (some ⟨PE,0,none⟩)],.func (.func 68) #[] #[.pointer (some ⟨GB,0,none⟩),.pointer (some ⟨PE,0,none⟩),.pointer (some ⟨PB,0,none⟩),.pointer (some ⟨HB,0,none⟩)]] hFB.symm).rot
 go_upto_region 3 with fail
 rw [<- hFB]
 generalize wc.alloc (.cells #[.func (.func 67) #[] #[.pointer (some ⟨HB,0,none⟩),.pointer (some ⟨GB,0,none⟩),.pointer (some ⟨PE,0,none⟩)],.func (.func 68) #[] #[.pointer (some ⟨GB,0,none⟩),.pointer (some ⟨PE,0,none⟩),.pointer (some ⟨PB,0,none⟩),.pointer (some ⟨HB,0,none⟩)]] 51)=v2 at X2 ⊢
 replace X2:=Lib.hid (show SP w0 v2 (.blk FB 51 (FSA HB GB PE PB)::([.blk PB 3 #[.int .i64 (f.b : Int)],.blk PE 3 #[.int .i64 (f.e : Int)],.blk HB 34 (f.h.cells (.slice oA on oc)),.blk GB 82 #[.pointer (some ⟨N,0,none⟩)]]++((GMq N q hA hn hc pA pn pc ps).its++(.own .u8 5 oA on oc f.o::R)))) from X2.out)
 clear hFB X1
 obtain ⟨d1,hd1⟩ : ∃ d,dies1 q.total f.h.mf f.e=d:=⟨_,rfl⟩
 obtain ⟨d2,hd2⟩ : ∃ d,ps.any (fun p=>dies2 f.h.mf f.b f.e (p.b,List.replicate p.n 0))=d:=⟨_,rfl⟩
 have HDG:=Lib.hid (show diesG ((GMq N q hA hn hc pA pn pc ps)).a f=(d1 || d2) by rw [<- hd1,<- hd2,dies2_any _ _ _ ps (fun p hp=>HLEN.out p hp)];rfl)
 have HD1:=Lib.hid hd1
 have HD2:=Lib.hid hd2
 have HFO:=Lib.hid (And.intro hfb (And.intro hfe (And.intro hfo (And.intro hdl (And.intro hol hpl)))))
 have hbb : f.b<=100000:=by omega
 have hee : f.e<=200000:=by omega
 clear hd1 hd2 hfb hfo hdl hol hpl hfe
 go_loopw [22] (fun s22 wr=>∃ j : Nat,j<=2∧s22 = .int .i64 (j : Int)∧DJ j d1 d2∧SP w0 wr (.blk FB 51 (FSA HB GB PE PB)::([.blk PB 3 #[.int .i64 (f.b : Int)],.blk PE 3 #[.int .i64 (f.e : Int)],.blk HB 34 (f.h.cells (.slice oA on oc)),.blk GB 82 #[.pointer (some ⟨N,0,none⟩)]]++((GMq N q hA hn hc pA pn pc ps).its++(.own .u8 5 oA on oc f.o::R))))) (fun s22 _=>2 - (intOf s22).toNat)
 case atStart=>exact ⟨0,by omega,rfl,⟨by omega,by omega⟩,X2.out⟩
 case round =>
  obtain ⟨j,hj,rfl,hdj,Y0⟩:=hrel
  obtain ⟨wo,rfl⟩ : ∃ wo : World,wo=wr:=⟨_,rfl⟩
  have Y:=Lib.hid Y0
  have HDJ:=Lib.hid hdj
  clear Y0 X2 hdj
  by_cases hlt : j < 2
  case neg =>
   have t1 : ¬ (j : Int) < 2:=by omega
   have hno : diesG ((GMq N q hA hn hc pA pn pc ps)).a f=false:=by rw [HDG.out,HDJ.out.1 (by omega),HDJ.out.2 (by omega)];rfl
   have Z:=Lib.hid (show SP w0 wo ([.blk PB 3 #[.int .i64 (f.b : Int)],.blk PE 3 #[.int .i64 (f.e : Int)],.blk HB 34 (f.h.cells (.slice oA on oc)),.blk GB 82 #[.pointer (some ⟨N,0,none⟩)]]++((GMq N q hA hn hc pA pn pc ps).its++(.own .u8 5 oA on oc f.o::R))) from Y.out.tail)
   have HNO:=Lib.hid hno
   clear hno Y
   obtain ⟨hfb,hfe,hfo,hdl,hol,hpl⟩:=HFO.out
   have hdn5 : dn<=140737488355328:=by unfold FR.e at hfe;omega
   have hpn5 : pn<=100000:=hpn
   have HFB:=Lib.hid (And.intro hfb (And.intro hdl hol))
   clear hfb hdl hol hpl hfo hfe hpn
   go_upto_if 31 with fail
   go_cut [] (fun wx=>AD1 w0 wx [.blk PB 3 #[.int .i64 (f.b : Int)],.blk PE 3 #[.int .i64 (f.e : Int)],.blk HB 34 (f.h.cells (.slice oA on oc)),.blk GB 82 #[.pointer (some ⟨N,0,none⟩)]] (.own .u8 5 oA on oc f.o::R) N q hA hn hc (putP f (ps.map PM.a)))
   case first =>
    by_cases hd0 : dn=0
    ·have t2 : ¬ (0 : Int) < (dn : Int):=by omega
     have hde : f.d=[]:=List.length_eq_zero_iff.1 (HFB.out.2.1.trans hd0)
     have HP:=Lib.hid (show putP f (ps.map PM.a)=ps.map PM.a by unfold putP;rw [if_pos hde])
     clear hde hd0
     go_wp2_with fail
     go_meet
     exact ⟨pA,pn,pc,ps,HP.out.symm,Z.out⟩
    ·have t2 : (0 : Int) < (dn : Int):=by omega
     have HP:=Lib.hid (show putP f (ps.map PM.a)=ps.map PM.a++[(f.b,f.d)] by unfold putP;rw [if_neg (fun h=>hd0 (by rw [<- HFB.out.2.1,h];rfl))])
     go_upto_region 9 with fail
     refine add9 w0 N f R oA on oc dA dn dc PB PE HB GB q hA hn hc pA pn pc ps hpn5 hdn5 RDD wo Z (Lib.hid ?_)
     intro _ _ _ _ _ _ _ _ _ _ _ _ _ wx hS
     have HS:=Lib.hid hS
     clear hS
     try simp only [Exit.then]
     go_wp2_with fail
     go_meet
     rw [HP.out]
     exact HS.out
   case rest =>
   obtain ⟨pA1,pn1,pc1,ps1,hps,hS⟩:=hcut
   have Z1:=Lib.hid hS
   have HPS:=Lib.hid hps
   clear hS hps Z
   have kH0 : wc.cell? ⟨HB,3,none⟩=some (.bool f.h.mf):=Z1.out.cell 2 rfl 3 rfl
   obtain ⟨mf,hmf⟩ : ∃ m,f.h.mf=m:=⟨_,rfl⟩
   have HMF:=Lib.hid hmf
   rw [hmf] at kH0
   clear hmf
   go_upto_if 47 with fail
   clear kH0
   go_cut [] (fun wx=>SP w0 wx ([.blk PB 3 #[.int .i64 (f.b : Int)],.blk PE 3 #[.int .i64 (f.e : Int)],.blk HB 34 (f.h.cells (.slice oA on oc)),.blk GB 82 #[.pointer (some ⟨N,0,none⟩)]]++((GMq N { q with total:=if f.h.mf then q.total else (f.e : Int) } hA hn hc pA1 pn1 pc1 ps1).its++(.own .u8 5 oA on oc f.o::R))))
   case first =>
    cases mf
    case true =>
     have HE:=Lib.hid (show (GMq N { q with total:=if f.h.mf then q.total else (f.e : Int) } hA hn hc pA1 pn1 pc1 ps1)=(GMq N q hA hn hc pA1 pn1 pc1 ps1) by rw [HMF.out];rfl)
     go_wp2_with fail
     go_meet
     rw [HE.out]
     exact Z1.out
    case false =>
     have kG : wc.cell? ⟨GB,0,none⟩=some (.pointer (some ⟨N,0,none⟩)):=Z1.out.cell 3 rfl 0 rfl
     have kE : wc.cell? ⟨PE,0,none⟩=some (.int .i64 (f.e : Int)):=Z1.out.cell 1 rfl 0 rfl
     have kT : wc.cell? ⟨N,5,none⟩=some (.int .i64 q.total):=Z1.out.cell 4 rfl 5 rfl
     have kF : wc.frozen? ⟨N,5,none⟩=false:=Z1.out.free 4 rfl 5
     go_wp2_with fail
     go_meet
     rw [HMF.out]
     exact Z1.out.setB 4 rfl 5 (.int .i64 (f.e : Int))
   case rest =>
   have Z2:=Lib.hid hcut
   clear hcut Z1
   obtain ⟨w5,rfl⟩ : ∃ w5 : World,w5=wc:=⟨_,rfl⟩
   have kB0 : w5.cell? ⟨PB,0,none⟩=some (.int .i64 (f.b : Int)):=Z2.out.cell 0 rfl 0 rfl
   go_upto_if 53 with fail
   clear kB0
   go_cut [] (fun wx=>ADH w0 wx [.blk PB 3 #[.int .i64 (f.b : Int)],.blk PE 3 #[.int .i64 (f.e : Int)],.blk HB 34 (f.h.cells (.slice oA on oc)),.blk GB 82 #[.pointer (some ⟨N,0,none⟩)]] R N f q pA1 pn1 pc1 ps1)
   case first =>
    have kB : w5.cell? ⟨PB,0,none⟩=some (.int .i64 (f.b : Int)):=Z2.out.cell 0 rfl 0 rfl
    by_cases hb0 : f.b=0
    ·have t3 : ((f.b : Int) == 0)=true:=by simp [hb0]
     have t4 : (f.b == 0)=true:=by simp [hb0]
     have kG : w5.cell? ⟨GB,0,none⟩=some (.pointer (some ⟨N,0,none⟩)):=Z2.out.cell 3 rfl 0 rfl
     have HB0:=Lib.hid hb0
     rw [hb0] at kB
     clear hb0
     have HT:=Lib.hid (show w5.there N 7 (f.h.cells (.slice oA on oc)).size from (Z2.out.blk 4 rfl).there 7 10 (by show (17 : Nat)<=18;omega))
     have HI:=Lib.hid (show (Tryz.prog.info? 34).map (·.size)=some (f.h.cells (.slice oA on oc)).size from by kernel_rfl)
     go_upto_region 13 with fail
     clear t3 t4
     go_wp2_with (first
      | (refine wpList_load_row rfl 34 _ rfl HB rfl 34 (f.h.cells (.slice oA on oc)) (0,0) _ (Z2.out.blk 2 rfl) Tryz.underlying34 rfl (by kernel_rfl) ?_)
      | (
         refine wpList_store_mid rfl 34 _ _ rfl N 7 (f.h.cells (.slice oA on oc)) rfl rfl HT.out HI.out (hcells_one' f.h oA on oc) ?_
         refine nameL' (fun w6 hw6=>?_)
         have Z3:=Z2.out.setM (f.h.cells (.slice oA on oc)).toList 7 4 rfl
         rw [setAll_head] at Z3
         have Z4:=Lib.hid (show SP w0 w6 ([.blk PB 3 #[.int .i64 (f.b : Int)],.blk PE 3 #[.int .i64 (f.e : Int)],.blk HB 34 (f.h.cells (.slice oA on oc)),.blk GB 82 #[.pointer (some ⟨N,0,none⟩)]]++(.blk N 88 ((GMq N { q with total:=if f.h.mf then q.total else (f.e : Int),h:=f.h } oA on oc pA1 pn1 pc1 ps1)).cells::.row 92 2 pA1 pn1 pc1 (ps1.flatMap PM.cells)::.own .u8 5 hA hn hc q.o::(ps1.map PM.it++(.own .u8 5 oA on oc f.o::R)))) by rw [hw6];exact Z3)
         clear hw6 Z3
         have kG2 : w6.cell? ⟨GB,0,none⟩=some (.pointer (some ⟨N,0,none⟩)):=Z4.out.cell 3 rfl 0 rfl
         have kM : w6.cell? ⟨N,10,none⟩=some (.bool f.h.mf):=Z4.out.cell 4 rfl 10 rfl
         have kF : w6.frozen? ⟨N,10,none⟩=false:=Z4.out.free 4 rfl 10))
     go_meet
     refine ⟨oA,on,oc,?_⟩
     have Z5 : SP w0 _ ([.blk PB 3 #[.int .i64 (f.b : Int)],.blk PE 3 #[.int .i64 (f.e : Int)],.blk HB 34 (f.h.cells (.slice oA on oc)),.blk GB 82 #[.pointer (some ⟨N,0,none⟩)]]++(.blk N 88 ((GMq N { q with total:=if f.h.mf then q.total else (f.e : Int),h:={ f.h with mf:=false } } oA on oc pA1 pn1 pc1 ps1)).cells::.row 92 2 pA1 pn1 pc1 (ps1.flatMap PM.cells)::.own .u8 5 hA hn hc q.o::(ps1.map PM.it++(.own .u8 5 oA on oc f.o::R)))):=Z4.out.setB 4 rfl 10 (.bool false)
     have Z6:=SP.frontOf (A:=[.blk PB 3 #[.int .i64 (f.b : Int)],.blk PE 3 #[.int .i64 (f.e : Int)],.blk HB 34 (f.h.cells (.slice oA on oc)),.blk GB 82 #[.pointer (some ⟨N,0,none⟩)],.blk N 88 ((GMq N { q with total:=if f.h.mf then q.total else (f.e : Int),h:={ f.h with mf:=false } } oA on oc pA1 pn1 pc1 ps1)).cells,.row 92 2 pA1 pn1 pc1 (ps1.flatMap PM.cells),.own .u8 5 hA hn hc q.o]++ps1.map PM.it) Z5
     have Z7:=SP.backOf (A:=[.blk PB 3 #[.int .i64 (f.b : Int)],.blk PE 3 #[.int .i64 (f.e : Int)],.blk HB 34 (f.h.cells (.slice oA on oc)),.blk GB 82 #[.pointer (some ⟨N,0,none⟩)],.blk N 88 ((GMq N { q with total:=if f.h.mf then q.total else (f.e : Int),h:={ f.h with mf:=false } } oA on oc pA1 pn1 pc1 ps1)).cells,.row 92 2 pA1 pn1 pc1 (ps1.flatMap PM.cells)]) Z6
     have Z8:=(SP.frontOf (A:=[.blk PB 3 #[.int .i64 (f.b : Int)],.blk PE 3 #[.int .i64 (f.e : Int)],.blk HB 34 (f.h.cells (.slice oA on oc)),.blk GB 82 #[.pointer (some ⟨N,0,none⟩)],.blk N 88 ((GMq N { q with total:=if f.h.mf then q.total else (f.e : Int),h:={ f.h with mf:=false } } oA on oc pA1 pn1 pc1 ps1)).cells,.row 92 2 pA1 pn1 pc1 (ps1.flatMap PM.cells),.own .u8 5 oA on oc f.o]) Z7).tail
     have hq : headQ f q={ q with total:=if f.h.mf then q.total else (f.e : Int),h:={ f.h with mf:=false },o:=f.o }:=by unfold headQ;rw [if_pos HB0.out,if_pos HB0.out]
     rw [hq]
     exact Z8
    ·have t3 : ((f.b : Int) == 0)=false:=by simp;omega
     have t4 : (f.b == 0)=false:=by simp;omega
     have HB0:=Lib.hid hb0
     clear hb0
     go_wp2_with fail
     go_meet
     refine ⟨hA,hn,hc,?_⟩
     have hq : headQ f q={ q with total:=if f.h.mf then q.total else (f.e : Int) }:=by unfold headQ;rw [if_neg HB0.out,if_neg HB0.out]
     rw [hq]
     exact (SP.frontOf (A:=[.blk PB 3 #[.int .i64 (f.b : Int)],.blk PE 3 #[.int .i64 (f.e : Int)],.blk HB 34 (f.h.cells (.slice oA on oc)),.blk GB 82 #[.pointer (some ⟨N,0,none⟩)]]++(GMq N { q with total:=if f.h.mf then q.total else (f.e : Int) } hA hn hc pA1 pn1 pc1 ps1).its) Z2.out).tail
   case rest =>
   obtain ⟨hA3,hn3,hc3,hS⟩:=hcut
   have Z3:=Lib.hid (show SP w0 wc (.blk GB 82 #[.pointer (some ⟨N,0,none⟩)]::((GMq N (headQ f q) hA3 hn3 hc3 pA1 pn1 pc1 ps1).its++R)) from hS.tail.tail.tail)
   clear hS Z2
   have HE:=Lib.hid (show (GMq N (headQ f q) hA3 hn3 hc3 pA1 pn1 pc1 ps1).a=putG ((GMq N q hA hn hc pA pn pc ps)).a f by
    show ({ headQ f q with ps:=ps1.map PM.a } : AG)=_
    rw [HPS.out];rfl)
   have HG:=Lib.hid (show GOK (putG ((GMq N q hA hn hc pA pn pc ps)).a f) from putG_ok HKD.out.1 HKD.out.2 HNO.out)
   have hhn : hn3<=40:=by
    have h1:=(Z3.out.own 3 rfl).len
    have h2:=HG.out.op.2
    rw [<- HE.out] at h2
    have h3 : (headQ f q).o.length<=40:=h2
    have h4 : (headQ f q).o.length=hn3:=h1
    omega
   have HHN:=Lib.hid (show (headQ f q).o.length=hn3 from (Z3.out.own 3 rfl).len)
   go_upto_region 15 with fail
   refine add15 w0 N GB (headQ f q) hA3 hn3 hc3 pA1 pn1 pc1 ps1 R (by rw [HE.out];exact HG.out) hhn wc Z3 (Lib.hid ?_)
   intro _ _ _ _ _ _ _ _ _ _ _ _ _ _ w9 hS
   have Z9:=Lib.hid hS
   clear hS Z3
   go_wp2_with fail
   go_ret
   refine ⟨_,_,rfl,rfl,?_,Z9.out⟩
   rw [HE.out]
   have hok : (!doneG (putG ((GMq N q hA hn hc pA pn pc ps)).a f) || rightB (headQ f q).h.off (headQ f q).h.mf hn3 (headQ f q).total)=okG (putG ((GMq N q hA hn hc pA pn pc ps)).a f):=by
    unfold okG
    rw [<- HHN.out]
    rfl
   rw [hok]
   show ADDED ((GMq N q hA hn hc pA pn pc ps)).a f _ _
   unfold ADDED addG
   rw [HNO.out]
   by_cases h : okG (putG ((GMq N q hA hn hc pA pn pc ps)).a f)=true
   ·exact .inl ⟨by rw [if_neg (by simp),if_pos h],h⟩
   ·exact .inr ⟨by rw [if_neg (by simp),if_neg h],by simpa using h,rfl,rfl,rfl,rfl,rfl,rfl,HG.out⟩
  have t1 : (j : Int) < 2:=by omega
  have kH : wo.cell? ⟨HB,3,none⟩=some (.bool f.h.mf):=Y.out.cell 3 rfl 3 rfl
  have kG : wo.cell? ⟨GB,0,none⟩=some (.pointer (some ⟨N,0,none⟩)):=Y.out.cell 4 rfl 0 rfl
  have kE : wo.cell? ⟨PE,0,none⟩=some (.int .i64 (f.e : Int)):=Y.out.cell 2 rfl 0 rfl
  have kB : wo.cell? ⟨PB,0,none⟩=some (.int .i64 (f.b : Int)):=Y.out.cell 1 rfl 0 rfl
  have kT : wo.cell? ⟨N,5,none⟩=some (.int .i64 q.total):=Y.out.cell 5 rfl 5 rfl
  rcases (show j=0∨j=1 by omega) with rfl | rfl
  ·have H1:=Lib.hid (add1_any HB GB PE N f.h.mf q.total f.e wo kH kG kE kT)
   have x0 : wo.cell? ⟨FB,0,none⟩=some (.func (.func 67) #[] #[.pointer (some ⟨HB,0,none⟩),.pointer (some ⟨GB,0,none⟩),.pointer (some ⟨PE,0,none⟩)]):=Y.out.cell 0 rfl 0 rfl
   rw [HD1.out] at H1
   clear kH kG kE kB kT
   go_wp2_with fail
   refine H1.out.mono ?_
   rintro e w3 ⟨rfl,k,rfl⟩
   clear x0 H1
   cases d1
   ·go_wp2_with fail
    go_roundw
    case rel=>exact ⟨1,by omega,rfl,⟨fun _=>rfl,by omega⟩,Y.out.drewN k⟩
    case measure=>simp [intOf]
   ·go_wp2_with fail
    go_ret
    exact ⟨false,(GMq N q hA hn hc pA pn pc ps),rfl,rfl,.inr ⟨by show addG ((GMq N q hA hn hc pA pn pc ps)).a f=none;unfold addG;rw [HDG.out];rfl,rfl,rfl,rfl,rfl,rfl,rfl,rfl,HKD.out.1⟩,(Y.out.drewN k).tail.right.frontOf.tail⟩
  ·have F:=gm_facts (show SP w0 wo ((GMq N q hA hn hc pA pn pc ps).its++([.blk PB 3 #[.int .i64 (f.b : Int)],.blk PE 3 #[.int .i64 (f.e : Int)],.blk HB 34 (f.h.cells (.slice oA on oc)),.blk GB 82 #[.pointer (some ⟨N,0,none⟩)]]++(.own .u8 5 oA on oc f.o::R))) from Y.out.tail.swap) HKD.out.1
   have H1:=Lib.hid (add2_any HB GB PE PB f.h.mf f.b f.e (GMq N q hA hn hc pA pn pc ps) wo F hbb hee ⟨(Y.out.blk 3 rfl).lt,(Y.out.blk 4 rfl).lt,(Y.out.blk 2 rfl).lt,(Y.out.blk 1 rfl).lt⟩ kH kG kE kB)
   have x0 : wo.cell? ⟨FB,1,none⟩=some (.func (.func 68) #[] #[.pointer (some ⟨GB,0,none⟩),.pointer (some ⟨PE,0,none⟩),.pointer (some ⟨PB,0,none⟩),.pointer (some ⟨HB,0,none⟩)]):=Y.out.cell 0 rfl 1 rfl
   rw [show ((GMq N q hA hn hc pA pn pc ps)).ps=ps from rfl,HD2.out] at H1
   clear kH kG kE kB kT F
   go_wp2_with fail
   refine H1.out.mono ?_
   rintro e w3 ⟨rfl,hb⟩
   have Y3:=Lib.hid (Y.out.next hb)
   clear x0 H1 hb
   cases d2
   ·go_wp2_with fail
    go_roundw
    case rel=>exact ⟨2,by omega,rfl,⟨fun _=>HDJ.out.1 (by omega),fun _=>rfl⟩,Y3.out⟩
    case measure=>simp [intOf]
   ·go_wp2_with fail
    go_ret
    exact ⟨false,(GMq N q hA hn hc pA pn pc ps),rfl,rfl,.inr ⟨by show addG ((GMq N q hA hn hc pA pn pc ps)).a f=none;unfold addG;rw [HDG.out];simp,rfl,rfl,rfl,rfl,rfl,rfl,rfl,HKD.out.1⟩,Y3.out.tail.right.frontOf.tail⟩
end Go.Proofs.YtljbfnabnkkfeaaGreat
