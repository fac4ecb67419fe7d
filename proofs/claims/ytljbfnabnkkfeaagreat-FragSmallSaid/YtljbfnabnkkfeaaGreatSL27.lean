import Derived.Test.YtljbfnabnkkfeaaGreatSL26
set_option linter.unusedVariables false
set_option linter.unusedSimpArgs false
/- Joined by program: FgTF, FgTG, FgTH, FgSa. -/
namespace Go.Proofs.YtljbfnabnkkfeaaGreat
open Go.RowKit
attribute [local go_sem ↓] Go.wp_at_zero Go.wp_at_succ
set_option maxHeartbeats 4000000 in
set_option maxRecDepth 100000 in
theorem tells_43 {u0 u1 u2 u3 u4 u5 u6 u7 u8 u10 u12 u13 u14 u15 u16 u17 u18 u19 u20 u21 u22 u23 u24 u25 u26 u27 u28 u29 u30 u31 u32 u33 u34 u35 u36 u37 u38 u39 u40 u41 u42 u43 u44 u45 u46 u47 u48 u49 u50 u51 u52 u53 u54 u55 u56 u57 u58 u59 u60 u61 u62 u63 u64 u65 u66 u67 u68 u69 u70 u71 u72 u73 u74 u75 u76 u77 u78 u79 u80 u81 u82 u83 u84 u85 u86 u87 u88 u89 u90 u91 u92 u93 u94 u95 u96 u97 u98 u99 u100 u101 u102 u103 u104 u105 u106 u107 u108 u109 u110 u111 u112 u113 u114 u115 u116 u117 u118 u119 u120 u121 u122 u123 u124 u125 u126 u127 u128 u129 u130 u131 u132 u133 u134 u135 u136 u137 u138 u139 u140 u141 u142 u143 u144 u145 u146 u147 u148 u149 u150 u151 u152 u153 u154 u155 u156 u157 u158 u159 u160 u161 u162 u163 u164 u165 u166 u167 u168 u169 u170 u171 u172 u173 u174 u175 u176 u177 u178 u179 u180 u181 u182 u183 u184 u185 u186 u187 u188 u189 u190 u192 u193 u194 u195 u191 : Value} {Q : Exit->Act->World->Prop} (w : World) (TB MB : Nat) (E : List IT) (hE : ∃ y,E=[y]) (kA : Option Addr) (k kc : Nat) (gA : Option Addr) (gc i : Nat) (hi : i<=41) (w1 : World) (HT : Hid (TSTE w w1 TB MB E kA k kc gA gc i))
 (HQ : Hid (∀ (y179 y180 y181 y182 y183 y184 y185 y186 y187 y188 y189 y190 : Value) (w' : World),TSTE w w' TB MB E kA k kc gA gc i->Q .normal ⟨List.toArray (u0::u1::u2::u3::u4::u5::u6::u7::u8::.pointer (some ⟨TB,0,none⟩)::u10::.pointer (some ⟨MB,0,none⟩)::u12::u13::u14::u15::u16::u17::u18::u19::u20::u21::u22::u23::u24::u25::u26::u27::u28::u29::u30::u31::u32::u33::u34::u35::u36::u37::u38::u39::u40::u41::u42::u43::u44::u45::u46::u47::u48::u49::u50::u51::u52::u53::u54::u55::u56::u57::u58::u59::u60::u61::u62::u63::u64::u65::u66::u67::u68::u69::u70::u71::u72::u73::u74::u75::u76::u77::u78::u79::u80::u81::u82::u83::u84::u85::u86::u87::u88::u89::u90::u91::u92::u93::u94::u95::u96::u97::u98::u99::u100::u101::u102::u103::u104::u105::u106::u107::u108::u109::u110::u111::u112::u113::u114::u115::u116::u117::u118::u119::u120::u121::u122::u123::u124::u125::u126::u127::u128::u129::u130::u131::u132::u133::u134::u135::u136::u137::u138::u139::u140::u141::u142::u143::u144::u145::u146::u147::u148::u149::u150::u151::u152::u153::u154::u155::u156::u157::u158::u159::u160::u161::u162::u163::u164::u165::u166::u167::u168::u169::u170::u171::u172::u173::u174::u175::u176::u177::u178::y179::y180::y181::y182::y183::y184::y185::y186::y187::y188::y189::y190::.bool false::u192::u193::u194::u195::[]),[]⟩ w')) :
 Code.wp Tryz.prog (regAt Tryz.f8 43) Q ⟨List.toArray (u0::u1::u2::u3::u4::u5::u6::u7::u8::.pointer (some ⟨TB,0,none⟩)::u10::.pointer (some ⟨MB,0,none⟩)::u12::u13::u14::u15::u16::u17::u18::u19::u20::u21::u22::u23::u24::u25::u26::u27::u28::u29::u30::u31::u32::u33::u34::u35::u36::u37::u38::u39::u40::u41::u42::u43::u44::u45::u46::u47::u48::u49::u50::u51::u52::u53::u54::u55::u56::u57::u58::u59::u60::u61::u62::u63::u64::u65::u66::u67::u68::u69::u70::u71::u72::u73::u74::u75::u76::u77::u78::u79::u80::u81::u82::u83::u84::u85::u86::u87::u88::u89::u90::u91::u92::u93::u94::u95::u96::u97::u98::u99::u100::u101::u102::u103::u104::u105::u106::u107::u108::u109::u110::u111::u112::u113::u114::u115::u116::u117::u118::u119::u120::u121::u122::u123::u124::u125::u126::u127::u128::u129::u130::u131::u132::u133::u134::u135::u136::u137::u138::u139::u140::u141::u142::u143::u144::u145::u146::u147::u148::u149::u150::u151::u152::u153::u154::u155::u156::u157::u158::u159::u160::u161::u162::u163::u164::u165::u166::u167::u168::u169::u170::u171::u172::u173::u174::u175::u176::u177::u178::u179::u180::u181::u182::u183::u184::u185::u186::u187::u188::u189::u190::u191::u192::u193::u194::u195::[]),[]⟩ w1:=by
 conv=>arg 2;whnf
 obtain ⟨y,rfl⟩:=hE
 obtain ⟨a,r,A,m,d,l,G1,G2,RO,hT⟩:=HT.out
 have HST:=Lib.hid hT
 have H1:=Lib.hid (show TAB w w1 TB a (([y]++([.blk MB 70 (rcells r A m d),.row 22 1 kA k kc (G1.map gV),.row 22 1 gA k gc (G2.map gV)]++(G1.map gIT++G2.map gIT)))++RO) from hT.tab)
 have HM:=Lib.hid hT.refs
 have HNOW:=Lib.hid hT.refs.rel.now
 have hes:=hT.refs.rel.gs
 rw [<- hT.refs.mem.es] at hes
 have HGV:=Lib.hid (gvs_rel hes)
 have HLM:=Lib.hid hT.refs.mem.row.len
 have HGL:=Lib.hid (show a.gs.length=m by rw [hes.len,List.length_map];exact HLM.out)
 have HB:=Lib.hid (show ∀ W,SP w W (([y]++([.blk MB 70 (rcells r A m d),.row 22 1 kA k kc (G1.map gV),.row 22 1 gA k gc (G2.map gV)]++(G1.map gIT++G2.map gIT)))++RO)->BLOCK W MB 70 (rcells r A m d) from fun W h=>h.blk 1 rfl)
 clear hT hes HT
 refine wp_region_noPanic ?_
 refine wp_region_held_drew (S:=(fun W=>BLOCK W MB 70 (rcells r A m d))) (by kernel_rfl) (HB.out _ H1.out.drew.right) (fun hHeld=>?_)
 have H2:=Lib.hid H1.out.drew
 have HM2:=Lib.hid (HM.out.keep (show SP w w1 RO from H1.out.right.right) (show SP w w1.drew RO from H2.out.right.right) (fun y hy=>hy) (Nat.le_refl _))
 generalize w1.drew=w2 at H2 HM2 hHeld ⊢
 clear H1 HM
 refine' tk (i:=0) rfl ?U1 ?V1
 case U1=>intro w' hSw;(try dsimp only at hSw);go_simp;try (with_reducible rfl)
 try simp only [Act.put,jA,jB,jC]
 refine' tk (i:=2) rfl ?U2 ?V2
 case U2=>intro w' hSw;(try dsimp only at hSw);go_simp;try (with_reducible rfl)
 try simp only [Act.put,jA,jB,jC]
 refine' take_lit (i:=3) (v:=.int .i64 r.now) rfl (by kernel_rfl) (by kernel_rfl) (by kernel_rfl) (fun _ _ _ h=>h) (Or.inl ⟨by rfl,?yy3⟩) (by assumption) ?rr3
 case yy3=>intro w' hSw;have x2 : w'.cell? ⟨MB,2,none⟩=some (.int .i64 r.now):=BLOCK.cell hSw 2;go_simp
 try simp only [Act.put,jA,jB,jC]
 refine rdy [1] ?_
 refine cons_lit rfl (fun K hK=>?ss1x4) AllReadyH.nil
 case ss1x4 =>
  go_simp
  refine (tnow H2.out).mono ?_
  rintro e v ⟨rfl,hv⟩
  rw [hv,HNOW.out]
  clear hv v
  refine hK.out _ _ (by exact hHeld) (fun hHeld=>?_)
  clear hK K
  try simp only [Act.put,jA,jB,jC]
  refine' take_lit (i:=4) (v:=.bool false) rfl (by kernel_rfl) (by kernel_rfl) (by kernel_rfl) (fun _ _ _ h=>h) (Or.inl ⟨by rfl,?yy5⟩) (by assumption) ?rr5
  case yy5=>intro w' hSw;go_simp
  try simp only [Act.put,jA,jB,jC]
  refine' tk (i:=5) rfl ?U7 ?V7
  case U7=>intro w' hSw;(try dsimp only at hSw);go_simp;try (with_reducible rfl)
  try simp only [Act.put,jA,jB,jC]
  refine' tk (i:=6) rfl ?U8 ?V8
  case U8=>intro w' hSw;(try dsimp only at hSw);go_simp;try (with_reducible rfl)
  try simp only [Act.put,jA,jB,jC]
  refine' take_lit (i:=8) (v:=.agg (rcells r A m d)) rfl (by kernel_rfl) (by kernel_rfl) (by kernel_rfl) (fun _ _ _ h=>h) (Or.inl ⟨by rfl,?yy6⟩) (by assumption) ?rr6
  case yy6=>intro w' hSw;exact exec_load_row 70 _ rfl MB rfl 70 (rcells r A m d) (0,0) _ hSw Tryz.underlying70 rfl (by kernel_rfl)
  try simp only [Act.put,jA,jB,jC]
  refine rdy [7] ?_
  refine cons_lit rfl (fun K hK=>?ss7x9) AllReadyH.nil
  case ss7x9 =>
   go_simp
   refine (tgroups H2.out).mono ?_
   rintro e w3 ⟨GA,gcp,rfl,H3⟩
   have HM3:=Lib.hid (HM2.out.keep (show SP w w2 RO from H2.out.right.right) (show SP w w3 RO from H3.right.tail.right) (fun y hy=>hy) (Nat.le_refl _))
   rw [HGL.out] at H3 ⊢
   have H3:=Lib.hid H3
   clear H2 HM2
   refine hK.out _ _ (by exact HB.out _ H3.out.right.tail) (fun hHeld=>?_)
   clear hK K
   try simp only [Act.put,jA,jB,jC]
   refine rdy [9] ?_
   refine cons_lit rfl (fun K hK=>?ss9x10) AllReadyH.nil
   case ss9x10 =>
    go_simp
    have hgr:=r7groups_any r A m d l w3 HM3.out.mem (by have:=HM3.out.hm;omega)
    rw [val_rcells] at hgr
    refine hgr.mono ?_
    rintro e w4 ⟨GB,gd,rfl,hS⟩
    have H4:=Lib.hid (H3.out.next hS.bel)
    have HM4:=Lib.hid (HM3.out.keep (show SP w w3 RO from H3.out.right.tail.right) (show SP w w4 RO from H4.out.right.tail.right) (fun y hy=>hy) (Nat.le_refl _))
    have HGR:=Lib.hid (And.intro (show GROW w4 GA l from grow_of (by have h1:=H4.out.right.row 0 rfl;rw [HGV.out] at h1;exact h1) HLM.out) (show GROW w4 GB l from grow_of (hS.row 0 rfl) HLM.out))
    clear hgr hS H3 HM3
    refine hK.out _ _ (by exact HB.out _ H4.out.right.tail) (fun hHeld=>?_)
    clear hK K
    try simp only [Act.put,jA,jB,jC]
    refine rdy [10] ?_
    refine cons_lit rfl (fun K hK=>?ss10x11) AllReadyH.nil
    case ss10x11 =>
     go_simp
     refine (groups7_yes GA GB m gcp gd l w4 HGR.out.1 HGR.out.2 HLM.out (by have:=HM4.out.hm;omega)).mono ?_
     rintro e w5 ⟨rfl,mm,rfl⟩
     have H5:=Lib.hid (H4.out.tail.drewN mm)
     have HM5:=Lib.hid (HM4.out.keep (show SP w w4 RO from H4.out.right.tail.right) (show SP w (w4.drewN mm) RO from H5.out.right.right) (fun y hy=>hy) (Nat.le_refl _))
     generalize w4.drewN mm=w6 at H5 HM5 ⊢
     clear H4 HM4 HGR
     refine hK.out _ _ (by exact HB.out _ H5.out.right) (fun hHeld=>?_)
     clear hK K
     try simp only [Act.put,jA,jB,jC]
     refine' tk (i:=11) rfl ?U12 ?V12
     case U12=>intro w' hSw;(try dsimp only at hSw);go_simp;try (with_reducible rfl)
     try simp only [Act.put,jA,jB,jC]
     refine' tk (i:=12) rfl ?U13 ?V13
     case U13=>intro w' hSw;(try dsimp only at hSw);go_simp;try (with_reducible rfl)
     try simp only [Act.put,jA,jB,jC]
     refine wpAnyH_done (by kernel_rfl) ?_ _
     refine NoPanic.normal ?_
     exact HQ.out _ _ _ _ _ _ _ _ _ _ _ _ _ ⟨a,r,A,m,d,l,G1,G2,RO,H5.out,HM5.out,HST.out.k1,HST.out.k2,HST.out.same,HST.out.len,HST.out.hk⟩
end Go.Proofs.YtljbfnabnkkfeaaGreat
namespace Go.Proofs.YtljbfnabnkkfeaaGreat
open Go.RowKit
set_option maxHeartbeats 4000000 in
set_option maxRecDepth 100000 in
theorem tells_16 {u0 u1 u3 u4 u5 u6 u7 u8 u10 u12 u15 u16 u17 u18 u19 u20 u21 u22 u23 u24 u25 u26 u27 u28 u29 u30 u31 u32 u33 u34 u35 u36 u37 u38 u39 u40 u41 u42 u43 u44 u45 u46 u47 u48 u49 u50 u51 u52 u53 u54 u55 u56 u57 u58 u59 u60 u61 u62 u63 u64 u65 u66 u67 u68 u69 u70 u71 u72 u73 u74 u75 u76 u77 u78 u79 u80 u81 u82 u83 u84 u85 u86 u87 u88 u89 u90 u91 u92 u93 u94 u95 u96 u97 u98 u99 u100 u101 u102 u103 u104 u105 u106 u107 u108 u109 u110 u111 u112 u113 u114 u115 u116 u117 u118 u119 u120 u121 u122 u123 u124 u125 u126 u127 u128 u129 u130 u131 u132 u133 u134 u135 u136 u137 u138 u139 u140 u141 u142 u143 u144 u145 u146 u147 u148 u149 u150 u151 u152 u153 u154 u155 u156 u157 u158 u159 u160 u161 u162 u163 u164 u165 u166 u167 u168 u169 u170 u171 u172 u173 u174 u175 u176 u177 u178 u179 u180 u181 u182 u183 u184 u185 u186 u187 u188 u189 u190 u191 u192 u193 u194 u195 : Value} (w : World) (TB MB : Nat) (LA : Option Addr) (ln lc : Nat) (lo : List OP) (HO : Hid (∀ W,Below w.heap.size w W->OPS W LA ln lo)) (hln : ln<=40) (HX4 : Hid (∀ x ∈ lo,x.n<=400)) (w1 : World) (HT : Hid (TSTE w w1 TB MB [] none 0 0 none 0 0)) :
 Code.wp Tryz.prog (sufAt Tryz.f8 16) (bodyPost Tryz.prog Tryz.f8 (fun e w'=>e = .returned (.bool true)∧Below w.heap.size w w')) ⟨List.toArray (u0::u1::.slice LA ln lc::u3::u4::u5::u6::u7::u8::.pointer (some ⟨TB,0,none⟩)::u10::.pointer (some ⟨MB,0,none⟩)::u12::.slice none 0 0::.slice none 0 0::u15::u16::u17::u18::u19::u20::u21::u22::u23::u24::u25::u26::u27::u28::u29::u30::u31::u32::u33::u34::u35::u36::u37::u38::u39::u40::u41::u42::u43::u44::u45::u46::u47::u48::u49::u50::u51::u52::u53::u54::u55::u56::u57::u58::u59::u60::u61::u62::u63::u64::u65::u66::u67::u68::u69::u70::u71::u72::u73::u74::u75::u76::u77::u78::u79::u80::u81::u82::u83::u84::u85::u86::u87::u88::u89::u90::u91::u92::u93::u94::u95::u96::u97::u98::u99::u100::u101::u102::u103::u104::u105::u106::u107::u108::u109::u110::u111::u112::u113::u114::u115::u116::u117::u118::u119::u120::u121::u122::u123::u124::u125::u126::u127::u128::u129::u130::u131::u132::u133::u134::u135::u136::u137::u138::u139::u140::u141::u142::u143::u144::u145::u146::u147::u148::u149::u150::u151::u152::u153::u154::u155::u156::u157::u158::u159::u160::u161::u162::u163::u164::u165::u166::u167::u168::u169::u170::u171::u172::u173::u174::u175::u176::u177::u178::u179::u180::u181::u182::u183::u184::u185::u186::u187::u188::u189::u190::u191::u192::u193::u194::u195::[]),[]⟩ w1:=by
 conv=>arg 2;whnf
 go_wp2_with fail
 go_loopw [13,14,16,17,18,19,20,21,22,23,24,25,66] (fun s13 s14 _ _ _ _ _ _ _ _ _ _ s66 wr=>∃ (i : Nat) (kA : Option Addr) (k kc : Nat) (gA : Option Addr) (gc : Nat),i<=ln∧s13 = .slice kA k kc∧s14 = .slice gA k gc∧s66 = .int .i64 (i : Int)∧TSTE w wr TB MB [] kA k kc gA gc i) (fun _ _ _ _ _ _ _ _ _ _ _ _ s66 _=>ln - (intOf s66).toNat)
 case atStart=>exact ⟨0,none,0,0,none,0,Nat.zero_le _,rfl,rfl,rfl,HT.out⟩
 case round =>
  obtain ⟨i,kA,k,kc,gA,gc,hi,rfl,rfl,rfl,hT0⟩:=hrel
  have H1:=Lib.hid hT0
  clear hT0 HT
  by_cases hlt : i < ln
  case neg =>
   have t1 : ¬ (i : Int) < (ln : Int):=by omega
   obtain ⟨a,r,A,m,d,l,G1,G2,RO,hT⟩:=H1.out
   have hsp:=hT.tab.right
   have hlen2 : ∀ g ∈ G2,g.2.length<=100000:=fun g hg=>by
    have h1 : g.2 ∈ G2.map (·.2):=List.mem_map.2 ⟨g,hg,rfl⟩
    rw [<- hT.same] at h1
    obtain ⟨q,hq,e⟩:=List.mem_map.1 h1
    rw [<- e];exact hT.len q hq
   have hR1:=rdl_row (G:=G1) hsp (LA:=kA) (n:=k) (c:=kc) (by simp) (fun g hg=>by simp only [List.nil_append,List.cons_append,List.mem_cons,List.mem_append];exact .inr (.inr (.inr (.inl (.inl (List.mem_map.2 ⟨g,hg,rfl⟩)))))) hT.len
   have hR2:=rdl_row (G:=G2) hsp (LA:=gA) (n:=k) (c:=gc) (by simp) (fun g hg=>by simp only [List.nil_append,List.cons_append,List.mem_cons,List.mem_append];exact .inr (.inr (.inr (.inl (.inr (List.mem_map.2 ⟨g,hg,rfl⟩)))))) hlen2
   have HLI:=Lib.hid (lists7_yes kA gA k kc gc G1 G2 wr hR1 hR2 hT.k1 hT.same (by have:=hT.hk;omega))
   have HB:=Lib.hid hsp.bel
   clear hR1 hR2 hlen2 hsp hT
   go_wp2_with fail
   refine HLI.out.mono ?_
   rintro e w4 ⟨rfl,m4,rfl⟩
   go_wp2_with fail
   go_ret
   exact ⟨rfl,below_drewN HB.out _⟩
  have t1 : (i : Int) < (ln : Int):=by omega
  have t0 : (0 : Int)<=(i : Int):=by omega
  obtain ⟨a,r,A,m,d,l,G1,G2,RO,hT⟩:=H1.out
  have hops:=HO.out wr hT.tab.bel
  obtain ⟨x,hx⟩ : ∃ x,lo[i]?=some x:=⟨_,List.getElem?_eq_getElem (by rw [hops.len];exact hlt)⟩
  obtain ⟨g,off,rfl,hg,hc⟩:=hops.at_ i x hx
  have RA:=Lib.hid (show wr.rangeAt g (off + i * 3) [.bool x.put,.int .i64 x.now,.slice x.A x.n x.c] from fun j v hv=>hc j v hv)
  have HX:=Lib.hid (show ∀ W,Below w.heap.size w W->OPOK W x from fun W h=>(HO.out W h).ok x (List.mem_of_getElem? hx))
  have hx4:=HX4.out x (List.mem_of_getElem? hx)
  have e6 : IntKind.i64.wrap ((i : Int) + 1)=(i : Int) + 1:=IntWalk.i64_in _ (by omega)
  obtain ⟨XB,hXB⟩ : ∃ b,wr.heap.size=b:=⟨_,rfl⟩
  have H2:=Lib.hid (show TSTE w (wr.alloc (.cells #[.bool x.put,.int .i64 x.now,.slice x.A x.n x.c] 36)) TB MB [.blk XB 36 #[.bool x.put,.int .i64 x.now,.slice x.A x.n x.c]] kA k kc gA gc i from
   ⟨a,r,A,m,d,l,G1,G2,RO,hT.tab.alloc 36 #[.bool x.put,.int .i64 x.now,.slice x.A x.n x.c] hXB,hT.refs.keep (show SP w wr RO from hT.tab.right.right) (show SP w _ RO from hT.tab.right.right.next ((Below.refl _ wr).alloc (Nat.le_refl _) _)) (fun y hy=>hy) (Nat.le_refl _),hT.k1,hT.k2,hT.same,hT.len,hT.hk⟩)
  have HXC:=Lib.hid (show (wr.alloc (.cells #[.bool x.put,.int .i64 x.now,.slice x.A x.n x.c] 36)).cell? ⟨XB,0,none⟩=some (.bool x.put) from (hT.tab.alloc 36 #[.bool x.put,.int .i64 x.now,.slice x.A x.n x.c] hXB).right.cell 0 rfl 0 rfl)
  clear hT hops hc hx hg H1
  go_upto_region 19 with (refine wpList_load_mid (by rfl) 36 _ (by rfl) g (off + i * 3) (by rfl) [.bool x.put,.int .i64 x.now,.slice x.A x.n x.c] _ RA.out Tryz.underlying36 rfl (by kernel_rfl) ?_)
  try rw [hXB]
  generalize hwz : wr.alloc (.cells #[.bool x.put,.int .i64 x.now,.slice x.A x.n x.c] 36)=wz at H2 HXC ⊢
  clear hwz hXB RA
  obtain ⟨pb,hpb⟩ : ∃ b,x.put=b:=⟨_,rfl⟩
  have x0 : wz.cell? ⟨XB,0,none⟩=some (.bool pb):=by rw [<- hpb];exact HXC.out
  clear hpb HXC
  cases pb
  case false =>
   go_upto_if 72 with fail
   refine tells_tick w TB MB XB x HX kA k kc gA gc i (by omega) hx4 _ H2 (Lib.hid ?_)
   intro y17 y18 y73 y74 y75 y76 y77 y78 y79 y80 y81 y82 y83 y84 y85 y86 kA2 k2 kc2 gA2 gc2 w3 hT3
   have H3:=Lib.hid hT3
   clear hT3 H2
   go_upto_region 43 with fail
   refine tells_43 w TB MB [.blk XB 36 #[.bool x.put,.int .i64 x.now,.slice x.A x.n x.c]] ⟨_,rfl⟩ kA2 k2 kc2 gA2 gc2 (i + 1) (by omega) _ H3 (Lib.hid ?_)
   intro y179 y180 y181 y182 y183 y184 y185 y186 y187 y188 y189 y190 w4 hT4
   have H4:=Lib.hid hT4
   clear hT4 H3
   go_wp2_with fail
   go_roundw
   case rel =>
    obtain ⟨a,r,A,m,d,l,G1,G2,RO,hT⟩:=H4.out
    exact ⟨i + 1,kA2,k2,kc2,gA2,gc2,by omega,rfl,rfl,by go_num,a,r,A,m,d,l,G1,G2,RO,hT.tab.tail,hT.refs,hT.k1,hT.k2,hT.same,hT.len,hT.hk⟩
   case measure=>simp [intOf];omega
  case true =>
   go_upto_if 72 with fail
   refine tells_put w TB MB XB x HX kA k kc gA gc i (by omega) hx4 _ H2 (Lib.hid ?_)
   intro y19 y20 y21 y22 y23 y24 y25 y87 y88 y89 y90 y91 y92 y93 y94 y95 y96 y97 y98 y99 y100 y101 y102 y103 y104 y105 y106 y107 y108 y109 y110 y111 y112 y113 y114 y115 y116 y117 y118 y119 y120 y121 y122 y123 y124 y125 y126 y127 y128 y129 y130 y131 y132 y133 y134 y135 y136 y137 y138 y139 y140 y141 y142 y143 y144 y145 y146 y147 y148 y149 y150 y151 y152 y153 y154 y155 y156 y157 y158 y159 y160 y161 y162 y163 y164 y165 y166 y167 y168 y169 y170 y171 y172 y173 y174 y175 y176 y177 y178 kA2 k2 kc2 gA2 gc2 w3 hT3
   have H3:=Lib.hid hT3
   clear hT3 H2
   go_upto_region 43 with fail
   refine tells_43 w TB MB [.blk XB 36 #[.bool x.put,.int .i64 x.now,.slice x.A x.n x.c]] ⟨_,rfl⟩ kA2 k2 kc2 gA2 gc2 (i + 1) (by omega) _ H3 (Lib.hid ?_)
   intro y179 y180 y181 y182 y183 y184 y185 y186 y187 y188 y189 y190 w4 hT4
   have H4:=Lib.hid hT4
   clear hT4 H3
   go_wp2_with fail
   go_roundw
   case rel =>
    obtain ⟨a,r,A,m,d,l,G1,G2,RO,hT⟩:=H4.out
    exact ⟨i + 1,kA2,k2,kc2,gA2,gc2,by omega,rfl,rfl,by go_num,a,r,A,m,d,l,G1,G2,RO,hT.tab.tail,hT.refs,hT.k1,hT.k2,hT.same,hT.len,hT.hk⟩
   case measure=>simp [intOf];omega
theorem relt_new (limit life : Int) : RELT ⟨limit,life,0,[]⟩ ⟨limit,life,0,[]⟩:=⟨rfl,rfl,rfl,trivial⟩
set_option maxHeartbeats 4000000 in
set_option maxRecDepth 100000 in
theorem tells7_any (limit life : Int) (LA : Option Addr) (ln lc : Nat) (lo : List OP) (w : World) (h : OPS w LA ln lo) :
 Calls Tryz.prog 8 #[.int .i64 limit,.int .i64 life,.slice LA ln lc] w fun e w'=>e = .returned (.bool true)∧Below w.heap.size w w':=by
 have HO:=Lib.hid (show ∀ W,Below w.heap.size w W->OPS W LA ln lo from fun W hb=>h.later hb)
 have HLN:=Lib.hid h.len
 clear h
 by_cases hln : 40 < ln
 ·have t1 : (40 : Int) < (ln : Int):=by omega
  go_enter Tryz.func8,Tryz.ntmps8
  go_wp2_with fail
  go_ret
  exact ⟨rfl,Below.refl _ _⟩
 have t1 : ¬ (40 : Int) < (ln : Int):=by omega
 have hln4 : ln<=40:=by omega
 clear hln
 go_enter Tryz.func8,Tryz.ntmps8
 go_wp2_with fail
 clear t1
 go_loopw [8,31] (fun _ s31 wr=>∃ i : Nat,i<=ln∧s31 = .int .i64 (i : Int)∧(∀ j,j < i->∀ x,lo[j]?=some x->x.n<=400)∧Below w.heap.size w wr) (fun _ s31 _=>ln - (intOf s31).toNat)
 case atStart=>exact ⟨0,Nat.zero_le _,rfl,fun j hj=>absurd hj (Nat.not_lt_zero _),Below.refl _ _⟩
 case round =>
  obtain ⟨i,hi,rfl,hno,hb⟩:=hrel
  have HNO:=Lib.hid hno
  have HB:=Lib.hid hb
  clear hno hb
  by_cases hlt : i < ln
  ·have t1 : (i : Int) < (ln : Int):=by omega
   have t0 : (0 : Int)<=(i : Int):=by omega
   have hops:=HO.out wr HB.out
   obtain ⟨x,hx⟩ : ∃ x,lo[i]?=some x:=⟨_,List.getElem?_eq_getElem (by rw [HLN.out];exact hlt)⟩
   obtain ⟨g,off,rfl,hg,hc⟩:=hops.at_ i x hx
   have HX:=Lib.hid hx
   have RA:=Lib.hid (show wr.rangeAt g (off + i * 3) [.bool x.put,.int .i64 x.now,.slice x.A x.n x.c] from fun j v hv=>hc j v hv)
   have e6 : IntKind.i64.wrap ((i : Int) + 1)=(i : Int) + 1:=IntWalk.i64_in _ (by omega)
   obtain ⟨XB,hXB⟩ : ∃ b,wr.heap.size=b:=⟨_,rfl⟩
   have X1:=Lib.hid ((SP.start wr).alloc' 36 #[.bool x.put,.int .i64 x.now,.slice x.A x.n x.c] hXB)
   clear hc hx hg hops
   go_upto_region 6 with (refine wpList_load_mid (by rfl) 36 _ (by rfl) g (off + i * 3) (by rfl) [.bool x.put,.int .i64 x.now,.slice x.A x.n x.c] _ RA.out Tryz.underlying36 rfl (by kernel_rfl) ?_)
   try rw [hXB]
   have HB2:=Lib.hid (HB.out.trans (((Below.refl _ wr).alloc (Nat.le_refl _) (.cells #[.bool x.put,.int .i64 x.now,.slice x.A x.n x.c] 36)).mono HB.out.size))
   generalize hwz : wr.alloc (.cells #[.bool x.put,.int .i64 x.now,.slice x.A x.n x.c] 36)=wz at X1 HB2 ⊢
   clear hwz hXB RA
   have x2 : wz.cell? ⟨XB,2,none⟩=some (.slice x.A x.n x.c):=X1.out.cell 0 rfl 2 rfl
   by_cases h4 : x.n<=400
   ·have t4 : ¬ (400 : Int) < (x.n : Int):=by omega
    go_wp2_with fail
    go_roundw
    case rel =>
     refine ⟨i + 1,by omega,by go_num,fun j hj y hy=>?_,HB2.out⟩
     by_cases hji : j=i
     ·subst hji
      obtain rfl : x=y:=Option.some.inj (HX.out.symm.trans hy)
      exact h4
     ·exact HNO.out j (by omega) y hy
    case measure=>simp [intOf];omega
   ·have t4 : (400 : Int) < (x.n : Int):=by omega
    go_wp2_with fail
    go_ret
    exact ⟨rfl,HB2.out⟩
  ·have t1 : ¬ (i : Int) < (ln : Int):=by omega
   obtain rfl : i=ln:=by omega
   have HX4:=Lib.hid (show ∀ x ∈ lo,x.n<=400 from fun x hx=>by
    obtain ⟨j,hj,rfl⟩:=List.mem_iff_getElem.1 hx
    exact HNO.out j (by have:=HLN.out;omega) _ (List.getElem?_eq_getElem hj))
   clear HNO
   have X0:=Lib.hid (show SP w wr [] from SP.mk' HB.out (fun x hx=>by cases hx) List.Pairwise.nil)
   by_cases hok : (1<=limit∧limit<=64)∧1<=life∧life<=16777215
   ·go_wp2_with fail
    refine (tnew limit life X0.out hok.1 hok.2).mono ?_
    rintro e w2 ⟨TB,rfl,hT⟩
    have H2:=Lib.hid hT
    clear hT X0
    go_wp2_with fail
    refine (r7new_yes limit life w2 hok.1 hok.2).mono ?_
    rintro e w3 ⟨rfl,hb⟩
    have H3:=Lib.hid (H2.out.next hb)
    clear hb H2
    obtain ⟨MB,hMB⟩ : ∃ b,w3.heap.size=b:=⟨_,rfl⟩
    have H4:=Lib.hid (H3.out.alloc 70 #[.int .i64 limit,.int .i64 life,.int .i64 0,.slice none 0 0] hMB)
    have H5:=Lib.hid (show TSTE w (w3.alloc (.cells #[.int .i64 limit,.int .i64 life,.int .i64 0,.slice none 0 0] 70)) TB MB [] none 0 0 none 0 0 from
     ⟨⟨limit,life,0,[]⟩,⟨limit,life,0,[]⟩,none,0,0,[],[],[],[],
      (H4.out.liftF (R':=[.blk MB 70 (rcells ⟨limit,life,0,[]⟩ none 0 0),.row 22 1 none 0 0 [],.row 22 1 none 0 0 []]) (fun C h=>by
       have h1:=((h.pushRow 22 1).rot.pushRow 22 1).rot
       exact SP.pickT (A:=[_,_,_]) (B:=[_,_,_]) (C:=C) h1 [2,0,1] rfl (by decide))),
      ⟨relt_new limit life,⟨EROW.nil _,rfl⟩,EFT.nil _ _,Nat.zero_le _,(fun x hx=>by cases hx)⟩,rfl,rfl,rfl,(fun x hx=>by cases hx),Nat.le_refl _⟩)
    go_upto_region 11 with fail
    try rw [hMB]
    generalize w3.alloc (.cells #[.int .i64 limit,.int .i64 life,.int .i64 0,.slice none 0 0] 70)=w4 at H5 ⊢
    clear H3 H4 hMB
    go_upto_region 15 with fail
    go_cut [13,14] (fun s13 s14 wx=>s13 = .slice none 0 0∧s14 = .slice none 0 0∧wx=w4)
    case first =>
     go_wp2_with fail
     go_meet
     exact ⟨rfl,rfl,rfl⟩
    case rest =>
    obtain ⟨rfl,rfl,hwc⟩:=hcut
    rw [hwc]
    clear hwc wc
    go_step
    exact tells_16 w TB MB LA i lc lo HO hln4 HX4 _ H5
   ·go_wp2_with fail
    refine (new_no wr limit life hok).mono ?_
    rintro e w2 ⟨rfl,hw⟩
    obtain rfl:=hw
    go_wp2_with fail
    refine (r7new_no limit life _ hok).mono ?_
    rintro e w3 ⟨rfl,hb⟩
    have HB3:=Lib.hid (HB.out.trans (hb.mono HB.out.size))
    clear hb
    go_wp2_with fail
    go_ret
    exact ⟨rfl,HB3.out.trans (((Below.refl _ w3).alloc (Nat.le_refl _) _).mono HB3.out.size)⟩
structure LK (w : World) (G k : Nat) (l : List OP) : Prop where
 len : l.length=k
 lt : G < w.heap.size
 at_ : ∀ i x,l[i]?=some x->w.cell? ⟨G,i,none⟩=some (.slice x.A x.n x.c)
 ok : ∀ x ∈ l,OPOK w x
theorem LK.later {w w' : World} {G k : Nat} {l : List OP} (h : LK w G k l) (hb : Below w.heap.size w w') : LK w' G k l :=
 ⟨h.len,Nat.lt_of_lt_of_le h.lt hb.size,fun i x hx=>(hb.cell (p:=⟨G,i,none⟩) h.lt).trans (h.at_ i x hx),fun x hx=>(h.ok x hx).later hb⟩
theorem LK.get {w : World} {G k : Nat} {l : List OP} (h : LK w G k l) {i : Nat} (hi : i < k) : ∃ x,l[i]?=some x :=
 ⟨l[i]'(by rw [h.len];exact hi),List.getElem?_eq_getElem _⟩
def OP.at_ (x : OP) (b : Bool) (t : Int) : OP:={ x with put:=b,now:=t }
theorem OPOK.at_ {w : World} {x : OP} (h : OPOK w x) (b : Bool) {t : Int} (ht : -9223372036854775808<=t∧t<=9223372036854775807) : OPOK w (x.at_ b t):=⟨h.rd,h.bd,h.le,ht⟩
def OP.tick (t : Int) : OP:=⟨false,t,none,0,0,[]⟩
theorem OPOK.tick (w : World) {t : Int} (ht : -9223372036854775808<=t∧t<=9223372036854775807) : OPOK w (OP.tick t):=⟨RD.nil,(fun x hx=>by cases hx),Nat.le_refl _,ht⟩
theorem op_len (x : OP) : x.cells.length=3:=rfl
theorem ops_of_row {w : World} {base g n c : Nat} {e : TypeId} {l : List OP} (h : w.ownsRow base e 3 (.slice (some ⟨g,0,none⟩) n c) n (l.flatMap OP.cells)) (hl : l.length=n) (hok : ∀ x ∈ l,OPOK w x) : OPS w (some ⟨g,0,none⟩) n l where
 len:=hl
 at_:=fun i x hx=>by
  have hi : i < n:=by rw [<- hl];exact (List.getElem?_eq_some_iff.1 hx).1
  have hg : ∀ k,k < n * 3->w.cell? ⟨g,k,none⟩=(l.flatMap OP.cells)[k]?:=fun k hk=>World.ownsRow.cellAt h k hk
  refine ⟨g,0,rfl,?_,fun j v hv=>?_⟩
  ·have h1:=hg (i * 3 + 0) (by omega)
   rw [flat_get OP.cells 3 op_len l i x hx 0 (by omega)] at h1
   refine Classical.byContradiction fun hn=>?_
   have h2 : w.heap[g]?=none:=Array.getElem?_eq_none (by omega)
   unfold World.cell? at h1
   rw [h2] at h1
   cases h1
  ·have hj : j < 3:=(List.getElem?_eq_some_iff.1 hv).1
   rw [Nat.zero_add,hg (i * 3 + j) (by omega),flat_get OP.cells 3 op_len l i x hx j hj]
   exact hv
 ok:=hok
attribute [local go_sem ↓] Go.wp_at_zero Go.wp_at_succ
structure sm2P (w0 : World) (G k k0 k1 k2 k3 k4 q1 q2 : Nat) (x0 x1 x2 x3 : OP) (RO : List IT) : Prop where
 hk : k < 4096
 r0 : k % 8=k0
 s1 : k / 8=q1
 r1 : q1 % 8=k1
 s2 : k / 64=q2
 r2 : q2 % 8=k2
 r4 : k / 512=k4
 r3 : k % 3=k3
 c0 : ∀ W,SP w0 W RO->W.cell? ⟨G,k0,none⟩=some (.slice x0.A x0.n x0.c)∧W.cell? ⟨G,k1,none⟩=some (.slice x1.A x1.n x1.c)∧W.cell? ⟨G,k2,none⟩=some (.slice x2.A x2.n x2.c)∧W.cell? ⟨G,k4,none⟩=some (.slice x3.A x3.n x3.c)
def sm2S (w0 : World) (G k k0 k1 k2 k3 k4 q1 q2 : Nat) (x0 x1 x2 x3 : OP) (RO : List IT) : World->Prop:=fun W=>W.cell? ⟨G,k0,none⟩=some (.slice x0.A x0.n x0.c)∧W.cell? ⟨G,k1,none⟩=some (.slice x1.A x1.n x1.c)∧W.cell? ⟨G,k2,none⟩=some (.slice x2.A x2.n x2.c)∧W.cell? ⟨G,k4,none⟩=some (.slice x3.A x3.n x3.c)
set_option maxRecDepth 100000 in
def sm2F (w0 : World) (G k k0 k1 k2 k3 k4 q1 q2 : Nat) (x0 x1 x2 x3 : OP) (RO : List IT) (Fr : Value->Value->Value->Value->Value->Value->Value->Value->Value->Value->Value->Value->Value->Value->Value->Value->Value->Value->Value->Value->Value->Value->Value->Value->Value->Value->Value->Value->Value->Value->Value->Act) : Prop:=∃ u : Nat->Value,∀ y15 y86 y87 y88 y89 y90 y91 y92 y93 y94 y95 y96 y97 y98 y99 y100 y101 y102 y103 y104 y105 y106 y107 y108 y109 y110 y111 y112 y113 y114 y115,Fr y15 y86 y87 y88 y89 y90 y91 y92 y93 y94 y95 y96 y97 y98 y99 y100 y101 y102 y103 y104 y105 y106 y107 y108 y109 y110 y111 y112 y113 y114 y115=⟨List.toArray (u 0::u 1::u 2::u 3::u 4::u 5::u 6::u 7::u 8::u 9::u 10::u 11::u 12::.slice (some ⟨G,0,none⟩) 8 8::.int .i64 (k : Int)::y15::u 16::u 17::u 18::u 19::u 20::u 21::u 22::u 23::u 24::u 25::u 26::u 27::u 28::u 29::u 30::u 31::u 32::u 33::u 34::u 35::u 36::u 37::u 38::u 39::u 40::u 41::u 42::u 43::u 44::u 45::u 46::u 47::u 48::u 49::u 50::u 51::u 52::u 53::u 54::u 55::u 56::u 57::u 58::u 59::u 60::u 61::u 62::u 63::u 64::u 65::u 66::u 67::u 68::u 69::u 70::u 71::u 72::u 73::u 74::u 75::u 76::u 77::u 78::u 79::u 80::u 81::u 82::u 83::u 84::u 85::y86::y87::y88::y89::y90::y91::y92::y93::y94::y95::y96::y97::y98::y99::y100::y101::y102::y103::y104::y105::y106::y107::y108::y109::y110::y111::y112::y113::y114::y115::u 116::u 117::u 118::u 119::u 120::u 121::u 122::u 123::u 124::u 125::u 126::u 127::u 128::u 129::u 130::u 131::u 132::u 133::u 134::u 135::u 136::u 137::u 138::u 139::u 140::u 141::u 142::u 143::u 144::u 145::u 146::u 147::u 148::u 149::u 150::u 151::u 152::u 153::u 154::u 155::u 156::u 157::u 158::u 159::u 160::u 161::u 162::u 163::u 164::u 165::u 166::u 167::u 168::u 169::u 170::u 171::u 172::u 173::u 174::u 175::u 176::u 177::u 178::u 179::u 180::u 181::u 182::u 183::u 184::u 185::u 186::u 187::u 188::u 189::u 190::u 191::u 192::u 193::u 194::u 195::u 196::u 197::u 198::u 199::u 200::u 201::u 202::u 203::u 204::u 205::u 206::[]),[]⟩
def sm2R (w0 : World) (G k k0 k1 k2 k3 k4 q1 q2 : Nat) (x0 x1 x2 x3 : OP) (RO : List IT) (Q : Exit->Act->World->Prop) (Fr : Value->Value->Value->Value->Value->Value->Value->Value->Value->Value->Value->Value->Value->Value->Value->Value->Value->Value->Value->Value->Value->Value->Value->Value->Value->Value->Value->Value->Value->Value->Value->Act) : Prop:=∀ (y86 y87 y88 y89 y90 y91 y92 y93 y94 y95 y96 y97 y98 y99 y100 y101 y102 y103 y104 y105 y106 y107 y108 y109 y110 y111 y112 y113 y114 y115 : Value) (gO : Nat) (w' : World),SP w0 w' ([.row 36 3 (some ⟨gO,0,none⟩) 4 4 [.bool true,.int .i64 1,.slice x0.A x0.n x0.c,.bool true,.int .i64 2,.slice x1.A x1.n x1.c,.bool true,.int .i64 (2 + (k3 : Int)),.slice x2.A x2.n x2.c,.bool true,.int .i64 6,.slice x3.A x3.n x3.c]]++RO)->Q .normal (Fr (.slice (some ⟨gO,0,none⟩) 4 4) y86 y87 y88 y89 y90 y91 y92 y93 y94 y95 y96 y97 y98 y99 y100 y101 y102 y103 y104 y105 y106 y107 y108 y109 y110 y111 y112 y113 y114 y115) w'
def sm2H (w0 : World) (G k k0 k1 k2 k3 k4 q1 q2 : Nat) (x0 x1 x2 x3 : OP) (RO : List IT) (Q : Exit->Act->World->Prop) (Fr : Value->Value->Value->Value->Value->Value->Value->Value->Value->Value->Value->Value->Value->Value->Value->Value->Value->Value->Value->Value->Value->Value->Value->Value->Value->Value->Value->Value->Value->Value->Value->Act) : Prop:=Hid (sm2P w0 G k k0 k1 k2 k3 k4 q1 q2 x0 x1 x2 x3 RO)∧sm2F w0 G k k0 k1 k2 k3 k4 q1 q2 x0 x1 x2 x3 RO Fr∧Hid (sm2R w0 G k k0 k1 k2 k3 k4 q1 q2 x0 x1 x2 x3 RO Q Fr)
section
variable {Q : Exit->Act->World->Prop} {y15 y86 y87 y88 y89 y90 y91 y92 y93 y94 y95 y96 y97 y98 y99 y100 y101 y102 y103 y104 y105 y106 y107 y108 y109 y110 y111 y112 y113 y114 y115 : Value} {w0 : World} {G k k0 k1 k2 k3 k4 q1 q2 : Nat} {x0 x1 x2 x3 : OP} {RO : List IT} {Fr : Value->Value->Value->Value->Value->Value->Value->Value->Value->Value->Value->Value->Value->Value->Value->Value->Value->Value->Value->Value->Value->Value->Value->Value->Value->Value->Value->Value->Value->Value->Value->Act}
set_option maxHeartbeats 1000000 in
set_option maxRecDepth 100000 in
theorem sm2s1 (H0 : sm2H w0 G k k0 k1 k2 k3 k4 q1 q2 x0 x1 x2 x3 RO Q Fr) (gO : Nat) (w : World) (X : Hid (SP w0 w ([.row 36 3 (some ⟨gO,0,none⟩) 4 4 [.bool true,.int .i64 1,.slice x0.A x0.n x0.c,.bool true,.int .i64 2,.slice x1.A x1.n x1.c,.bool true,.int .i64 (2 + (k3 : Int)),.slice x2.A x2.n x2.c,.bool true,.int .i64 6,.slice x3.A x3.n x3.c]]++RO))) :
 wpAnyH Tryz.prog .any (opsAt Tryz.f3 16) (NoPanic Q) (sm2S w0 G k k0 k1 k2 k3 k4 q1 q2 x0 x1 x2 x3 RO) 0 #[true,true,true,true,true,true,true,true,true,true,true,true,true,true,true,true,true,true,true,true,true,true,true,true,true,true,true,true,true,true,true] (Fr (.slice (some ⟨gO,0,none⟩) 4 4) y86 y87 y88 y89 y90 y91 y92 y93 y94 y95 y96 y97 y98 y99 y100 y101 y102 y103 y104 y105 y106 y107 y108 y109 y110 y111 y112 y113 y114 y115) w:=by
 have H1:=Lib.hid H0
 obtain ⟨HP,⟨u,hF⟩,HQ⟩:=H0
 rw [hF]
 obtain ⟨hk,r0,s1,r1,s2,r2,r4,r3,c0⟩:=HP.out
 have b0 : (k0 : Int) < 8:=by omega
 have b1 : (k1 : Int) < 8:=by omega
 have b2 : (k2 : Int) < 8:=by omega
 have b4 : (k4 : Int) < 8:=by omega
 have z0 : (0 : Int)<=(k0 : Int):=by omega
 have z1 : (0 : Int)<=(k1 : Int):=by omega
 have z2 : (0 : Int)<=(k2 : Int):=by omega
 have z4 : (0 : Int)<=(k4 : Int):=by omega
 have m0 : (k : Int).tmod 8=(k0 : Int):=by rw [Int.tmod_eq_emod_of_nonneg (by omega)];omega
 have m3 : (k : Int).tmod 3=(k3 : Int):=by rw [Int.tmod_eq_emod_of_nonneg (by omega)];omega
 have m1 : (q1 : Int).tmod 8=(k1 : Int):=by rw [Int.tmod_eq_emod_of_nonneg (by omega)];omega
 have m2 : (q2 : Int).tmod 8=(k2 : Int):=by rw [Int.tmod_eq_emod_of_nonneg (by omega)];omega
 have d1 : (k : Int).tdiv 8=(q1 : Int):=by rw [Int.tdiv_eq_ediv_of_nonneg (by omega)];omega
 have d2 : (k : Int).tdiv 64=(q2 : Int):=by rw [Int.tdiv_eq_ediv_of_nonneg (by omega)];omega
 have d4 : (k : Int).tdiv 512=(k4 : Int):=by rw [Int.tdiv_eq_ediv_of_nonneg (by omega)];omega
 have e1 : IntKind.i64.wrap (q1 : Int)=(q1 : Int):=IntWalk.i64_in _ (by omega)
 have e2 : IntKind.i64.wrap (q2 : Int)=(q2 : Int):=IntWalk.i64_in _ (by omega)
 have e4 : IntKind.i64.wrap (k4 : Int)=(k4 : Int):=IntWalk.i64_in _ (by omega)
 have e0 : IntKind.i64.wrap (k0 : Int)=(k0 : Int):=IntWalk.i64_in _ (by omega)
 have e5 : IntKind.i64.wrap (k1 : Int)=(k1 : Int):=IntWalk.i64_in _ (by omega)
 have e6 : IntKind.i64.wrap (k2 : Int)=(k2 : Int):=IntWalk.i64_in _ (by omega)
 have e3 : IntKind.i64.wrap (k3 : Int)=(k3 : Int):=IntWalk.i64_in _ (by omega)
 have e7 : IntKind.i64.wrap (2 + (k3 : Int))=2 + (k3 : Int):=IntWalk.i64_in _ (by omega)
 clear hk r0 s1 r1 s2 r2 r4 r3
 have hHeld : (sm2S w0 G k k0 k1 k2 k3 k4 q1 q2 x0 x1 x2 x3 RO) w:=by exact HP.out.c0 _ X.out.right
 refine wpAnyH_done (by kernel_rfl) ?_ _
 refine NoPanic.normal ?_
 rw [<- hF]
 exact HQ.out _ _ _ _ _ _ _ _ _ _ _ _ _ _ _ _ _ _ _ _ _ _ _ _ _ _ _ _ _ _ gO _ X.out
set_option maxHeartbeats 1000000 in
set_option maxRecDepth 100000 in
theorem sm2s0 (H0 : sm2H w0 G k k0 k1 k2 k3 k4 q1 q2 x0 x1 x2 x3 RO Q Fr) (w : World) (X : Hid (SP w0 w ([]++RO))) :
 wpAnyH Tryz.prog .any (opsAt Tryz.f3 16) (NoPanic Q) (sm2S w0 G k k0 k1 k2 k3 k4 q1 q2 x0 x1 x2 x3 RO) 31 #[false,false,false,false,false,false,false,false,false,false,false,false,false,false,false,false,false,false,false,false,false,false,false,false,false,false,false,false,false,false,false] (Fr y15 y86 y87 y88 y89 y90 y91 y92 y93 y94 y95 y96 y97 y98 y99 y100 y101 y102 y103 y104 y105 y106 y107 y108 y109 y110 y111 y112 y113 y114 y115) w:=by
 have H1:=Lib.hid H0
 obtain ⟨HP,⟨u,hF⟩,HQ⟩:=H0
 rw [hF]
 obtain ⟨hk,r0,s1,r1,s2,r2,r4,r3,c0⟩:=HP.out
 have b0 : (k0 : Int) < 8:=by omega
 have b1 : (k1 : Int) < 8:=by omega
 have b2 : (k2 : Int) < 8:=by omega
 have b4 : (k4 : Int) < 8:=by omega
 have z0 : (0 : Int)<=(k0 : Int):=by omega
 have z1 : (0 : Int)<=(k1 : Int):=by omega
 have z2 : (0 : Int)<=(k2 : Int):=by omega
 have z4 : (0 : Int)<=(k4 : Int):=by omega
 have m0 : (k : Int).tmod 8=(k0 : Int):=by rw [Int.tmod_eq_emod_of_nonneg (by omega)];omega
 have m3 : (k : Int).tmod 3=(k3 : Int):=by rw [Int.tmod_eq_emod_of_nonneg (by omega)];omega
 have m1 : (q1 : Int).tmod 8=(k1 : Int):=by rw [Int.tmod_eq_emod_of_nonneg (by omega)];omega
 have m2 : (q2 : Int).tmod 8=(k2 : Int):=by rw [Int.tmod_eq_emod_of_nonneg (by omega)];omega
 have d1 : (k : Int).tdiv 8=(q1 : Int):=by rw [Int.tdiv_eq_ediv_of_nonneg (by omega)];omega
 have d2 : (k : Int).tdiv 64=(q2 : Int):=by rw [Int.tdiv_eq_ediv_of_nonneg (by omega)];omega
 have d4 : (k : Int).tdiv 512=(k4 : Int):=by rw [Int.tdiv_eq_ediv_of_nonneg (by omega)];omega
 have e1 : IntKind.i64.wrap (q1 : Int)=(q1 : Int):=IntWalk.i64_in _ (by omega)
 have e2 : IntKind.i64.wrap (q2 : Int)=(q2 : Int):=IntWalk.i64_in _ (by omega)
 have e4 : IntKind.i64.wrap (k4 : Int)=(k4 : Int):=IntWalk.i64_in _ (by omega)
 have e0 : IntKind.i64.wrap (k0 : Int)=(k0 : Int):=IntWalk.i64_in _ (by omega)
 have e5 : IntKind.i64.wrap (k1 : Int)=(k1 : Int):=IntWalk.i64_in _ (by omega)
 have e6 : IntKind.i64.wrap (k2 : Int)=(k2 : Int):=IntWalk.i64_in _ (by omega)
 have e3 : IntKind.i64.wrap (k3 : Int)=(k3 : Int):=IntWalk.i64_in _ (by omega)
 have e7 : IntKind.i64.wrap (2 + (k3 : Int))=2 + (k3 : Int):=IntWalk.i64_in _ (by omega)
 clear hk r0 s1 r1 s2 r2 r4 r3
 have hHeld : (sm2S w0 G k k0 k1 k2 k3 k4 q1 q2 x0 x1 x2 x3 RO) w:=by exact HP.out.c0 _ X.out.right
 refine' tk (i:=0) rfl ?U1 ?V1
 case U1=>intro w' hSw;go_simp;try (with_reducible rfl)
 try simp only [Act.put,jA,jB,jC]
 refine' tk (i:=1) rfl ?U2 ?V2
 case U2=>intro w' hSw;go_simp;try (with_reducible rfl)
 try simp only [Act.put,jA,jB,jC]
 refine' tk (i:=2) rfl ?U3 ?V3
 case U3=>intro w' hSw;go_simp;try (with_reducible rfl)
 try simp only [Act.put,jA,jB,jC]
 refine' tk (i:=3) rfl ?U4 ?V4
 case U4=>intro w' hSw;go_simp;try (with_reducible rfl)
 try simp only [Act.put,jA,jB,jC]
 refine' tk (i:=4) rfl ?U5 ?V5
 case U5=>intro w' hSw;unfold sm2S at hSw;(try dsimp only at hSw);go_simp;try (with_reducible rfl)
 try simp only [Act.put,jA,jB,jC]
 refine' tk (i:=5) rfl ?U6 ?V6
 case U6=>intro w' hSw;go_simp;try (with_reducible rfl)
 try simp only [Act.put,jA,jB,jC]
 refine' tk (i:=6) rfl ?U7 ?V7
 case U7=>intro w' hSw;go_simp;try (with_reducible rfl)
 try simp only [Act.put,jA,jB,jC]
 refine' tk (i:=7) rfl ?U8 ?V8
 case U8=>intro w' hSw;go_simp;try (with_reducible rfl)
 try simp only [Act.put,jA,jB,jC]
 refine' tk (i:=8) rfl ?U9 ?V9
 case U9=>intro w' hSw;go_simp;try (with_reducible rfl)
 try simp only [Act.put,jA,jB,jC]
 refine' tk (i:=9) rfl ?U10 ?V10
 case U10=>intro w' hSw;go_simp;try (with_reducible rfl)
 try simp only [Act.put,jA,jB,jC]
 refine' tk (i:=10) rfl ?U11 ?V11
 case U11=>intro w' hSw;go_simp;try (with_reducible rfl)
 try simp only [Act.put,jA,jB,jC]
 refine' tk (i:=11) rfl ?U12 ?V12
 case U12=>intro w' hSw;unfold sm2S at hSw;(try dsimp only at hSw);go_simp;try (with_reducible rfl)
 try simp only [Act.put,jA,jB,jC]
 refine' tk (i:=12) rfl ?U13 ?V13
 case U13=>intro w' hSw;go_simp;try (with_reducible rfl)
 try simp only [Act.put,jA,jB,jC]
 refine' tk (i:=13) rfl ?U14 ?V14
 case U14=>intro w' hSw;go_simp;try (with_reducible rfl)
 try simp only [Act.put,jA,jB,jC]
 refine' tk (i:=14) rfl ?U15 ?V15
 case U15=>intro w' hSw;go_simp;try (with_reducible rfl)
 try simp only [Act.put,jA,jB,jC]
 refine' tk (i:=15) rfl ?U16 ?V16
 case U16=>intro w' hSw;go_simp;try (with_reducible rfl)
 try simp only [Act.put,jA,jB,jC]
 refine' tk (i:=16) rfl ?U17 ?V17
 case U17=>intro w' hSw;go_simp;try (with_reducible rfl)
 try simp only [Act.put,jA,jB,jC]
 refine' tk (i:=17) rfl ?U18 ?V18
 case U18=>intro w' hSw;go_simp;try (with_reducible rfl)
 try simp only [Act.put,jA,jB,jC]
 refine' tk (i:=18) rfl ?U19 ?V19
 case U19=>intro w' hSw;go_simp;try (with_reducible rfl)
 try simp only [Act.put,jA,jB,jC]
 refine' tk (i:=19) rfl ?U20 ?V20
 case U20=>intro w' hSw;go_simp;try (with_reducible rfl)
 try simp only [Act.put,jA,jB,jC]
 refine' tk (i:=20) rfl ?U21 ?V21
 case U21=>intro w' hSw;go_simp;try (with_reducible rfl)
 try simp only [Act.put,jA,jB,jC]
 refine' tk (i:=21) rfl ?U22 ?V22
 case U22=>intro w' hSw;unfold sm2S at hSw;(try dsimp only at hSw);go_simp;try (with_reducible rfl)
 try simp only [Act.put,jA,jB,jC]
 refine' tk (i:=22) rfl ?U23 ?V23
 case U23=>intro w' hSw;go_simp;try (with_reducible rfl)
 try simp only [Act.put,jA,jB,jC]
 refine' tk (i:=23) rfl ?U24 ?V24
 case U24=>intro w' hSw;go_simp;try (with_reducible rfl)
 try simp only [Act.put,jA,jB,jC]
 refine' tk (i:=24) rfl ?U25 ?V25
 case U25=>intro w' hSw;go_simp;try (with_reducible rfl)
 try simp only [Act.put,jA,jB,jC]
 refine' tk (i:=25) rfl ?U26 ?V26
 case U26=>intro w' hSw;go_simp;try (with_reducible rfl)
 try simp only [Act.put,jA,jB,jC]
 refine' tk (i:=26) rfl ?U27 ?V27
 case U27=>intro w' hSw;go_simp;try (with_reducible rfl)
 try simp only [Act.put,jA,jB,jC]
 refine' tk (i:=27) rfl ?U28 ?V28
 case U28=>intro w' hSw;unfold sm2S at hSw;(try dsimp only at hSw);go_simp;try (with_reducible rfl)
 try simp only [Act.put,jA,jB,jC]
 refine' tk (i:=28) rfl ?U29 ?V29
 case U29=>intro w' hSw;go_simp;try (with_reducible rfl)
 try simp only [Act.put,jA,jB,jC]
 refine rdy [29] ?_
 refine cons_lit rfl (fun K hK=>?ss29x30) AllReadyH.nil
 case ss29x30 =>
  go_simp
  obtain ⟨gO,hgO⟩ : ∃ g,g=w.heap.size:=⟨_,rfl⟩
  rw [<- hgO]
  refine nameW' (fun v hv=>?_)
  have Y:=Lib.hid (show SP w0 v ([.row 36 3 (some ⟨gO,0,none⟩) 4 4 [.bool true,.int .i64 1,.slice x0.A x0.n x0.c,.bool true,.int .i64 2,.slice x1.A x1.n x1.c,.bool true,.int .i64 (2 + (k3 : Int)),.slice x2.A x2.n x2.c,.bool true,.int .i64 6,.slice x3.A x3.n x3.c]]++RO) by rw [hv];exact SP.pickT (A:=[_]) (B:=[_]) (C:=RO) (SP.rot (X.out.allocRow7 36 3 4 #[.bool true,.int .i64 1,.slice x0.A x0.n x0.c,.bool true,.int .i64 2,.slice x1.A x1.n x1.c,.bool true,.int .i64 (2 + (k3 : Int)),.slice x2.A x2.n x2.c,.bool true,.int .i64 6,.slice x3.A x3.n x3.c] (by simp [maxLen]) rfl hgO.symm)) [0] rfl (by decide))
  clear hv hgO
  refine hK.out _ _ (by exact HP.out.c0 _ Y.out.right) (fun hHeld=>?_)
  clear hK K
  try simp only [Act.put,jA,jB,jC]
  refine' tk (i:=30) rfl ?U31 ?V31
  case U31=>intro w' hSw;go_simp;try (with_reducible rfl)
  try simp only [Act.put,jA,jB,jC]
  rw [<- hF]
  exact sm2s1 H1.out gO _ Y
end
set_option maxRecDepth 100000 in
theorem sm2_0 {u0 u1 u2 u3 u4 u5 u6 u7 u8 u9 u10 u11 u12 u15 u16 u17 u18 u19 u20 u21 u22 u23 u24 u25 u26 u27 u28 u29 u30 u31 u32 u33 u34 u35 u36 u37 u38 u39 u40 u41 u42 u43 u44 u45 u46 u47 u48 u49 u50 u51 u52 u53 u54 u55 u56 u57 u58 u59 u60 u61 u62 u63 u64 u65 u66 u67 u68 u69 u70 u71 u72 u73 u74 u75 u76 u77 u78 u79 u80 u81 u82 u83 u84 u85 u86 u87 u88 u89 u90 u91 u92 u93 u94 u95 u96 u97 u98 u99 u100 u101 u102 u103 u104 u105 u106 u107 u108 u109 u110 u111 u112 u113 u114 u115 u116 u117 u118 u119 u120 u121 u122 u123 u124 u125 u126 u127 u128 u129 u130 u131 u132 u133 u134 u135 u136 u137 u138 u139 u140 u141 u142 u143 u144 u145 u146 u147 u148 u149 u150 u151 u152 u153 u154 u155 u156 u157 u158 u159 u160 u161 u162 u163 u164 u165 u166 u167 u168 u169 u170 u171 u172 u173 u174 u175 u176 u177 u178 u179 u180 u181 u182 u183 u184 u185 u186 u187 u188 u189 u190 u191 u192 u193 u194 u195 u196 u197 u198 u199 u200 u201 u202 u203 u204 u205 u206 : Value} {Q : Exit->Act->World->Prop} {w0 : World} {G k k0 k1 k2 k3 k4 q1 q2 : Nat} {x0 x1 x2 x3 : OP} {RO : List IT} (HP : Hid (sm2P w0 G k k0 k1 k2 k3 k4 q1 q2 x0 x1 x2 x3 RO)) (HQ : Hid (∀ (y86 y87 y88 y89 y90 y91 y92 y93 y94 y95 y96 y97 y98 y99 y100 y101 y102 y103 y104 y105 y106 y107 y108 y109 y110 y111 y112 y113 y114 y115 : Value) (gO : Nat) (w' : World),SP w0 w' ([.row 36 3 (some ⟨gO,0,none⟩) 4 4 [.bool true,.int .i64 1,.slice x0.A x0.n x0.c,.bool true,.int .i64 2,.slice x1.A x1.n x1.c,.bool true,.int .i64 (2 + (k3 : Int)),.slice x2.A x2.n x2.c,.bool true,.int .i64 6,.slice x3.A x3.n x3.c]]++RO)->Q .normal ⟨List.toArray (u0::u1::u2::u3::u4::u5::u6::u7::u8::u9::u10::u11::u12::.slice (some ⟨G,0,none⟩) 8 8::.int .i64 (k : Int)::.slice (some ⟨gO,0,none⟩) 4 4::u16::u17::u18::u19::u20::u21::u22::u23::u24::u25::u26::u27::u28::u29::u30::u31::u32::u33::u34::u35::u36::u37::u38::u39::u40::u41::u42::u43::u44::u45::u46::u47::u48::u49::u50::u51::u52::u53::u54::u55::u56::u57::u58::u59::u60::u61::u62::u63::u64::u65::u66::u67::u68::u69::u70::u71::u72::u73::u74::u75::u76::u77::u78::u79::u80::u81::u82::u83::u84::u85::y86::y87::y88::y89::y90::y91::y92::y93::y94::y95::y96::y97::y98::y99::y100::y101::y102::y103::y104::y105::y106::y107::y108::y109::y110::y111::y112::y113::y114::y115::u116::u117::u118::u119::u120::u121::u122::u123::u124::u125::u126::u127::u128::u129::u130::u131::u132::u133::u134::u135::u136::u137::u138::u139::u140::u141::u142::u143::u144::u145::u146::u147::u148::u149::u150::u151::u152::u153::u154::u155::u156::u157::u158::u159::u160::u161::u162::u163::u164::u165::u166::u167::u168::u169::u170::u171::u172::u173::u174::u175::u176::u177::u178::u179::u180::u181::u182::u183::u184::u185::u186::u187::u188::u189::u190::u191::u192::u193::u194::u195::u196::u197::u198::u199::u200::u201::u202::u203::u204::u205::u206::[]),[]⟩ w')) (w : World) (X : Hid (SP w0 w ([]++RO))) :
 wpAnyH Tryz.prog .any (opsAt Tryz.f3 16) (NoPanic Q) (sm2S w0 G k k0 k1 k2 k3 k4 q1 q2 x0 x1 x2 x3 RO) 31 #[false,false,false,false,false,false,false,false,false,false,false,false,false,false,false,false,false,false,false,false,false,false,false,false,false,false,false,false,false,false,false] ⟨List.toArray (u0::u1::u2::u3::u4::u5::u6::u7::u8::u9::u10::u11::u12::.slice (some ⟨G,0,none⟩) 8 8::.int .i64 (k : Int)::u15::u16::u17::u18::u19::u20::u21::u22::u23::u24::u25::u26::u27::u28::u29::u30::u31::u32::u33::u34::u35::u36::u37::u38::u39::u40::u41::u42::u43::u44::u45::u46::u47::u48::u49::u50::u51::u52::u53::u54::u55::u56::u57::u58::u59::u60::u61::u62::u63::u64::u65::u66::u67::u68::u69::u70::u71::u72::u73::u74::u75::u76::u77::u78::u79::u80::u81::u82::u83::u84::u85::u86::u87::u88::u89::u90::u91::u92::u93::u94::u95::u96::u97::u98::u99::u100::u101::u102::u103::u104::u105::u106::u107::u108::u109::u110::u111::u112::u113::u114::u115::u116::u117::u118::u119::u120::u121::u122::u123::u124::u125::u126::u127::u128::u129::u130::u131::u132::u133::u134::u135::u136::u137::u138::u139::u140::u141::u142::u143::u144::u145::u146::u147::u148::u149::u150::u151::u152::u153::u154::u155::u156::u157::u158::u159::u160::u161::u162::u163::u164::u165::u166::u167::u168::u169::u170::u171::u172::u173::u174::u175::u176::u177::u178::u179::u180::u181::u182::u183::u184::u185::u186::u187::u188::u189::u190::u191::u192::u193::u194::u195::u196::u197::u198::u199::u200::u201::u202::u203::u204::u205::u206::[]),[]⟩ w :=
 sm2s0 (Fr:=(fun y15 y86 y87 y88 y89 y90 y91 y92 y93 y94 y95 y96 y97 y98 y99 y100 y101 y102 y103 y104 y105 y106 y107 y108 y109 y110 y111 y112 y113 y114 y115=>⟨List.toArray (u0::u1::u2::u3::u4::u5::u6::u7::u8::u9::u10::u11::u12::.slice (some ⟨G,0,none⟩) 8 8::.int .i64 (k : Int)::y15::u16::u17::u18::u19::u20::u21::u22::u23::u24::u25::u26::u27::u28::u29::u30::u31::u32::u33::u34::u35::u36::u37::u38::u39::u40::u41::u42::u43::u44::u45::u46::u47::u48::u49::u50::u51::u52::u53::u54::u55::u56::u57::u58::u59::u60::u61::u62::u63::u64::u65::u66::u67::u68::u69::u70::u71::u72::u73::u74::u75::u76::u77::u78::u79::u80::u81::u82::u83::u84::u85::y86::y87::y88::y89::y90::y91::y92::y93::y94::y95::y96::y97::y98::y99::y100::y101::y102::y103::y104::y105::y106::y107::y108::y109::y110::y111::y112::y113::y114::y115::u116::u117::u118::u119::u120::u121::u122::u123::u124::u125::u126::u127::u128::u129::u130::u131::u132::u133::u134::u135::u136::u137::u138::u139::u140::u141::u142::u143::u144::u145::u146::u147::u148::u149::u150::u151::u152::u153::u154::u155::u156::u157::u158::u159::u160::u161::u162::u163::u164::u165::u166::u167::u168::u169::u170::u171::u172::u173::u174::u175::u176::u177::u178::u179::u180::u181::u182::u183::u184::u185::u186::u187::u188::u189::u190::u191::u192::u193::u194::u195::u196::u197::u198::u199::u200::u201::u202::u203::u204::u205::u206::[]),[]⟩)) ⟨HP,⟨fun i=>([u0,u1,u2,u3,u4,u5,u6,u7,u8,u9,u10,u11,u12,undef,undef,u15,u16,u17,u18,u19,u20,u21,u22,u23,u24,u25,u26,u27,u28,u29,u30,u31,u32,u33,u34,u35,u36,u37,u38,u39,u40,u41,u42,u43,u44,u45,u46,u47,u48,u49,u50,u51,u52,u53,u54,u55,u56,u57,u58,u59,u60,u61,u62,u63,u64,u65,u66,u67,u68,u69,u70,u71,u72,u73,u74,u75,u76,u77,u78,u79,u80,u81,u82,u83,u84,u85,u86,u87,u88,u89,u90,u91,u92,u93,u94,u95,u96,u97,u98,u99,u100,u101,u102,u103,u104,u105,u106,u107,u108,u109,u110,u111,u112,u113,u114,u115,u116,u117,u118,u119,u120,u121,u122,u123,u124,u125,u126,u127,u128,u129,u130,u131,u132,u133,u134,u135,u136,u137,u138,u139,u140,u141,u142,u143,u144,u145,u146,u147,u148,u149,u150,u151,u152,u153,u154,u155,u156,u157,u158,u159,u160,u161,u162,u163,u164,u165,u166,u167,u168,u169,u170,u171,u172,u173,u174,u175,u176,u177,u178,u179,u180,u181,u182,u183,u184,u185,u186,u187,u188,u189,u190,u191,u192,u193,u194,u195,u196,u197,u198,u199,u200,u201,u202,u203,u204,u205,u206] : List Value)[i]?.getD undef,fun _ _ _ _ _ _ _ _ _ _ _ _ _ _ _ _ _ _ _ _ _ _ _ _ _ _ _ _ _ _ _=>rfl⟩,Lib.hid HQ.out⟩ w X
set_option maxHeartbeats 1000000 in
set_option maxRecDepth 100000 in
theorem small7_2 {u0 u1 u2 u3 u4 u5 u6 u7 u8 u9 u10 u11 u12 u15 u16 u17 u18 u19 u20 u21 u22 u23 u24 u25 u26 u27 u28 u29 u30 u31 u32 u33 u34 u35 u36 u37 u38 u39 u40 u41 u42 u43 u44 u45 u46 u47 u48 u49 u50 u51 u52 u53 u54 u55 u56 u57 u58 u59 u60 u61 u62 u63 u64 u65 u66 u67 u68 u69 u70 u71 u72 u73 u74 u75 u76 u77 u78 u79 u80 u81 u82 u83 u84 u85 u86 u87 u88 u89 u90 u91 u92 u93 u94 u95 u96 u97 u98 u99 u100 u101 u102 u103 u104 u105 u106 u107 u108 u109 u110 u111 u112 u113 u114 u115 u116 u117 u118 u119 u120 u121 u122 u123 u124 u125 u126 u127 u128 u129 u130 u131 u132 u133 u134 u135 u136 u137 u138 u139 u140 u141 u142 u143 u144 u145 u146 u147 u148 u149 u150 u151 u152 u153 u154 u155 u156 u157 u158 u159 u160 u161 u162 u163 u164 u165 u166 u167 u168 u169 u170 u171 u172 u173 u174 u175 u176 u177 u178 u179 u180 u181 u182 u183 u184 u185 u186 u187 u188 u189 u190 u191 u192 u193 u194 u195 u196 u197 u198 u199 u200 u201 u202 u203 u204 u205 u206 : Value} {Q : Exit->Act->World->Prop} (w : World) (G : Nat) (l : List OP) (RO : List IT) (HL : Hid (∀ W,SP w W RO->LK W G 8 l)) (w1 : World) (X1 : Hid (SP w w1 RO))
 (HQ : Hid (∀ (y0 y14 y15 y82 y83 y84 y85 y86 y87 y88 y89 y90 y91 y92 y93 y94 y95 y96 y97 y98 y99 y100 y101 y102 y103 y104 y105 y106 y107 y108 y109 y110 y111 y112 y113 y114 y115 y116 y117 y118 y119 y120 y121 y122 y123 y124 : Value) (w' : World),SP w w' RO->Q (.exit 2) ⟨List.toArray (y0::u1::u2::u3::u4::u5::u6::u7::u8::u9::u10::u11::u12::.slice (some ⟨G,0,none⟩) 8 8::y14::y15::u16::u17::u18::u19::u20::u21::u22::u23::u24::u25::u26::u27::u28::u29::u30::u31::u32::u33::u34::u35::u36::u37::u38::u39::u40::u41::u42::u43::u44::u45::u46::u47::u48::u49::u50::u51::u52::u53::u54::u55::u56::u57::u58::u59::u60::u61::u62::u63::u64::u65::u66::u67::u68::u69::u70::u71::u72::u73::u74::u75::u76::u77::u78::u79::u80::u81::y82::y83::y84::y85::y86::y87::y88::y89::y90::y91::y92::y93::y94::y95::y96::y97::y98::y99::y100::y101::y102::y103::y104::y105::y106::y107::y108::y109::y110::y111::y112::y113::y114::y115::y116::y117::y118::y119::y120::y121::y122::y123::y124::u125::u126::u127::u128::u129::u130::u131::u132::u133::u134::u135::u136::u137::u138::u139::u140::u141::u142::u143::u144::u145::u146::u147::u148::u149::u150::u151::u152::u153::u154::u155::u156::u157::u158::u159::u160::u161::u162::u163::u164::u165::u166::u167::u168::u169::u170::u171::u172::u173::u174::u175::u176::u177::u178::u179::u180::u181::u182::u183::u184::u185::u186::u187::u188::u189::u190::u191::u192::u193::u194::u195::u196::u197::u198::u199::u200::u201::u202::u203::u204::u205::u206::[]),[]⟩ w')) :
 Code.wp Tryz.prog (loopAt Tryz.f3 14) Q ⟨List.toArray (u0::u1::u2::u3::u4::u5::u6::u7::u8::u9::u10::u11::u12::.slice (some ⟨G,0,none⟩) 8 8::.int .i64 0::u15::u16::u17::u18::u19::u20::u21::u22::u23::u24::u25::u26::u27::u28::u29::u30::u31::u32::u33::u34::u35::u36::u37::u38::u39::u40::u41::u42::u43::u44::u45::u46::u47::u48::u49::u50::u51::u52::u53::u54::u55::u56::u57::u58::u59::u60::u61::u62::u63::u64::u65::u66::u67::u68::u69::u70::u71::u72::u73::u74::u75::u76::u77::u78::u79::u80::u81::u82::u83::u84::u85::u86::u87::u88::u89::u90::u91::u92::u93::u94::u95::u96::u97::u98::u99::u100::u101::u102::u103::u104::u105::u106::u107::u108::u109::u110::u111::u112::u113::u114::u115::u116::u117::u118::u119::u120::u121::u122::u123::u124::u125::u126::u127::u128::u129::u130::u131::u132::u133::u134::u135::u136::u137::u138::u139::u140::u141::u142::u143::u144::u145::u146::u147::u148::u149::u150::u151::u152::u153::u154::u155::u156::u157::u158::u159::u160::u161::u162::u163::u164::u165::u166::u167::u168::u169::u170::u171::u172::u173::u174::u175::u176::u177::u178::u179::u180::u181::u182::u183::u184::u185::u186::u187::u188::u189::u190::u191::u192::u193::u194::u195::u196::u197::u198::u199::u200::u201::u202::u203::u204::u205::u206::[]),[]⟩ w1:=by
 conv=>arg 2;whnf
 go_loopw [14,15] (fun s14 _ wr=>∃ k : Nat,k<=4096∧s14 = .int .i64 (k : Int)∧SP w wr RO) (fun s14 _ _=>4096 - (intOf s14).toNat)
 case atStart=>exact ⟨0,Nat.zero_le _,rfl,X1.out⟩
 case round =>
  obtain ⟨k,hk,rfl,Y0⟩:=hrel
  have Y:=Lib.hid Y0
  clear Y0 X1
  by_cases hlt : k < 4096
  ·have t1 : (k : Int) < 4096:=by omega
   have t0 : (0 : Int)<=(k : Int):=by omega
   obtain ⟨x0,h0⟩:=(HL.out _ Y.out).get (i:=k % 8) (by omega)
   obtain ⟨x1,h1⟩:=(HL.out _ Y.out).get (i:=k / 8 % 8) (by omega)
   obtain ⟨x2,h2⟩:=(HL.out _ Y.out).get (i:=k / 64 % 8) (by omega)
   obtain ⟨x3,h3⟩:=(HL.out _ Y.out).get (i:=k / 512) (by omega)
   have O:=Lib.hid (fun (W : World) (hW : SP w W RO)=>(HL.out W hW).ok)
   have e6 : IntKind.i64.wrap ((k : Int) + 1)=(k : Int) + 1:=IntWalk.i64_in _ (by omega)
   go_upto_region 16 with fail
   refine wp_region_noPanic ?_
   refine wp_region_held_drew (S:=sm2S w G k (k % 8) (k / 8 % 8) (k / 64 % 8) (k % 3) (k / 512) (k / 8) (k / 64) x0 x1 x2 x3 RO) (by kernel_rfl) ?ss (fun hHeld=>?_)
   case ss=>exact ⟨(HL.out _ Y.out.drew).at_ _ _ h0,(HL.out _ Y.out.drew).at_ _ _ h1,(HL.out _ Y.out.drew).at_ _ _ h2,(HL.out _ Y.out.drew).at_ _ _ h3⟩
   clear hHeld
   refine sm2_0 (Lib.hid ⟨hlt,rfl,rfl,rfl,rfl,rfl,rfl,rfl,fun W hW=>⟨(HL.out _ hW).at_ _ _ h0,(HL.out _ hW).at_ _ _ h1,(HL.out _ hW).at_ _ _ h2,(HL.out _ hW).at_ _ _ h3⟩⟩) (Lib.hid ?_) _ (Lib.hid Y.out.drew)
   intro y86 y87 y88 y89 y90 y91 y92 y93 y94 y95 y96 y97 y98 y99 y100 y101 y102 y103 y104 y105 y106 y107 y108 y109 y110 y111 y112 y113 y114 y115 gO w2 hX2
   have OK:=O.out w2 hX2.right
   have hO : OPS w2 (some ⟨gO,0,none⟩) 4 [x0.at_ true 1,x1.at_ true 2,x2.at_ true (2 + ((k % 3 : Nat) : Int)),x3.at_ true 6]:=by
    refine ops_of_row (hX2.row 0 rfl) rfl (fun x hx=>?_)
    simp only [List.mem_cons,List.not_mem_nil,or_false] at hx
    rcases hx with rfl | rfl | rfl | rfl
    ·exact (OK _ (List.mem_of_getElem? h0)).at_ true (by omega)
    ·exact (OK _ (List.mem_of_getElem? h1)).at_ true (by omega)
    ·exact (OK _ (List.mem_of_getElem? h2)).at_ true (by omega)
    ·exact (OK _ (List.mem_of_getElem? h3)).at_ true (by omega)
   have Z:=Lib.hid hX2.right
   clear hX2 Y h0 h1 h2 h3 O OK
   have HO:=Lib.hid hO
   clear hO
   go_wp2_with fail
   refine (tells7_any _ _ _ 4 _ _ w2 HO.out).mono ?_
   rintro e w3 ⟨rfl,hb3⟩
   have V:=Lib.hid (Z.out.next hb3)
   clear hb3 Z HO
   go_wp2_with fail
   go_roundw
   case rel=>exact ⟨k + 1,by omega,by go_num,V.out⟩
   case measure=>simp [intOf];omega
  ·have t1 : ¬ (k : Int) < 4096:=by omega
   go_wp2_with fail
   exact HQ.out _ _ _ _ _ _ _ _ _ _ _ _ _ _ _ _ _ _ _ _ _ _ _ _ _ _ _ _ _ _ _ _ _ _ _ _ _ _ _ _ _ _ _ _ _ _ _ Y.out
end Go.Proofs.YtljbfnabnkkfeaaGreat
