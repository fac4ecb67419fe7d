import Derived.Test.YtljbfnabnkkfeaaGreatSL15
set_option linter.unusedVariables false
set_option linter.unusedSimpArgs false
/- Joined by program: FgR1, WLists, FgR2, FgQG, FgQR. -/
namespace Go.Proofs.YtljbfnabnkkfeaaGreat
open Go.RowKit
theorem SP.pickT3 {w0 w : World} {a b c : IT} {C : List IT} (H : SP w0 w (a::b::c::C)) : SP w0 w (c::a::b::C):=H.perm ((List.Perm.cons a (List.Perm.swap c b C)).trans (List.Perm.swap c a (b::C)))
set_option maxHeartbeats 4000000 in
set_option maxRecDepth 100000 in
theorem r7split_any {w0 w : World} {L : List IT} (A : Option Addr) (n c : Nat) (zs : List Int) (size : Int) (H0 : SP w0 w L) (rd : ∀ W,SP w0 W L->RD .u8 W W.heap.size A n zs) (hz : BD 255 zs) (hnc : n<=c) (hn : n<=400) (hsz : size<=9223372036854775807) (hsz0 : -9223372036854775808<=size) :
 Calls Tryz.prog 6 #[.slice A n c,.int .i64 size] w (SPLITD w0 L zs size):=by
 have RDD:=Lib.hid rd
 have HZ:=Lib.hid hz
 have HZL:=Lib.hid (rd w H0).len
 have X1:=Lib.hid H0
 obtain ⟨i0,hi,hz0,hz1,hz2⟩:=info_parts infoU8
 have e1 : size.tmod 8=size % 8∨size < 8:=by
  by_cases h : size < 8
  ·exact .inr h
  ·exact .inl (Int.tmod_eq_emod_of_nonneg (by omega))
 clear rd hz H0
 by_cases h1 : size < 8
 ·clear e1
  go_enter Tryz.func6,Tryz.ntmps6
  go_wp2_with fail
  go_ret2
  exact splitd_nil 2 (by unfold splitA;rw [if_pos (by unfold sizeOk;rw [decide_eq_false (by omega)];rfl)]) X1.out
 replace e1:=e1.resolve_right h1
 by_cases h2 : size % 8=0
 case neg =>
  have e2 : (size.tmod 8 != 0)=true:=by rw [e1];simp;omega
  have e2' : (size % 8 != 0)=true:=by simp;omega
  have H2:=Lib.hid h2
  clear h2 e1
  go_enter Tryz.func6,Tryz.ntmps6
  go_wp2_with fail
  go_ret2
  exact splitd_nil 2 (by unfold splitA;rw [if_pos (by unfold sizeOk;rw [decide_eq_false (p:=size % 8=0) H2.out];simp)]) X1.out
 have e2 : size.tmod 8=0:=by rw [e1];exact h2
 have e2' : (size % 8 != 0)=false:=by simp;omega
 have HOK:=Lib.hid (show sizeOk size=true by unfold sizeOk;rw [decide_eq_true (by omega),decide_eq_true h2];rfl)
 have HR:=Lib.hid (r5Read_any A n c zs w (RDD.out _ X1.out) HZ.out hnc (by omega))
 clear e1
 go_enter Tryz.func6,Tryz.ntmps6
 go_wp2_with fail
 refine HR.out.mono ?_
 rintro e w4 ⟨oA,on,oc,rfl,ho,hb⟩
 have X2:=Lib.hid (X1.out.pushOwn hb ho)
 clear ho hb HR X1
 obtain ⟨H,hH⟩ : ∃ H,hdR zs=H:=⟨_,rfl⟩
 have HH:=Lib.hid hH
 rw [hH]
 clear hH
 unfold HD.val HD.cells
 obtain ⟨HB,hHB⟩ : ∃ b,w4.heap.size=b:=⟨_,rfl⟩
 have X3:=Lib.hid (show SP w0 (w4.alloc (.cells #[.int .u8 H.tos,.int .u16 H.id,.bool H.df,.bool H.mf,.int .i64 H.off,.int .u8 H.ttl,.int .u8 H.proto,.int .u32 H.src,.int .u32 H.dst,.slice oA on oc] 58)) (.blk HB 58 #[.int .u8 H.tos,.int .u16 H.id,.bool H.df,.bool H.mf,.int .i64 H.off,.int .u8 H.ttl,.int .u8 H.proto,.int .u32 H.src,.int .u32 H.dst,.slice oA on oc]::.own .u8 5 oA on oc (optsR zs)::L) from (X2.out.rot.alloc' 58 _ hHB).rot)
 clear X2
 go_upto_region 4 with fail
 try rw [hHB]
 generalize hw5 : w4.alloc (.cells #[.int .u8 H.tos,.int .u16 H.id,.bool H.df,.bool H.mf,.int .i64 H.off,.int .u8 H.ttl,.int .u8 H.proto,.int .u32 H.src,.int .u32 H.dst,.slice oA on oc] 58)=w5 at X3 ⊢
 clear hw5 hHB
 by_cases hf : faultR zs=7
 case neg =>
  have HF:=Lib.hid hf
  have hE : ipE zs=50 + faultR zs:=by unfold ipE;rw [if_neg hf]
  have hle:=faultR_le zs
  have b0 : ((ipE zs) != 0)=true:=by rw [hE];simp;omega
  clear hf hE hle
  go_wp2_with fail
  go_ret2
  exact splitd_nil (ipE zs) (by unfold splitA;rw [if_neg (by rw [HOK.out];simp),if_pos HF.out]) X3.out.tail.tail
 case pos =>
 have hE : ipE zs=0:=by unfold ipE;rw [if_pos hf]
 have hO : optsR zs=optsOf zs:=by unfold optsR;rw [if_pos hf]
 have hF : fromR zs=sizeR zs:=by unfold fromR;rw [if_pos hf]
 have hT : toR zs=totalR zs:=by unfold toR;rw [if_pos hf]
 have hH : H=hdOf zs:=by rw [<- HH.out];unfold hdR;rw [if_pos hf]
 have HHE:=Lib.hid hH
 rw [hO] at X3
 rw [hE,hF,hT]
 obtain ⟨r1,r2,r3,r4,hr,_⟩:=right7 hf
 have hzl:=HZL.out
 have hdl:=frOf_len hf
 obtain ⟨fr,hfr⟩ : ∃ m,sizeR zs=m:=⟨_,rfl⟩
 obtain ⟨tt,htt⟩ : ∃ m,totalR zs=m:=⟨_,rfl⟩
 have HRI:=Lib.hid hr
 rw [hfr] at r2 r3 ⊢
 rw [htt] at r3 r4 ⊢
 rw [hfr,htt] at hdl
 have HFT:=Lib.hid (And.intro hfr htt)
 have HF:=Lib.hid hf
 rw [hzl] at r1 r4
 have HDL:=Lib.hid hdl
 have hc2 : tt<=c:=by omega
 obtain ⟨SA,hSA⟩ : ∃ SA,cutA A c fr=SA:=⟨_,rfl⟩
 have HSA:=Lib.hid hSA
 have s1:=fun W=>run_slice_lohi (P:=Tryz.prog) W Tryz.underlying22 hi hz1 A n c (fr : Int) (tt : Int) fr tt rfl rfl r3 hc2
 rw [hSA] at s1
 have g1 : (0 : Int)<=(tt : Int):=by omega
 have g2 : (tt : Int)<=(c : Int):=by omega
 clear hE hO hF hT hH hfr htt hf hr hzl HH hdl hSA
 go_upto_region 7 with fail
 by_cases hle : ((tt - fr : Nat) : Int)<=size
 case pos =>
  have HLE:=Lib.hid hle
  obtain ⟨EB,hEB⟩ : ∃ b,w5.heap.size=b:=⟨_,rfl⟩
  have X4:=Lib.hid (show SP w0 (w5.alloc (.cells #[] 5)) (.own .u8 5 (some ⟨EB,0,none⟩) 0 0 []::.blk HB 58 #[.int .u8 H.tos,.int .u16 H.id,.bool H.df,.bool H.mf,.int .i64 H.off,.int .u8 H.ttl,.int .u8 H.proto,.int .u32 H.src,.int .u32 H.dst,.slice oA on oc]::.own .u8 5 oA on oc (optsOf zs)::L) from (X3.out.allocI' .u8 5 [] (Nat.zero_le _) hEB).rot)
  go_wp2_with (at_builtin;refine wpList_append_rd _ rfl _ _ 22 rfl .u8 w0.heap.size 5 i0 1 Tryz.underlying22 hi hz0 hz1 hz2 (some ⟨EB,0,none⟩) 0 0 [] rfl (X4.out.own 0 rfl) _ A tt c (zs.take tt) rfl ((RDD.out _ X4.out.tail.tail.tail).take r4) (by simp only [maxLen];omega) (by omega) X4.out.size ?_;intro A7 c7 w7 happ;have hX : SP w0 w7 (.own .u8 5 A7 (0 + tt) c7 ([]++zs.take tt)::.blk HB 58 #[.int .u8 H.tos,.int .u16 H.id,.bool H.df,.bool H.mf,.int .i64 H.off,.int .u8 H.ttl,.int .u8 H.proto,.int .u32 H.src,.int .u32 H.dst,.slice oA on oc]::.own .u8 5 oA on oc (optsOf zs)::L):=X4.out.app 0 rfl happ;clear happ;rw [Nat.zero_add] at hX ⊢;obtain ⟨Q,hQ⟩ : ∃ b,w7.heap.size=b:=⟨_,rfl⟩;have X5:=Lib.hid ((hX.alloc' 22 #[.slice A7 tt c7] hQ).rot.blkRow 0 rfl 1 1 rfl (by simp [maxLen]));clear hX)
  try rw [hQ]
  go_ret2
  have hsp : splitA zs size=([zs.take tt],0):=by
   unfold splitA
   rw [if_neg (by rw [HOK.out];simp),if_neg (by simp [HF.out]),if_pos (by rw [HDL.out];exact HLE.out),HFT.out.2]
  refine ⟨some ⟨Q,0,none⟩,1,[(⟨A7,tt,c7⟩,zs.take tt)],by rw [hsp];rfl,by rw [hsp];rfl,?_⟩
  have X6 : SP w0 _ (.row 22 1 (some ⟨Q,0,none⟩) 1 1 [.slice A7 tt c7]::.own .u8 5 A7 tt c7 (zs.take tt)::.blk HB 58 #[.int .u8 H.tos,.int .u16 H.id,.bool H.df,.bool H.mf,.int .i64 H.off,.int .u8 H.ttl,.int .u8 H.proto,.int .u32 H.src,.int .u32 H.dst,.slice oA on oc]::.own .u8 5 oA on oc (optsOf zs)::L):=X5.out
  exact X6.sub (List.Sublist.cons_cons _ (List.Sublist.cons_cons _ (List.Sublist.cons _ (List.sublist_cons_self _ _))))
 case neg =>
 obtain ⟨df,hdf⟩ : ∃ b,H.df=b:=⟨_,rfl⟩
 have xdf : w5.cell? ⟨HB,2,none⟩=some (.bool df):=by rw [<- hdf];exact X3.out.cell 0 rfl 2 rfl
 have HDF:=Lib.hid (show (hdOf zs).df=df by rw [<- HHE.out];exact hdf)
 have HLE:=Lib.hid hle
 have HDE:=Lib.hid hdf
 clear hdf
 cases df
 case true =>
  go_wp2_with fail
  go_ret2
  refine splitd_nil 72 ?_ X3.out.tail.tail
  unfold splitA
  rw [if_neg (by rw [HOK.out];simp),if_neg (by simp [HF.out]),if_neg (by rw [HDL.out];have:=HLE.out;omega),if_pos HDF.out]
 case false =>
 obtain ⟨sz,rfl⟩ : ∃ sz : Nat,size=(sz : Int):=⟨size.toNat,by omega⟩
 obtain ⟨dn,hdn⟩ : ∃ dn,tt - fr=dn:=⟨_,rfl⟩
 obtain ⟨dc,hdc⟩ : ∃ dc,c - fr=dc:=⟨_,rfl⟩
 have hdnc : dn<=dc:=by omega
 have hdn1 : dn<=400:=by omega
 have hle2 : sz < dn:=by omega
 have hsz8 : 8<=sz:=by omega
 have hszm : sz % 8=0:=by omega
 have hRD : ∀ W,SP w0 W L->RD .u8 W W.heap.size SA dn (frOf zs).d:=fun W hS=>by
  have:=(RDD.out W hS).mid (lo:=fr) (hi:=tt) r3 r4 hnc
  rw [HSA.out,hdn] at this
  unfold frOf
  rw [HFT.out.1,HFT.out.2,hdn]
  exact this
 rw [hdn] at HDL HLE ⊢
 rw [hdc]
 have HRD:=Lib.hid hRD
 obtain ⟨f,hff⟩ : ∃ f,frOf zs=f:=⟨_,rfl⟩
 have HFF:=Lib.hid hff
 have HFO:=Lib.hid (show FOK f by rw [<- hff];exact frOf_ok HF.out HZ.out)
 have HON:=Lib.hid (show (optsOf zs).length=on from (X3.out.own 1 rfl).len)
 have HFR:=Lib.hid (show ∀ j,sz * j < dn->Rightly (pieceF f sz j).h.off (pieceF f sz j).h.mf on (pieceF f sz j).d.length by
  intro j hj
  have hon:=HON.out
  have hol:=optsOf_len HF.out
  have hfo : f.o=optsOf zs:=by rw [<- hff];rfl
  have hdl : f.d.length=dn:=by rw [<- hff];exact HDL.out
  have hrr:=HRI.out.2.2.2.2.1
  rw [HFT.out.1] at hrr hol
  have:=pieceF_right HFO.out (by rw [hfo,hol];omega) (by rw [hfo,hol,hdl];omega) hsz8 hszm (by rw [hdl];exact hj) (fun h=>(HFO.out.mf h).2)
  rw [hfo,hon] at this
  exact this)
 rw [hff] at HDL HRD
 have HFH:=Lib.hid (show f.h=H by rw [HHE.out,<- hff];rfl)
 have HFO2:=Lib.hid (show f.o=optsOf zs by rw [<- hff];rfl)
 have HDFF:=Lib.hid (show H.df=false from HDE.out)
 clear hRD hff hdn hdc hle s1 g1 g2 r1 r2 r3 r4 hc2
 obtain ⟨i9,hi9,hy0,hy1,hy2⟩:=info_parts (show (Tryz.prog.info? 22).map (fun i=>(i.zero,i.size,i.bytes))=some (some (.slice none 0 0),1,24) by kernel_rfl)
 go_upto_region 13 with fail
 clear xdf
 go_loopw [11,12,13,14,15,16] (fun s11 s12 _ _ _ _ wr=>∃ (j i : Nat) (Ag : Option Addr) (cg : Nat) (G : List (SD × List Int)),sz * j=i∧j<=cnt dn sz∧s11 = .slice Ag j cg∧s12 = .int .i64 (i : Int)∧G.length=j∧G.map (·.2)=((pieces f sz).take j).map bytesF∧SP w0 wr (.row 22 1 Ag j cg (G.map gV)::(G.map gIT++(.blk HB 58 #[.int .u8 H.tos,.int .u16 H.id,.bool H.df,.bool H.mf,.int .i64 H.off,.int .u8 H.ttl,.int .u8 H.proto,.int .u32 H.src,.int .u32 H.dst,.slice oA on oc]::.own .u8 5 oA on oc (optsOf zs)::L)))) (fun _ s12 _ _ _ _ _=>dn - (intOf s12).toNat)
 case atStart=>exact ⟨0,0,none,0,[],by simp,Nat.zero_le _,rfl,rfl,rfl,rfl,(X3.out.pushRow 22 1).rot⟩
 case round =>
  obtain ⟨j,i,Ag,cg,G,hij,hj,rfl,rfl,hGl,hGm,Y0⟩:=hrel
  have Y:=Lib.hid Y0
  have HG:=Lib.hid (And.intro hij (And.intro hGl hGm))
  clear Y0 X3 hGl hGm
  by_cases hlt : i < dn
  ·have t1 : (i : Int) < (dn : Int):=by omega
   have hjc : j < cnt dn sz:=(lt_cnt (by omega)).2 (by omega)
   have hj60 : j<=60:=by have h2:=Nat.mul_le_mul_right j hsz8;omega
   have HJ:=Lib.hid (And.intro hij hjc)
   have hof:=HFO.out.off
   rw [HFH.out] at hof
   have HHB:=Lib.hid (show BLOCK wr HB 58 #[.int .u8 H.tos,.int .u16 H.id,.bool H.df,.bool H.mf,.int .i64 H.off,.int .u8 H.ttl,.int .u8 H.proto,.int .u32 H.src,.int .u32 H.dst,.slice oA on oc] from Y.out.tail.right.blk 0 rfl)
   have x4:=HHB.out.cell 4
   replace x4 : wr.cell? ⟨HB,4,none⟩=some (.int .i64 H.off):=x4
   have hHBl : HB < wr.heap.size:=HHB.out.lt
   have e3 : IntKind.i64.wrap (H.off + (i : Int))=H.off + (i : Int):=IntWalk.i64_in _ (by omega)
   obtain ⟨en,hen⟩ : ∃ x,i + sz=x:=⟨_,rfl⟩
   have e4 : IntKind.i64.wrap ((i : Int) + (sz : Int))=(en : Int):=by rw [IntWalk.i64_in _ (by omega)];omega
   have HEN:=Lib.hid hen
   obtain ⟨ho,hho⟩ : ∃ x : Int,H.off + (i : Int)=x:=⟨_,rfl⟩
   replace e3 : IntKind.i64.wrap (H.off + (i : Int))=ho:=by rw [e3,hho]
   have HHO:=Lib.hid hho
   obtain ⟨XB,hXB⟩ : ∃ b,wr.heap.size=b:=⟨_,rfl⟩
   have Z:=Lib.hid ((Y.out.alloc' 58 #[.int .u8 H.tos,.int .u16 H.id,.bool H.df,.bool H.mf,.int .i64 H.off,.int .u8 H.ttl,.int .u8 H.proto,.int .u32 H.src,.int .u32 H.dst,.slice oA on oc] hXB).rot)
   clear hij hho
   go_upto_region 16 with (refine wpList_load_row rfl 58 _ rfl HB rfl 58 #[.int .u8 H.tos,.int .u16 H.id,.bool H.df,.bool H.mf,.int .i64 H.off,.int .u8 H.ttl,.int .u8 H.proto,.int .u32 H.src,.int .u32 H.dst,.slice oA on oc] (0,0) _ HHB.out Tryz.underlying58 rfl (by kernel_rfl) ?_)
   try rw [hXB]
   generalize hwv : wr.alloc (.cells #[.int .u8 H.tos,.int .u16 H.id,.bool H.df,.bool H.mf,.int .i64 H.off,.int .u8 H.ttl,.int .u8 H.proto,.int .u32 H.src,.int .u32 H.dst,.slice oA on oc] 58)=wv at Z ⊢
   clear hwv hXB Y x4
   have x4:=Z.out.tail.tail.right.cell 0 rfl 4 (v:=.int .i64 H.off) rfl
   have y4:=Z.out.cell 0 rfl 4 (v:=.int .i64 H.off) rfl
   have q4:=Z.out.free 0 rfl 4
   have Z2:=Lib.hid (show SP w0 (wv.setCell ⟨XB,4,none⟩ (.int .i64 ho)) (.blk XB 58 #[.int .u8 H.tos,.int .u16 H.id,.bool H.df,.bool H.mf,.int .i64 ho,.int .u8 H.ttl,.int .u8 H.proto,.int .u32 H.src,.int .u32 H.dst,.slice oA on oc]::.row 22 1 Ag j cg (G.map gV)::(G.map gIT++(.blk HB 58 #[.int .u8 H.tos,.int .u16 H.id,.bool H.df,.bool H.mf,.int .i64 H.off,.int .u8 H.ttl,.int .u8 H.proto,.int .u32 H.src,.int .u32 H.dst,.slice oA on oc]::.own .u8 5 oA on oc (optsOf zs)::L))) from Z.out.setB 0 rfl 4 (.int .i64 ho))
   go_upto_region 17 with fail
   generalize hwv : wv.setCell ⟨XB,4,none⟩ (.int .i64 ho)=wu at Z2 ⊢
   clear hwv Z x4 y4 q4
   obtain ⟨m2,hm2⟩ : ∃ m2,(pieceF f sz j).h.mf=m2:=⟨_,rfl⟩
   obtain ⟨e2,he2⟩ : ∃ e2,i + min sz (dn - i)=e2:=⟨_,rfl⟩
   have HE2:=Lib.hid (show i<=e2∧e2<=dn∧e2 - i=min sz (dn - i) by omega)
   have hm3 : (H.mf || decide (i + sz < dn))=m2:=by
    rw [<- hm2]
    unfold pieceF
    simp only
    rw [HFH.out]
    congr 2
    rw [HDL.out,Nat.mul_add,HJ.out.1,Nat.mul_one]
   have HM2:=Lib.hid hm2
   clear hm2
   obtain ⟨BB,hBB⟩ : ∃ B,decide ((en : Int) < (dn : Int))=B:=⟨_,rfl⟩
   have HBBN:=Lib.hid (show decide (i + sz < dn)=BB by rw [<- hBB,HEN.out];simp)
   have hBB' : decide (en < dn)=BB:=by rw [<- hBB];simp
   go_upto_if 69 with fail
   clear hBB hBB'
   go_cut [14] (fun s14 wx=>s14 = .int .i64 (e2 : Int)∧SP w0 wx (.blk XB 58 #[.int .u8 H.tos,.int .u16 H.id,.bool H.df,.bool m2,.int .i64 ho,.int .u8 H.ttl,.int .u8 H.proto,.int .u32 H.src,.int .u32 H.dst,.slice oA on oc]::.row 22 1 Ag j cg (G.map gV)::(G.map gIT++(.blk HB 58 #[.int .u8 H.tos,.int .u16 H.id,.bool H.df,.bool H.mf,.int .i64 H.off,.int .u8 H.ttl,.int .u8 H.proto,.int .u32 H.src,.int .u32 H.dst,.slice oA on oc]::.own .u8 5 oA on oc (optsOf zs)::L))))
   case first =>
    have y3 : wu.cell? ⟨XB,3,none⟩=some (.bool H.mf):=Z2.out.cell 0 rfl 3 (v:=.bool H.mf) rfl
    have q3 : wu.frozen? ⟨XB,3,none⟩=false:=Z2.out.free 0 rfl 3
    have HM3:=Lib.hid hm3
    clear hm3
    cases BB
    ·go_wp2_with fail
     go_meet
     have h1:=HM3.out
     rw [HBBN.out,Bool.or_false] at h1
     have h2 : ¬ i + sz < dn:=by have:=HBBN.out;simpa using this
     have h3 : e2=dn:=by omega
     subst h3
     refine ⟨rfl,?_⟩
     rw [<- h1]
     exact Z2.out
    ·have Z3:=Lib.hid (show SP w0 (wu.setCell ⟨XB,3,none⟩ (.bool true)) (.blk XB 58 #[.int .u8 H.tos,.int .u16 H.id,.bool H.df,.bool true,.int .i64 ho,.int .u8 H.ttl,.int .u8 H.proto,.int .u32 H.src,.int .u32 H.dst,.slice oA on oc]::.row 22 1 Ag j cg (G.map gV)::(G.map gIT++(.blk HB 58 #[.int .u8 H.tos,.int .u16 H.id,.bool H.df,.bool H.mf,.int .i64 H.off,.int .u8 H.ttl,.int .u8 H.proto,.int .u32 H.src,.int .u32 H.dst,.slice oA on oc]::.own .u8 5 oA on oc (optsOf zs)::L))) from Z2.out.setB 0 rfl 3 (.bool true))
     go_wp2_with fail
     go_meet
     have h1:=HM3.out
     rw [HBBN.out,Bool.or_true] at h1
     have h2 : i + sz < dn:=by have:=HBBN.out;simpa using this
     have h3 : e2=en:=by have:=HEN.out;omega
     subst h3
     refine ⟨rfl,?_⟩
     rw [<- h1]
     exact Z3.out
   case rest =>
   obtain ⟨rfl,hX⟩:=hcut
   have ZX:=Lib.hid hX
   have hZ:=HE2.out
   obtain ⟨z1,z2,z3⟩:=hZ
   have HPC:=Lib.hid (show (pieceF f sz j).h=(⟨H.tos,H.id,H.df,m2,ho,H.ttl,H.proto,H.src,H.dst⟩ : HD)∧(pieceF f sz j).o=optsOf zs∧(pieceF f sz j).d=(f.d.drop i).take (e2 - i)∧Rightly (pieceF f sz j).h.off (pieceF f sz j).h.mf on (pieceF f sz j).d.length∧(pieceF f sz j).h.WF from by
    refine ⟨?_,HFO2.out,?_,HFR.out j (by rw [HJ.out.1];exact hlt),pieceF_wf HFO.out (by rw [HDL.out,HJ.out.1];exact hlt)⟩
    ·rw [<- HM2.out]
     unfold pieceF
     simp only
     rw [HFH.out,HJ.out.1,HHO.out]
    ·rw [z3,<- HDL.out]
     show (f.d.drop (sz * j)).take sz=(f.d.drop i).take _
     rw [HJ.out.1,<- List.length_drop,List.take_eq_take_iff]
     omega)
   have hedc : e2<=dc:=by omega
   have s1:=fun W=>run_slice_lohi (P:=Tryz.prog) W Tryz.underlying22 hi hz1 SA dn dc (i : Int) (e2 : Int) i e2 rfl rfl z1 hedc
   obtain ⟨SB,hSB⟩ : ∃ x,cutA SA dc i=x:=⟨_,rfl⟩
   have HSB:=Lib.hid hSB
   rw [hSB] at s1
   obtain ⟨ml,hml⟩ : ∃ x,e2 - i=x:=⟨_,rfl⟩
   have HML:=Lib.hid hml
   rw [hml] at s1
   clear hX Z2 hSB hml z3 hm3
   have XD:=Lib.hid ZX.out.drew
   clear ZX
   go_upto_region 21 with fail
   refine wp_region_noPanic ?_
   refine wp_region_held_drew (S:=fun W'=>BLOCK W' XB 58 #[.int .u8 H.tos,.int .u16 H.id,.bool H.df,.bool m2,.int .i64 ho,.int .u8 H.ttl,.int .u8 H.proto,.int .u32 H.src,.int .u32 H.dst,.slice oA on oc]) (by kernel_rfl) (by exact XD.out.blk 0 rfl) (fun hHeld=>?_)
   generalize wc.drew=v1 at XD hHeld ⊢
   refine' take_lit (i:=0) (v:=.agg (#[.int .u8 H.tos,.int .u16 H.id,.bool H.df,.bool m2,.int .i64 ho,.int .u8 H.ttl,.int .u8 H.proto,.int .u32 H.src,.int .u32 H.dst,.slice oA on oc])) rfl (by kernel_rfl) (by kernel_rfl) (by kernel_rfl) (fun _ _ _ h=>h) (Or.inl ⟨by rfl,?yy1⟩) (by assumption) ?rr1
   case yy1=>intro w' hSw;exact exec_load_row 58 _ rfl XB rfl 58 (#[.int .u8 H.tos,.int .u16 H.id,.bool H.df,.bool m2,.int .i64 ho,.int .u8 H.ttl,.int .u8 H.proto,.int .u32 H.src,.int .u32 H.dst,.slice oA on oc]) (0,0) _ (hSw) Tryz.underlying58 rfl (by kernel_rfl)
   try simp only [Act.put,jA,jB,jC]
   refine' tk (i:=1) rfl ?U2 ?V2
   case U2=>intro w' hSw;(try dsimp only at hSw);go_simp;try (with_reducible rfl)
   try simp only [Act.put,jA,jB,jC]
   refine' tk (i:=2) rfl ?U3 ?V3
   case U3=>intro w' hSw;(try dsimp only at hSw);go_simp;try (with_reducible rfl)
   try simp only [Act.put,jA,jB,jC]
   refine' tk (i:=3) rfl ?U4 ?V4
   case U4=>intro w' hSw;(try dsimp only at hSw);go_simp;try (with_reducible rfl)
   try simp only [Act.put,jA,jB,jC]
   refine' tk (i:=4) rfl ?U5 ?V5
   case U5=>intro w' hSw;(try dsimp only at hSw);go_simp;try (with_reducible rfl)
   try simp only [Act.put,jA,jB,jC]
   refine rdy [5] ?_
   refine cons_lit rfl (fun K hK=>?ss5x6) AllReadyH.nil
   case ss5x6 =>
    go_simp
    refine (r5Write_any ⟨H.tos,H.id,H.df,m2,ho,H.ttl,H.proto,H.src,H.dst⟩ oA on oc (optsOf zs) SB ml (dc - i) (pieceF f sz j).d v1 (by have:=HPC.out.2.2.2.2;rw [HPC.out.1] at this;exact this) (XD.out.tail.tail.right.rd 1 rfl) ?bo ?rdd (by have:=HPC.out.2.2.2.1.2.2.2.1;omega) (by have:=HML.out;omega)).mono ?_
    case bo=>rw [<- HFO2.out];exact HFO.out.op.1
    case rdd =>
     have h2:=(HRD.out v1 XD.out.tail.tail.right.tail.tail).mid (lo:=i) (hi:=e2) z1 z2 hdnc
     rw [HSB.out,<- HPC.out.2.2.1,HML.out] at h2
     exact h2
    rintro e v2 ⟨A9,n9,c9,rfl,ho9,hb9⟩
    have hwr : wrB ⟨H.tos,H.id,H.df,m2,ho,H.ttl,H.proto,H.src,H.dst⟩ (optsOf zs) (pieceF f sz j).d=bytesF (pieceF f sz j):=by
     have h2:=HPC.out.2.2.2.1
     have h3 : (pieceF f sz j).h=(⟨H.tos,H.id,H.df,m2,ho,H.ttl,H.proto,H.src,H.dst⟩ : HD):=HPC.out.1
     unfold wrB bytesF
     rw [<- h3,HON.out,if_pos h2,HPC.out.2.1]
    rw [hwr] at ho9
    have Y1:=Lib.hid (show SP w0 v2 (.own .u8 5 A9 n9 c9 (bytesF (pieceF f sz j))::.blk XB 58 #[.int .u8 H.tos,.int .u16 H.id,.bool H.df,.bool m2,.int .i64 ho,.int .u8 H.ttl,.int .u8 H.proto,.int .u32 H.src,.int .u32 H.dst,.slice oA on oc]::.row 22 1 Ag j cg (G.map gV)::(G.map gIT++(.blk HB 58 #[.int .u8 H.tos,.int .u16 H.id,.bool H.df,.bool H.mf,.int .i64 H.off,.int .u8 H.ttl,.int .u8 H.proto,.int .u32 H.src,.int .u32 H.dst,.slice oA on oc]::.own .u8 5 oA on oc (optsOf zs)::L))) from (XD.out.pushOwn hb9 ho9).rot)
    clear ho9 hb9 XD hwr
    try simp only [Oper.upon_returned]
    refine hK.out _ _ (by exact Y1.out.blk 1 rfl) (fun hHeld=>?_)
    clear hK K
    try simp only [Act.put,jA,jB,jC]
    refine' tk (i:=6) rfl ?U7 ?V7
    case U7=>intro w' hSw;(try dsimp only at hSw);go_simp;try (with_reducible rfl)
    try simp only [Act.put,jA,jB,jC]
    refine' tk (i:=7) rfl ?U8 ?V8
    case U8=>intro w' hSw;(try dsimp only at hSw);go_simp;try (with_reducible rfl)
    try simp only [Act.put,jA,jB,jC]
    refine' tk (i:=8) rfl ?U9 ?V9
    case U9=>intro w' hSw;(try dsimp only at hSw);go_simp;try (with_reducible rfl)
    try simp only [Act.put,jA,jB,jC]
    refine' tk (i:=9) rfl ?U10 ?V10
    case U10=>intro w' hSw;(try dsimp only at hSw);go_simp;try (with_reducible rfl)
    try simp only [Act.put,jA,jB,jC]
    refine' tk (i:=10) rfl ?U11 ?V11
    case U11=>intro w' hSw;(try dsimp only at hSw);go_simp;try (with_reducible rfl)
    try simp only [Act.put,jA,jB,jC]
    refine wpAnyH_done (by kernel_rfl) ?_ _
    refine NoPanic.normal ?_
    clear s1
    obtain ⟨QB,hQB⟩ : ∃ b,v2.heap.size=b:=⟨_,rfl⟩
    have Y2:=Lib.hid (show SP w0 (v2.alloc (.cells #[.slice A9 n9 c9] 22)) (.row 22 1 Ag j cg (G.map gV)::.own .u8 5 A9 n9 c9 (bytesF (pieceF f sz j))::.blk XB 58 #[.int .u8 H.tos,.int .u16 H.id,.bool H.df,.bool m2,.int .i64 ho,.int .u8 H.ttl,.int .u8 H.proto,.int .u32 H.src,.int .u32 H.dst,.slice oA on oc]::(G.map gIT++(.blk HB 58 #[.int .u8 H.tos,.int .u16 H.id,.bool H.df,.bool H.mf,.int .i64 H.off,.int .u8 H.ttl,.int .u8 H.proto,.int .u32 H.src,.int .u32 H.dst,.slice oA on oc]::.own .u8 5 oA on oc (optsOf zs)::L))) from (Y1.out.next ((Below.refl _ _).alloc (Nat.le_refl _) _)).pickT3)
    have HN1:=Lib.hid (fun (jj : Nat) (u : Value) (hu : [(.slice A9 n9 c9 : Value)][jj]?=some u)=>one_new v2 22 _ jj u hu)
    rw [hQB] at HN1
    go_wp2_with (refine wpList_append_row1 _ rfl _ _ 25 rfl w0.heap.size 22 i9 _ 1 24 Tryz.underlying25 hi9 hy0 hy1 hy2 (by rfl) (by decide) Ag j cg (G.map gV) rfl (Y2.out.row 0 rfl) ⟨QB,0,none⟩ 1 1 [.slice A9 n9 c9] rfl rfl HN1.out (by intro z hz;simp at hz;subst hz;rfl) (by simp only [maxLen];omega) (by omega) Y2.out.size ?_;intro A8 c8 w8 hrow hgrow hat;have Y3:=Lib.hid (Y2.out.appRow 0 rfl hrow hgrow hat);clear hrow hgrow hat)
    go_roundw
    case rel =>
     have h9 : (sz * (j + 1))=en:=by rw [Nat.mul_add,Nat.mul_one,HJ.out.1,HEN.out]
     refine ⟨j + 1,en,A8,c8,G++[(⟨A9,n9,c9⟩,bytesF (pieceF f sz j))],h9,by have:=HJ.out.2;omega,rfl,by go_num,by rw [List.length_append,HG.out.2.1];rfl,?_,?_⟩
     ·rw [List.map_append,HG.out.2.2,List.take_add_one,pieces_get (by rw [HDL.out];exact HJ.out.2),List.map_append]
      rfl
     ·have h8 : SP w0 w8 (.row 22 1 A8 (j + 1) c8 (G.map gV++[.slice A9 n9 c9])::.own .u8 5 A9 n9 c9 (bytesF (pieceF f sz j))::.blk XB 58 #[.int .u8 H.tos,.int .u16 H.id,.bool H.df,.bool m2,.int .i64 ho,.int .u8 H.ttl,.int .u8 H.proto,.int .u32 H.src,.int .u32 H.dst,.slice oA on oc]::(G.map gIT++(.blk HB 58 #[.int .u8 H.tos,.int .u16 H.id,.bool H.df,.bool H.mf,.int .i64 H.off,.int .u8 H.ttl,.int .u8 H.proto,.int .u32 H.src,.int .u32 H.dst,.slice oA on oc]::.own .u8 5 oA on oc (optsOf zs)::L))):=Y3.out
      rw [List.map_append,List.map_append,List.append_assoc]
      refine (h8.sub (List.Sublist.cons_cons _ (List.Sublist.cons_cons _ (List.sublist_cons_self _ _)))).perm (List.Perm.cons _ ?_)
      exact List.perm_middle.symm
    case measure=>simp [intOf];omega
  ·have t1 : ¬ (i : Int) < (dn : Int):=by omega
   have hjc : j=cnt dn sz:=by
    have h2 : ¬ j < cnt dn sz:=fun h=>by have:=(lt_cnt (n:=dn) (k:=j) (size:=sz) (by omega)).1 h;omega
    omega
   have HJ:=Lib.hid hjc
   clear hjc
   go_wp2_with fail
   go_ret2
   have hsp : splitA zs (sz : Int)=((pieces f sz).map bytesF,0):=by
    unfold splitA
    rw [if_neg (by rw [HOK.out];simp),if_neg (by simp [HF.out]),HFF.out,if_neg (by rw [HDL.out];have:=HLE.out;omega),HDF.out,if_neg (by simp),Int.toNat_natCast]
   show SPLITD w0 L zs (sz : Int) (.returned (.tuple #[.slice Ag j cg,.int .i64 0])) wr
   refine ⟨Ag,cg,G,by rw [HG.out.2.1,hsp],?_,?_⟩
   ·rw [hsp,HG.out.2.2,List.take_of_length_le]
    unfold pieces
    rw [List.length_map,List.length_range,HDL.out,HJ.out]
    exact Nat.le_refl _
   ·have h2:=Y.out
    rw [<- HG.out.2.1] at h2
    refine h2.sub (List.Sublist.cons_cons _ (List.Sublist.append_left ?_ _))
    exact List.Sublist.cons _ (List.sublist_cons_self _ _)
def RDL (W : World) (LA : Option Addr) (G : List (SD × List Int)) : Prop :=
 ∀ (i : Nat) (g : SD × List Int),G[i]?=some g->(∃ b off,LA=some ⟨b,off,none⟩∧W.cell? ⟨b,off + i,none⟩=some g.1.val)∧RD .u8 W W.heap.size g.1.A g.1.n g.2∧g.1.n<=140737488351232
theorem RDL.drewN {W : World} {LA : Option Addr} {G : List (SD × List Int)} (H : RDL W LA G) (m : Nat) : RDL (W.drewN m) LA G:=fun i g hg=>by
 obtain ⟨h1,h2,h3⟩:=H i g hg
 exact ⟨h1,h2.later (below_drewN (Below.refl _ W) m),h3⟩
theorem rdl_row {w0 W : World} {R : List IT} {LA : Option Addr} {n c : Nat} {G : List (SD × List Int)} (H : SP w0 W R) (hr : .row 22 1 LA n c (G.map gV) ∈ R) (hG : ∀ g ∈ G,gIT g ∈ R) (hlen : ∀ g ∈ G,g.2.length<=100000) : RDL W LA G:=by
 intro i g hg
 have hm:=List.mem_of_getElem? hg
 have h1 : W.ownsRow w0.heap.size 22 1 (.slice LA n c) n (G.map gV):=H.mem _ hr
 have h2 : OWN .u8 5 W w0.heap.size g.1.A g.1.n g.1.c g.2:=H.mem _ (hG g hm)
 have hgv : (G.map gV)[i]?=some g.1.val:=by rw [List.getElem?_map,hg];rfl
 have hn : n=G.length:=by have:=h1.1;simp at this;omega
 have hi : i < n:=by rw [hn];exact (List.getElem?_eq_some_iff.1 hg).1
 refine ⟨?_,h2.rd,by have:=h2.len;have:=hlen g hm;omega⟩
 rcases h1.2 with ⟨_,h3⟩ | ⟨b,cap,cur,h3,_⟩
 ·omega
 ·simp at h3
  obtain ⟨rfl,rfl⟩:=h3
  refine ⟨b,0,rfl,?_⟩
  rw [Nat.zero_add,World.ownsRow.cellAt h1 i (by omega)]
  exact hgv
theorem quiet_dN {P : Program} {f : FuncId} {args : Array Value} {w : World} {a n : Nat} {v : Value}
 (h : Calls P f args (w.drewN (a + n)) fun e w'=>e = .returned v∧∃ m,w'=(w.drewN (a + n)).drewN m) : Calls P f args (w.drewN (a + n)) fun e w''=>e = .returned v∧∃ m,w''=w.drewN (a + m) :=
 h.mono fun _ _ ⟨he,m,hm⟩=>⟨he,n + m,by rw [hm,World.drewN_drewN,Nat.add_assoc]⟩
set_option maxHeartbeats 2000000 in
set_option maxRecDepth 100000 in
theorem samelists_yes (A1 A2 : Option Addr) (n c1 c2 : Nat) (G1 G2 : List (SD × List Int)) (w : World) (h1 : RDL w A1 G1) (h2 : RDL w A2 G2) (hl : G1.length=n) (he : G1.map (·.2)=G2.map (·.2)) (hn : n<=100000) :
 Calls Tryz.prog 44 #[.slice A1 n c1,.slice A2 n c2] w fun e w'=>e = .returned (.bool true)∧∃ m,w'=w.drewN m:=by
 have H1:=Lib.hid h1
 have H2:=Lib.hid h2
 have HL:=Lib.hid (And.intro hl he)
 have ht : ((n : Int) != (n : Int))=false:=by simp
 clear h1 h2 hl he
 go_enter Tryz.func44,Tryz.ntmps44
 go_wp2
 go_loopw [5] (fun i wr=>∃ k : Nat,k<=n∧i = .int .i64 k∧∃ m,wr=w.drewN m) (fun i _=>n - (intOf i).toNat)
 case atStart=>exact ⟨0,Nat.zero_le _,rfl,0,rfl⟩
 case round =>
  obtain ⟨k,hk,rfl,m,rfl⟩:=hrel
  by_cases hlt : k < n
  ·obtain ⟨g1,hg1⟩ : ∃ g,G1[k]?=some g:=⟨_,List.getElem?_eq_getElem (by rw [HL.out.1];exact hlt)⟩
   have hb : (G2.map (·.2))[k]?=some g1.2:=by rw [<- HL.out.2,List.getElem?_map,hg1];rfl
   rw [List.getElem?_map] at hb
   obtain ⟨g2,hg2,hb⟩:=Option.map_eq_some_iff.1 hb
   obtain ⟨⟨b1,o1,rfl,x1⟩,p1,q1⟩:=(H1.out.drewN m) k g1 hg1
   obtain ⟨⟨b2,o2,rfl,x2⟩,p2,q2⟩:=(H2.out.drewN m) k g2 hg2
   obtain ⟨⟨B1,m1,d1⟩,z1⟩:=g1
   obtain ⟨⟨B2,m2,d2⟩,z2⟩:=g2
   simp only at hb p1 p2 q1 q2
   subst hb
   replace x1 : w.cell? ⟨b1,o1 + k,none⟩=some (.slice B1 m1 d1):=x1
   replace x2 : w.cell? ⟨b2,o2 + k,none⟩=some (.slice B2 m2 d2):=x2
   have HS:=Lib.hid (fun j : Nat=>(show Calls Tryz.prog 28 #[.slice B1 m1 d1,.slice B2 m2 d2] (w.drewN j) (fun e w'=>e = .returned (.bool true)∧∃ m,w'=(w.drewN j).drewN m) by
    have h5:=same_any B1 B2 m1 d1 m2 d2 z2 z2 (w.drewN j) ((show RD .u8 w w.heap.size B1 m1 z2 from (H1.out k _ hg1).2.1).later (below_drewN (Below.refl _ w) j)) ((show RD .u8 w w.heap.size B2 m2 z2 from (H2.out k _ hg2).2.1).later (below_drewN (Below.refl _ w) j)) (by omega) (by omega)
    rw [show (z2 == z2)=true by simp] at h5
    exact h5))
   have i1 : (0 : Int)<=(k : Int):=by omega
   have i2 : (k : Int) < (n : Int):=by omega
   clear p1 p2 q1 q2 hg1 hg2 H1 H2 HL
   go_wp2_with fail
   go_quiet (first | (go_at_call 28;with_reducible exact quiet_dN (HS.out _)))
   have e6 : IntKind.i64.wrap ((k : Int) + 1)=(k : Int) + 1:=IntWalk.i64_in _ (by omega)
   go_wp2_with fail
   go_roundw
   case rel=>exact ⟨k + 1,by omega,by go_num,_,rfl⟩
   case measure=>simp [intOf];omega
  ·have t1 : ¬ (k : Int) < (n : Int):=by omega
   go_wp2
   go_ret
   exact ⟨rfl,_,rfl⟩
theorem wpList_append_row1_w {P : Program} (w : World) {ops : Array Oper} {rest : List Oper} {o : Oper} {a : Act} {Q : Exit->Act->World->Prop} (hwant : Region.wanted o (yielded ops a.tmps)=true) (s x : Operand) (t : TypeId)
 (ho : o.op = .call { callee:=.builtin .append,args:=#[s,x],argTypes:=#[t,t] })
 (base : Nat) (e : TypeId) (i : TypeInfo) (z : Value) (size bytes : Nat) (ht : P.underlying t=some (.slice e)) (hi : P.info? e=some i) (hz : i.zero=some z)
 (hsize : i.size=size) (hby : i.bytes=bytes) (hzs : z.cells.size=size) (hsz : 0 < size)
 (A : Option Addr) (n c : Nat) (xs : List Value) (hs : a.eval s = .slice A n c) (hown : w.ownsRow base e size (.slice A n c) n xs)
 (ad : Addr) (m c2 : Nat) (news : List Value) (hx : a.eval x = .slice (some ad) m c2) (hl : news.length=m * size) (hnews : ∀ j u,news[j]?=some u->w.cell? (ad.add j)=some u) (h1 : ∀ u ∈ news,u.oneCell'=true)
 (h63 : n + m<=maxLen) (hbytes : (n + m) * bytes<=140737488355328) (hbase : base<=w.heap.size)
 (h : ∀ A' c' w',w'.ownsRow base e size (.slice A' (n + m) c') (n + m) (xs++news)->w.grownBy w' (A.map (·.block))->(A'.map (·.block)=A.map (·.block)∨A'.map (·.block)=some w.heap.size)->wpList P ops Q rest (a.put o.dst (.slice A' (n + m) c')) w') :
 wpList P ops Q (o::rest) a w:=by
 have blk : ∀ (A : Option Addr) (n c : Nat),Value.ownBlock (.slice A n c)=A.map (·.block):=fun A n c=>by cases A <;> rfl
 refine Go.BigFrame.wpList_want hwant fun K hK=>?_
 obtain ⟨v',w',hr,h2,h3,h4,h5⟩:=run_append_own_at (P:=P) w base t o.type e i z size bytes ht hi hz hsize hby hzs hsz (.slice A n c) n xs hown ad m c2 news hl hnews h1 h63 hbytes hbase
 obtain ⟨A',c',rfl⟩ : ∃ A' c',v' = .slice A' (n + m) c':=by
  rcases h2.2 with ⟨rfl,e0⟩ | ⟨g,cap,cur,rfl,_⟩
  ·exact ⟨none,0,by rw [e0]⟩
  ·exact ⟨_,_,rfl⟩
 rw [blk] at h3
 rw [blk,blk] at h5
 unfold Oper.wp execOp
 simp only [ho,resolve,invoke,builtin,Sem.run_bind,Sem.run_pure,Result.andThen_ok,List.map_toArray,List.map_cons,List.map_nil,hs,hx,hr]
 exact hK _ _ (h A' c' w' h2 h3 h5)
theorem lists7_yes (A1 A2 : Option Addr) (n c1 c2 : Nat) (G1 G2 : List (SD × List Int)) (w : World) (h1 : RDL w A1 G1) (h2 : RDL w A2 G2) (hl : G1.length=n) (he : G1.map (·.2)=G2.map (·.2)) (hn : n<=100000) :
 Calls Tryz.prog 16 #[.slice A1 n c1,.slice A2 n c2] w fun e w'=>e = .returned (.bool true)∧∃ m,w'=w.drewN m:=by
 have HS:=Lib.hid (samelists_yes A1 A2 n c1 c2 G1 G2 w h1 h2 hl he hn)
 clear h1 h2 hl he
 go_enter Tryz.func16,Tryz.ntmps16
 go_wp2_with fail
 refine HS.out.mono ?_
 rintro e w1 ⟨rfl,m,rfl⟩
 go_wp2_with fail
 go_ret
 exact ⟨rfl,m,rfl⟩
theorem cnt_small {n s : Nat} (hn : n<=400) (hs : 8<=s) : cnt n s<=60:=by
 refine Nat.le_of_not_lt fun hlt=>?_
 have h1:=(lt_cnt (n:=n) (k:=60) (by omega)).1 hlt
 omega
theorem splitA_bound {zs : List Int} (hz : zs.length<=400) (size : Int) : (splitA zs size).1.length<=60∧∀ z ∈ (splitA zs size).1,z.length<=100000:=by
 unfold splitA
 split
 ·exact ⟨by simp,fun z hz=>by cases hz⟩
 rename_i h0
 split
 ·exact ⟨by simp,fun z hz=>by cases hz⟩
 split
 ·refine ⟨by simp,fun z hzm=>?_⟩
  simp at hzm
  subst hzm
  simp;omega
 split
 ·exact ⟨by simp,fun z hz=>by cases hz⟩
 have hok : 8<=size:=by
  have : sizeOk size=true:=by simpa using h0
  unfold sizeOk at this
  simp at this;omega
 have hd : (frOf zs).d.length<=400:=by
  show (((zs.drop _).take _)).length<=400
  simp;omega
 have ho : (frOf zs).o.length<=400:=by
  show ((zs.drop 20).take _).length<=400
  simp;omega
 constructor
 ·unfold pieces
  simp only [List.length_map,List.length_range]
  exact cnt_small hd (by omega)
 ·intro z hzm
  obtain ⟨p,hp,rfl⟩:=List.mem_map.1 hzm
  unfold pieces at hp
  obtain ⟨j,_,rfl⟩:=List.mem_map.1 hp
  show (pktB _ _ _).length<=_
  rw [pkt_len]
  have h1:=pieceF_len (frOf zs) size.toNat j
  have h2 : (pieceF (frOf zs) size.toNat j).o=(frOf zs).o:=rfl
  rw [h2]
  omega
theorem row_cells {W : World} {base : Nat} {lg n c : Nat} {vs : List Value} (h : W.ownsRow base 22 1 (.slice (some ⟨lg,0,none⟩) n c) n vs) : ∀ (j : Nat) (u : Value),vs[j]?=some u->W.cell? ((⟨lg,0,none⟩ : Addr).add j)=some u:=by
 intro j u hu
 have hl:=h.1
 have hj:=(List.getElem?_eq_some_iff.1 hu).1
 rw [Addr.add_mid,Nat.zero_add,World.ownsRow.cellAt h j (by omega)]
 exact hu
set_option maxHeartbeats 1200000 in
set_option maxRecDepth 100000 in
theorem splits7_any (A : Option Addr) (n c : Nat) (zs : List Int) (size : Int) (w : World) (h : RD .u8 w w.heap.size A n zs) (hz : BD 255 zs) (hnc : n<=c) (hsz : size<=9223372036854775807) (hsz0 : -9223372036854775808<=size) :
 Calls Tryz.prog 5 #[.slice A n c,.int .i64 size] w fun e w'=>e = .returned (.bool true)∧Below w.heap.size w w':=by
 have HRD:=Lib.hid (fun (W : World) (hb : Below w.heap.size w W)=>(h.below hb).more hb.size)
 have HZ:=Lib.hid hz
 have HZL:=Lib.hid h.len
 by_cases hn : 400 < n
 ·have t1 : (400 : Int) < (n : Int):=by omega
  go_enter Tryz.func5,Tryz.ntmps5
  go_wp2_with fail
  go_ret
  exact ⟨rfl,Below.refl _ _⟩
 have t1 : ¬ (400 : Int) < (n : Int):=by omega
 have hn4 : n<=400:=by omega
 have HL:=Lib.hid (lent_any A n c zs w h (by omega))
 have HSZ:=Lib.hid (And.intro hsz hsz0)
 obtain ⟨hb1,hb2⟩:=splitA_bound (zs:=zs) (by rw [HZL.out];exact hn4) size
 have HB1:=Lib.hid hb1
 have HB2:=Lib.hid hb2
 clear h hz hn hsz hsz0 hb1 hb2
 go_enter Tryz.func5,Tryz.ntmps5
 go_wp2_with fail
 refine HL.out.mono ?_
 rintro e w1 ⟨Al,n1,rfl,hn1,ho,hb⟩
 obtain rfl : n1=n:=by rw [hn1];exact HZL.out
 have X1:=Lib.hid (show SP w w1 [.own .u8 5 Al (n1 + 12) (n1 + 12) (zs++marksFrom 1 0 12)] from (SP.start w).pushOwn hb ho)
 have RA:=Lib.hid (fun (W : World) (hS : SP w W [.own .u8 5 Al (n1 + 12) (n1 + 12) (zs++marksFrom 1 0 12)])=>(show RD .u8 W W.heap.size Al n1 zs from by
  have h2:=(hS.rd 0 rfl).take (m:=n1) (by omega)
  rw [List.take_left' HZL.out] at h2
  exact h2))
 clear ho hb HL hn1
 go_wp2_with fail
 refine (tsplit Al n1 (n1 + 12) zs size X1.out (fun W hS=>RA.out W hS) HZ.out (by omega) (by omega) HSZ.out.1 HSZ.out.2).mono ?_
 rintro e w2 ⟨LA,ln,lc,G,rfl,hGl,hGm,hS⟩
 have X2:=Lib.hid hS
 have HG:=Lib.hid (And.intro hGl hGm)
 have hln : ln<=60:=by have h2:=HB1.out;rw [<- hGm,List.length_map,hGl] at h2;exact h2
 clear hS hGl hGm X1
 go_wp2_with fail
 refine (r7split_any A n1 c zs size X2.out (fun W hS=>HRD.out W hS.bel) HZ.out hnc hn4 HSZ.out.1 HSZ.out.2).mono ?_
 rintro e w3 ⟨LB,lcb,G2,rfl,hG2m,hS⟩
 have hl2 : G2.length=ln:=by
  have h2:=congrArg List.length hG2m
  rw [List.length_map,<- HG.out.2,List.length_map,HG.out.1] at h2
  exact h2
 rw [hl2] at hS ⊢
 have HG2:=Lib.hid (And.intro hl2 hG2m)
 have X3:=Lib.hid hS
 clear hS hl2 hG2m X2
 have hR1:=rdl_row (G:=G) X3.out (LA:=LA) (n:=ln) (c:=lc) (by simp) (fun g hg=>by simp only [List.mem_cons,List.mem_append];exact .inr (.inr (.inr (.inl (List.mem_map.2 ⟨g,hg,rfl⟩))))) (fun g hg=>HB2.out _ (by rw [<- HG.out.2];exact List.mem_map.2 ⟨g,hg,rfl⟩))
 have hR2:=rdl_row (G:=G2) X3.out (LA:=LB) (n:=ln) (c:=lcb) (by simp) (fun g hg=>by simp only [List.mem_cons,List.mem_append];exact .inr (.inl (List.mem_map.2 ⟨g,hg,rfl⟩))) (fun g hg=>HB2.out _ (by rw [<- HG2.out.2];exact List.mem_map.2 ⟨g,hg,rfl⟩))
 have HLI:=Lib.hid (lists7_yes LA LB ln lc lcb G G2 w3 hR1 hR2 HG.out.1 (by rw [HG.out.2,HG2.out.2]) (by omega))
 clear hR1 hR2
 obtain ⟨er,her⟩ : ∃ er,(splitA zs size).2=er:=⟨_,rfl⟩
 rw [her]
 go_wp2_with fail
 refine HLI.out.mono ?_
 rintro e w4 ⟨rfl,m4,rfl⟩
 have X4:=Lib.hid (show SP w (w3.drewN m4) (.row 22 1 LA ln lc (G.map gV)::(G.map gIT++[.own .u8 5 Al (n1 + 12) (n1 + 12) (zs++marksFrom 1 0 12)])) from (X3.out.drewN m4).tail.right)
 clear X3 HLI her
 generalize w3.drewN m4=w5 at X4 ⊢
 have HK:=Lib.hid (kept_any Al n1 zs A c w5 (HRD.out _ X4.out.bel) (X4.out.tail.right.rd 0 rfl) (by omega))
 go_wp2_with fail
 refine HK.out.mono ?_
 rintro e w6 ⟨rfl,m6,rfl⟩
 have X5:=Lib.hid (X4.out.drewN m6)
 clear X4 HK
 generalize w5.drewN m6=w7 at X5 ⊢
 obtain ⟨i9,hi9,hy0,hy1,hy2⟩:=info_parts (show (Tryz.prog.info? 22).map (fun i=>(i.zero,i.size,i.bytes))=some (some (.slice none 0 0),1,24) by kernel_rfl)
 have HGN:=Lib.hid (show ∀ g ∈ G,g.1.n<=140737488351232 from fun g hg=>by
  have h2 : OWN .u8 5 w7 w.heap.size g.1.A g.1.n g.1.c g.2:=X5.out.mem (gIT g) (by simp only [List.mem_cons,List.mem_append];exact .inr (.inl (List.mem_map.2 ⟨g,hg,rfl⟩)))
  have h3:=h2.len
  have h4:=HB2.out g.2 (by rw [<- HG.out.2];exact List.mem_map.2 ⟨g,hg,rfl⟩)
  omega)
 obtain ⟨EB,hEB⟩ : ∃ b,w7.heap.size=b:=⟨_,rfl⟩
 have X6:=Lib.hid (show SP w (w7.alloc (.cells #[] 22)) (.row 22 1 (some ⟨EB,0,none⟩) 0 0 []::.own .u8 5 Al (n1 + 12) (n1 + 12) (zs++marksFrom 1 0 12)::.row 22 1 LA ln lc (G.map gV)::G.map gIT) from by
  have h2:=(X5.out.allocRow7 22 1 0 #[] (Nat.zero_le _) rfl hEB).rot
  refine h2.perm (List.Perm.cons _ ?_)
  exact ((List.perm_append_comm (l₁:=G.map gIT) (l₂:=[_])).cons _).trans (List.Perm.swap _ _ _))
 clear X5
 rcases (X6.out.row 2 rfl).2 with ⟨hv,_⟩ | ⟨lg,cap,cur,hv,_⟩
 ·simp at hv
  obtain ⟨rfl,rfl,rfl⟩:=hv
  obtain rfl : G=[]:=List.length_eq_zero_iff.1 HG.out.1
  have X8:=Lib.hid (X6.out.next ((Below.refl _ _).alloc (Nat.le_refl _) (.cells #[.slice Al n1 (n1 + 12)] 22)))
  have HN1:=Lib.hid (fun (jj : Nat) (u : Value) (hu : [(.slice Al n1 (n1 + 12) : Value)][jj]?=some u)=>(show ((w7.alloc (.cells #[] 22)).alloc (.cells #[.slice Al n1 (n1 + 12)] 22)).cell? ((⟨EB + 1,0,none⟩ : Addr).add jj)=some u from by
   have h2:=one_new (w7.alloc (.cells #[] 22)) 22 _ jj u hu
   rw [show (w7.alloc (.cells #[] 22)).heap.size=EB + 1 by rw [<- hEB];simp] at h2
   exact h2))
  go_wp2_with (refine wpList_append_row1_w _ (by rfl) _ _ 25 rfl w.heap.size 22 i9 _ 1 24 Tryz.underlying25 hi9 hy0 hy1 hy2 (by rfl) (by decide) (some ⟨EB,0,none⟩) 0 0 [] rfl (X8.out.row 0 rfl) ⟨EB + 1,0,none⟩ 1 1 [.slice Al n1 (n1 + 12)] rfl rfl HN1.out (by intro z hz;simp at hz;subst hz;rfl) (by simp only [maxLen];omega) (by omega) X8.out.size ?_;intro Ay cy wY hrow hgrow hat;have X9:=Lib.hid (show SP w wY (.row 22 1 Ay (0 + 1) cy (([] : List (SD × List Int)).map gV++[.slice Al n1 (n1 + 12)])::.own .u8 5 Al (n1 + 12) (n1 + 12) (zs++marksFrom 1 0 12)::.row 22 1 none 0 0 []::([] : List (SD × List Int)).map gIT) from X8.out.appRow 0 rfl hrow hgrow hat);clear hrow hgrow hat)
  obtain ⟨hd1,hd2⟩:=spd_row (L:=(.row 22 1 Ay (0 + 1) cy (([] : List (SD × List Int)).map gV++[.slice Al n1 (n1 + 12)])::.own .u8 5 Al (n1 + 12) (n1 + 12) (zs++marksFrom 1 0 12)::.row 22 1 none 0 0 []::([] : List (SD × List Int)).map gIT)) [] 3 1 (fun j g hg=>by show (_::_::_::([] : List (SD × List Int)).map gIT)[3 + j]?=_;rw [show 3 + j=j + 1 + 1 + 1 by omega,List.getElem?_cons_succ,List.getElem?_cons_succ,List.getElem?_cons_succ,List.getElem?_map,hg];rfl) (by omega) HGN.out ⟨Al,n1,n1 + 12⟩ (n1 + 12) (zs++marksFrom 1 0 12) rfl (by show n1<=n1 + 12;omega) (by show n1<=_;omega)
  refine (sp_apart_row X9.out _ _ hd1 hd2 (by simp) Ay (0 + 1) cy (by simp) ?_).mono ?_
  ·have hr:=X9.out.row 0 rfl
   have el : (([] : List (SD × List Int)).map (fun g : SD × List Int=>g.1)++[(⟨Al,n1,n1 + 12⟩ : SD)]).length=0 + 1:=by simp
   have em : (([] : List (SD × List Int)).map (fun g : SD × List Int=>g.1)++[(⟨Al,n1,n1 + 12⟩ : SD)]).map SD.val=([] : List (SD × List Int)).map gV++[.slice Al n1 (n1 + 12)]:=by rw [List.map_append,List.map_map];rfl
   have:=lsr_of_own (L:=([] : List (SD × List Int)).map (fun g : SD × List Int=>g.1)++[(⟨Al,n1,n1 + 12⟩ : SD)]) (B:=Ay) (c:=cy) (base:=w.heap.size) (w:=wY) (by rw [el,em];exact hr)
   exact this
  rintro e w10 ⟨rfl,hb10⟩
  have XE:=Lib.hid (X9.out.bel.trans hb10)
  clear hb10
  go_wp2_with fail
  go_ret
  exact ⟨rfl,XE.out⟩
 ·simp at hv
  obtain ⟨rfl,rfl⟩:=hv
  have hcl:=row_cells (X6.out.row 2 rfl)
  have HCL:=Lib.hid hcl
  go_wp2_with (first
   | (refine wpList_append_row1_w _ (by rfl) _ _ 25 rfl w.heap.size 22 i9 _ 1 24 Tryz.underlying25 hi9 hy0 hy1 hy2 (by rfl) (by decide) Ax ln cx (G.map gV) rfl (X8.out.row 0 rfl) ⟨EC,0,none⟩ 1 1 [.slice Al n1 (n1 + 12)] rfl rfl HN1.out (by intro z hz;simp at hz;subst hz;rfl) (by simp only [maxLen];omega) (by omega) X8.out.size ?_;intro Ay cy wY hrow hgrow hat;have X9:=Lib.hid (show SP w wY (.row 22 1 Ay (ln + 1) cy (G.map gV++[.slice Al n1 (n1 + 12)])::.own .u8 5 Al (n1 + 12) (n1 + 12) (zs++marksFrom 1 0 12)::.row 22 1 (some ⟨lg,0,none⟩) ln lc (G.map gV)::G.map gIT) from X8.out.appRow 0 rfl hrow hgrow hat);clear hrow hgrow hat)
   | (refine wpList_append_row1_w _ (by rfl) _ _ 25 rfl w.heap.size 22 i9 _ 1 24 Tryz.underlying25 hi9 hy0 hy1 hy2 (by rfl) (by decide) (some ⟨EB,0,none⟩) 0 0 [] rfl (X6.out.row 0 rfl) ⟨lg,0,none⟩ ln lc (G.map gV) rfl (by have:=HG.out.1;simp;omega) HCL.out (gV_one _) (by simp only [maxLen];omega) (by omega) X6.out.size ?_;intro Ax cx wX hrow hgrow hat;have hX7 : SP w wX (.row 22 1 Ax (0 + ln) cx ([]++G.map gV)::.own .u8 5 Al (n1 + 12) (n1 + 12) (zs++marksFrom 1 0 12)::.row 22 1 (some ⟨lg,0,none⟩) ln lc (G.map gV)::G.map gIT):=X6.out.appRow 0 rfl hrow hgrow hat;clear hrow hgrow hat;rw [Nat.zero_add] at hX7 ⊢;obtain ⟨EC,hEC⟩ : ∃ b,wX.heap.size=b:=⟨_,rfl⟩;have X8:=Lib.hid (hX7.next ((Below.refl _ wX).alloc (Nat.le_refl _) (.cells #[.slice Al n1 (n1 + 12)] 22)));have HN1:=Lib.hid (fun (jj : Nat) (u : Value) (hu : [(.slice Al n1 (n1 + 12) : Value)][jj]?=some u)=>one_new wX 22 _ jj u hu);rw [hEC] at HN1;clear hX7))
  obtain ⟨hd1,hd2⟩:=spd_row (L:=(.row 22 1 Ay (ln + 1) cy (G.map gV++[.slice Al n1 (n1 + 12)])::.own .u8 5 Al (n1 + 12) (n1 + 12) (zs++marksFrom 1 0 12)::.row 22 1 (some ⟨lg,0,none⟩) ln lc (G.map gV)::G.map gIT)) G 3 1 (fun j g hg=>by show (_::_::_::G.map gIT)[3 + j]?=_;rw [show 3 + j=j + 1 + 1 + 1 by omega,List.getElem?_cons_succ,List.getElem?_cons_succ,List.getElem?_cons_succ,List.getElem?_map,hg];rfl) (by omega) HGN.out ⟨Al,n1,n1 + 12⟩ (n1 + 12) (zs++marksFrom 1 0 12) rfl (by show n1<=n1 + 12;omega) (by show n1<=_;omega)
  refine (sp_apart_row X9.out _ _ hd1 hd2 (by have:=HG.out.1;simp;omega) Ay (ln + 1) cy (by have:=HG.out.1;simp;omega) ?_).mono ?_
  ·have hr:=X9.out.row 0 rfl
   have el : (G.map (fun g : SD × List Int=>g.1)++[(⟨Al,n1,n1 + 12⟩ : SD)]).length=ln + 1:=by have:=HG.out.1;simp;omega
   have em : (G.map (fun g : SD × List Int=>g.1)++[(⟨Al,n1,n1 + 12⟩ : SD)]).map SD.val=G.map gV++[.slice Al n1 (n1 + 12)]:=by rw [List.map_append,List.map_map];rfl
   have:=lsr_of_own (L:=G.map (fun g : SD × List Int=>g.1)++[(⟨Al,n1,n1 + 12⟩ : SD)]) (B:=Ay) (c:=cy) (base:=w.heap.size) (w:=wY) (by rw [el,em];exact hr)
   exact this
  rintro e w10 ⟨rfl,hb10⟩
  have XE:=Lib.hid (X9.out.bel.trans hb10)
  clear hb10
  go_wp2_with fail
  go_ret
  exact ⟨rfl,XE.out⟩
set_option maxHeartbeats 1000000 in
set_option maxRecDepth 100000 in
theorem r7groups_any (r : RT) (A : Option Addr) (n c : Nat) (l : List EM) (w : World) (h : RTM w r A n c l) (hn : n<=100000) :
 Calls Tryz.prog 31 #[r.val A n c] w fun e w'=>∃ B d,e = .returned (.slice B n d)∧SP w w' [.row 122 7 B n d (l.flatMap EM.gcells)]:=by
 have H:=Lib.hid h.row
 obtain ⟨S,hS⟩ : ∃ b,w.heap.size=b:=⟨_,rfl⟩
 have X0:=Lib.hid ((SP.start w).alloc' (N:=S) 70 #[.int .i64 r.limit,.int .i64 r.life,.int .i64 r.now,.slice A n c] hS)
 clear h
 unfold RT.val
 go_enter Tryz.func31,Tryz.ntmps31
 go_upto_region 3 with fail
 obtain ⟨w1,hw1⟩ : ∃ w1,w1=w.alloc (.cells #[.int .i64 r.limit,.int .i64 r.life,.int .i64 r.now,.slice A n c] 70):=⟨_,rfl⟩
 rw [<- hw1] at X0 ⊢
 clear hw1
 obtain ⟨TC,hTC⟩ : ∃ v : Array Value,#[.int .i64 r.limit,.int .i64 r.life,.int .i64 r.now,.slice A n c]=v:=⟨_,rfl⟩
 have HTC:=Lib.hid hTC
 rw [hTC] at X0
 clear hTC
 have X1:=Lib.hid (show SP w w1 (.row 122 7 none 0 0 (([] : List EM).flatMap EM.gcells)::[.blk S 70 TC]) from (X0.out.pushRow 122 7).rot)
 obtain ⟨i0,hi0,hz0,hz1,hz2⟩:=info_parts (show (Tryz.prog.info? 122).map (fun i=>(i.zero,i.size,i.bytes))=some (some (.agg #[.int .u32 0,.int .u32 0,.int .u8 0,.int .u16 0,.int .i64 0,.int .i64 0,.bool false]),7,40) by kernel_rfl)
 clear X0
 go_loopw [3,4] (fun s3 s4 wr=>∃ (k : Nat) (B : Option Addr) (d : Nat),k<=n∧s3 = .slice B k d∧s4 = .int .i64 (k : Int)∧SP w wr (.row 122 7 B k d ((l.take k).flatMap EM.gcells)::[.blk S 70 TC])) (fun _ s4 _=>n - (intOf s4).toNat)
 case atStart=>exact ⟨0,none,0,Nat.zero_le _,rfl,rfl,by rw [List.take_zero];exact X1.out⟩
 case round =>
  obtain ⟨k,B,d,hk,rfl,rfl,Y0⟩:=hrel
  have Y:=Lib.hid Y0
  clear Y0 X1
  have k3 : wr.cell? ⟨S,3,none⟩=some (.slice A n c):=Y.out.cell 1 rfl 3 (by rw [<- HTC.out];rfl)
  by_cases hlt : k < n
  ·have t1 : (k : Int) < (n : Int):=by omega
   have t0 : (0 : Int)<=(k : Int):=by omega
   obtain ⟨x,hx⟩ : ∃ x,l[k]?=some x:=⟨_,List.getElem?_eq_getElem (by rw [H.out.len];exact hlt)⟩
   have HX:=Lib.hid hx
   obtain ⟨g,off,rfl,hg,hc⟩:=H.out.at_ k x hx
   have HC:=Lib.hid (show ∀ W,Below w.heap.size w W->W.rangeAt g (off + k * 8) x.gcells from fun W hb j v hv=>by
    have hj : j < x.gcells.length:=(List.getElem?_eq_some_iff.1 hv).1
    exact (hb.cell (p:=⟨g,_,none⟩) hg).trans (hc j v (by unfold EM.cells;rw [List.getElem?_append_left hj];exact hv)))
   have e6 : IntKind.i64.wrap ((k : Int) + 1)=(k : Int) + 1:=IntWalk.i64_in _ (by omega)
   clear hc hx hg
   obtain ⟨gs0,hgs0⟩ : ∃ gs0,l.take k=gs0:=⟨_,rfl⟩
   have HGS:=Lib.hid hgs0
   rw [hgs0] at Y
   clear hgs0
   have RA:=Lib.hid (show wr.rangeAt g (off + k * 8) [.int .u32 x.e.src,.int .u32 x.e.dst,.int .u8 x.e.proto,.int .u16 x.e.id,.int .i64 x.e.begin_,.int .i64 (x.e.bytes : Int),.bool x.e.dead] from HC.out wr Y.out.bel)
   obtain ⟨EB,hEB⟩ : ∃ b,wr.heap.size=b:=⟨_,rfl⟩
   have X8:=Lib.hid (Y.out.next ((Below.refl _ wr).alloc (Nat.le_refl _) (.cells #[.int .u32 x.e.src,.int .u32 x.e.dst,.int .u8 x.e.proto,.int .u16 x.e.id,.int .i64 x.e.begin_,.int .i64 (x.e.bytes : Int),.bool x.e.dead] 122)))
   have HN1:=Lib.hid (fun (jj : Nat) (u : Value) (hu : ([.int .u32 x.e.src,.int .u32 x.e.dst,.int .u8 x.e.proto,.int .u16 x.e.id,.int .i64 x.e.begin_,.int .i64 (x.e.bytes : Int),.bool x.e.dead] : List Value)[jj]?=some u)=>(show (wr.alloc (.cells #[.int .u32 x.e.src,.int .u32 x.e.dst,.int .u8 x.e.proto,.int .u16 x.e.id,.int .i64 x.e.begin_,.int .i64 (x.e.bytes : Int),.bool x.e.dead] 122)).cell? ((⟨EB,0,none⟩ : Addr).add jj)=some u from by
    have h2:=many_new wr 122 [.int .u32 x.e.src,.int .u32 x.e.dst,.int .u8 x.e.proto,.int .u16 x.e.id,.int .i64 x.e.begin_,.int .i64 (x.e.bytes : Int),.bool x.e.dead] jj u hu
    rw [hEB] at h2
    exact h2))
   go_upto_region 5 with fail
   go_wp2_with (first
    | (refine wpList_load_mid (by rfl) 122 _ (by rfl) g (off + k * 8) (by rfl) [.int .u32 x.e.src,.int .u32 x.e.dst,.int .u8 x.e.proto,.int .u16 x.e.id,.int .i64 x.e.begin_,.int .i64 (x.e.bytes : Int),.bool x.e.dead] _ RA.out Tryz.underlying122 rfl (by kernel_rfl) ?_)
    | (refine wpList_append_row1_w _ (by rfl) _ _ 77 rfl w.heap.size 122 i0 _ 7 40 Tryz.underlying77 hi0 hz0 hz1 hz2 (by rfl) (by decide) B k d (gs0.flatMap EM.gcells) rfl (X8.out.row 0 rfl) ⟨EB,0,none⟩ 1 1 [.int .u32 x.e.src,.int .u32 x.e.dst,.int .u8 x.e.proto,.int .u16 x.e.id,.int .i64 x.e.begin_,.int .i64 (x.e.bytes : Int),.bool x.e.dead] rfl rfl HN1.out (by intro z hz;simp at hz;rcases hz with rfl | rfl | rfl | rfl | rfl | rfl | rfl <;> rfl) (by simp only [maxLen];omega) (by omega) X8.out.size ?_;intro Ay cy wY hrow hgrow hat;have X9:=Lib.hid (X8.out.appRow 0 rfl hrow hgrow hat);clear hrow hgrow hat))
   go_roundw
   case rel =>
    refine ⟨k + 1,Ay,cy,by omega,rfl,by go_num,?_⟩
    have e1 : (l.take (k + 1)).flatMap EM.gcells=gs0.flatMap EM.gcells++x.gcells:=by
     rw [List.take_add_one,HX.out,HGS.out,List.flatMap_append]
     simp
    rw [e1]
    exact X9.out
   case measure=>simp [intOf];omega
  ·have t1 : ¬ (k : Int) < (n : Int):=by omega
   obtain rfl : k=n:=by omega
   have hs : l.take k=l:=List.take_of_length_le (by have:=H.out.len;omega)
   rw [hs] at Y
   go_wp2_with fail
   go_ret
   exact ⟨B,d,rfl,Y.out.sub (by simp)⟩
theorem flat_get {α : Type} (f : α->List Value) (m : Nat) (hf : ∀ x,(f x).length=m) : ∀ (l : List α) (i : Nat) (x : α),l[i]?=some x->∀ j,j < m->(l.flatMap f)[i * m + j]?=(f x)[j]?
 | [],i,x,h,j,hj=>by simp at h
 | y::l,0,x,h,j,hj=>by
   simp at h;subst h
   rw [List.flatMap_cons,Nat.zero_mul,Nat.zero_add,List.getElem?_append_left (by rw [hf];exact hj)]
 | y::l,i + 1,x,h,j,hj=>by
   rw [List.getElem?_cons_succ] at h
   have hm : (i + 1) * m=i * m + m:=Nat.succ_mul i m
   rw [List.flatMap_cons,List.getElem?_append_right (by rw [hf];omega),hf,show (i + 1) * m + j - m=i * m + j by omega]
   exact flat_get f m hf l i x h j hj
theorem em_len (x : EM) : x.cells.length=8:=rfl
theorem fm_len (x : FM) : x.cells.length=11:=rfl
theorem erow_of_row {w : World} {base n c : Nat} {B : Option Addr} {e : TypeId} {l : List EM} (h : w.ownsRow base e 8 (.slice B n c) n (l.flatMap EM.cells)) (hl : l.length=n) (hc : n<=c) (hok : ∀ x ∈ l,EMOK w x) : EROW w B n c l where
 len:=hl
 cap:=hc
 at_:=fun i x hx=>by
  have hi : i < n:=by rw [<- hl];exact (List.getElem?_eq_some_iff.1 hx).1
  obtain ⟨g,rfl,hg⟩:=row_head h (by omega)
  refine ⟨g,0,rfl,?_,fun j v hv=>?_⟩
  ·have h1:=hg (i * 8) (by omega)
   rw [show i * 8=i * 8 + 0 by rfl,flat_get EM.cells 8 em_len l i x hx 0 (by omega)] at h1
   refine Classical.byContradiction fun hn=>?_
   have h2 : w.heap[g]?=none:=Array.getElem?_eq_none (by omega)
   unfold World.cell? at h1
   rw [h2] at h1
   cases h1
  ·have hj : j < 8:=(List.getElem?_eq_some_iff.1 hv).1
   rw [Nat.zero_add,hg (i * 8 + j) (by omega),flat_get EM.cells 8 em_len l i x hx j hj]
   exact hv
 ok:=hok
theorem frow_of_row {w : World} {base n c : Nat} {B : Option Addr} {e : TypeId} {l : List FM} (h : w.ownsRow base e 11 (.slice B n c) n (l.flatMap FM.cells)) (hl : l.length=n) (hok : ∀ x ∈ l,FMOK w x) : FROW w B n l where
 len:=hl
 at_:=fun i x hx=>by
  have hi : i < n:=by rw [<- hl];exact (List.getElem?_eq_some_iff.1 hx).1
  obtain ⟨g,rfl,hg⟩:=row_head h (by omega)
  refine ⟨g,0,rfl,?_,fun j v hv=>?_⟩
  ·have h1:=hg (i * 11) (by omega)
   rw [show i * 11=i * 11 + 0 by rfl,flat_get FM.cells 11 fm_len l i x hx 0 (by omega)] at h1
   refine Classical.byContradiction fun hn=>?_
   have h2 : w.heap[g]?=none:=Array.getElem?_eq_none (by omega)
   unfold World.cell? at h1
   rw [h2] at h1
   cases h1
  ·have hj : j < 11:=(List.getElem?_eq_some_iff.1 hv).1
   rw [Nat.zero_add,hg (i * 11 + j) (by omega),flat_get FM.cells 11 fm_len l i x hx j hj]
   exact hv
 ok:=hok
end Go.Proofs.YtljbfnabnkkfeaaGreat
