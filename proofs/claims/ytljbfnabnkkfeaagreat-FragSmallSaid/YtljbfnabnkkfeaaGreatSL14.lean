import Derived.Test.YtljbfnabnkkfeaaGreatSL13
set_option linter.unusedVariables false
set_option linter.unusedSimpArgs false
/- Joined by program: FgQN, FgQO, FgQP, FgZ, WRef5R, WRef5, LIpTn, LIpHp, LIpWr. -/
namespace Go.Proofs.YtljbfnabnkkfeaaGreat
open Go.RowKit
structure GOODP (n : Int) (l : List FR) (i : Nat) : Prop where
 in_ : ∀ f ∈ l.take i,¬ BEYOND n f
 pw : (l.take i).Pairwise (fun g f=>¬ hitF f g)
theorem drewN_two (w : World) (a b : Nat) : w.drewN (a + b)=(w.drewN a).drewN b:=by
 first
  | simp [World.drewN,Nat.add_assoc]
  | simp [World.drewN,Nat.add_comm,Nat.add_left_comm]
theorem goodp_zero (n : Int) (l : List FR) : GOODP n l 0:=⟨fun f h=>by simp at h,by simp⟩
theorem GOODP.next {n : Int} {l : List FR} {i : Nat} {f : FR} (G : GOODP n l i) (hf : l[i]?=some f) (hb : ¬ BEYOND n f) (hh : ∀ g ∈ l.take i,¬ hitF f g) : GOODP n l (i + 1):=by
 have e : l.take (i + 1)=l.take i++[f]:=by rw [List.take_add_one,hf];rfl
 constructor
 ·rw [e]
  intro q hq
  rcases List.mem_append.1 hq with hq | hq
  ·exact G.in_ q hq
  ·simp at hq;subst hq;exact hb
 ·rw [e]
  refine List.pairwise_append.2 ⟨G.pw,List.pairwise_singleton _ _,fun q hq x hx=>?_⟩
  simp at hx;subst hx
  exact hh q hq
theorem spoilt_beyond {l : List FR} {f : FR} (hf : f ∈ l) (h : BEYOND (totF l).1 f) : ¬ GOODF l:=fun G=>G.in_ f hf h
theorem spoilt_hit {l : List FR} {i k : Nat} {f g : FR} (hki : k < i) (hf : l[i]?=some f) (hg : l[k]?=some g) (h : hitF f g) : ¬ GOODF l:=fun G=>by
 obtain ⟨h1,rfl⟩:=List.getElem?_eq_some_iff.1 hf
 obtain ⟨h2,rfl⟩:=List.getElem?_eq_some_iff.1 hg
 exact List.pairwise_iff_getElem.1 G.pw k i h2 h1 hki h
theorem frs_get {l : List FM} {i : Nat} {x : FM} (h : l[i]?=some x) : (frs l)[i]?=some x.f:=by unfold frs;rw [List.getElem?_map,h];rfl
theorem FMOK.ne {w : World} {x : FM} (h : FMOK w x) : x.f.d≠[] ↔ 0 < x.dn:=by
 have h1:=h.dn.1
 rw [<- h1]
 exact List.length_pos_iff.symm
set_option maxHeartbeats 4000000 in
set_option maxRecDepth 100000 in
theorem r7spoilt_any (A : Option Addr) (n c : Nat) (l : List FM) (w : World) (h : FROW w A n l) (hn : n<=100000) :
 Calls Tryz.prog 56 #[.slice A n c] w fun e w'=>e = .returned (.bool (decide (¬ GOODF (frs l))))∧∃ m,w'=w.drewN m:=by
 have H:=Lib.hid h
 have HT:=Lib.hid (r7total_any A n c l w h hn)
 have hle:=totF_le (frs l) (fun f hf=>by
  obtain ⟨x,hx,rfl⟩:=List.mem_map.1 hf
  exact (h.ok x hx).dn.2.2.2)
 have hl2 : (frs l).length=n:=by unfold frs;rw [List.length_map];exact h.len
 rw [hl2] at hle
 have h0:=(totF_none (frs l)).1
 obtain ⟨T,hT⟩ : ∃ t,(totF (frs l)).1=t:=⟨_,rfl⟩
 obtain ⟨M,hM⟩ : ∃ t,(totF (frs l)).2=t:=⟨_,rfl⟩
 rw [hT] at hle h0
 rw [hM] at hle
 rw [hT,hM] at HT
 have HTM:=Lib.hid (And.intro hT hM)
 have HLE:=Lib.hid (And.intro h0 hle)
 obtain ⟨bb,hbb⟩ : ∃ b,decide (¬ GOODF (frs l))=b:=⟨_,rfl⟩
 rw [hbb]
 have HBB:=Lib.hid hbb
 clear h hl2 hT hM h0 hle hbb
 go_enter Tryz.func56,Tryz.ntmps56
 go_wp2_with fail
 refine HT.out.mono ?_
 rintro e w1 ⟨rfl,m0,rfl⟩
 clear HT
 by_cases hm : M<=1
 ·have m1 : ¬ (1 : Int) < (M : Int):=by omega
  have m2 : decide ((1 : Int) < (M : Int))=false:=by simp;omega
  go_wp2_with fail
  go_loopw [5,6,7,8,9] (fun s5 _ _ _ _ wr=>∃ i : Nat,i<=n∧s5 = .int .i64 (i : Int)∧GOODP T (frs l) i∧∃ m,wr=w.drewN m) (fun s5 _ _ _ _ _=>n - (intOf s5).toNat)
  case atStart=>exact ⟨0,Nat.zero_le _,rfl,goodp_zero _ _,_,rfl⟩
  case round =>
   obtain ⟨i,hi,rfl,hG,m,rfl⟩:=hrel
   have HG:=Lib.hid hG
   clear hG
   by_cases hlt : i < n
   ·obtain ⟨x,hx⟩ : ∃ x,l[i]?=some x:=⟨_,List.getElem?_eq_getElem (by rw [H.out.len];exact hlt)⟩
    have HX:=Lib.hid (And.intro hx (H.out.ok x (List.mem_of_getElem? hx)))
    obtain ⟨g,off,rfl,hg,hc⟩:=H.out.at_ i x hx
    have hd:=HX.out.2.dn
    have hb:=HX.out.2.ok.b
    obtain ⟨B,hB⟩ : ∃ b,x.f.b=b:=⟨_,rfl⟩
    obtain ⟨E,hE⟩ : ∃ b,x.f.e=b:=⟨_,rfl⟩
    obtain ⟨D,hD⟩ : ∃ b,x.dn=b:=⟨_,rfl⟩
    rw [hB] at hb hd
    rw [hE,hD] at hd
    have x4 : w.cell? ⟨g,off + i * 11 + 4,none⟩=some (.int .i64 (B : Int)):=by rw [hb];exact hc 4 _ rfl
    have x10 : w.cell? ⟨g,off + i * 11 + 10,none⟩=some (.slice x.dA D x.dc):=by rw [<- hD];exact hc 10 _ rfl
    have HBE:=Lib.hid (And.intro hB (And.intro hE hD))
    have hED : E=B + D:=hd.2.2.1
    have hE2 : E<=65515:=hd.2.2.2
    have i1 : (0 : Int)<=(i : Int):=by omega
    have i2 : (i : Int) < (n : Int):=by omega
    have e6 : IntKind.i64.wrap ((i : Int) + 1)=(i : Int) + 1:=IntWalk.i64_in _ (by omega)
    have eE : (B : Int) + (D : Int)=(E : Int):=by omega
    have e7 : IntKind.i64.wrap ((B : Int) + (D : Int))=(E : Int):=by rw [eE];exact IntWalk.i64_in _ (by omega)
    have HED:=Lib.hid (And.intro hED hE2)
    clear hd hb hc hx hB hE hD hED hE2 eE
    go_wp2_with fail
    go_quiet (fail)
    obtain ⟨be,hbe⟩ : ∃ b,(decide (0<=T) && (decide (0 < D) && decide (T < (E : Int))))=b:=⟨_,rfl⟩
    have HBEY:=Lib.hid hbe
    clear hbe
    go_upto_region 8 with fail
    go_cut [57] (fun s57 wx=>s57 = .bool be∧∃ q,wx=w.drewN q)
    case first =>
     by_cases c1 : 0<=T
     ·by_cases c2 : 0 < D
      ·have k2 : (0 : Int) < (D : Int):=by omega
       by_cases c3 : T < (E : Int)
       ·go_wp2_with fail
        go_meet
        exact ⟨by rw [<- HBEY.out];simp [c1,c2,c3],_,rfl⟩
       ·go_wp2_with fail
        go_meet
        exact ⟨by rw [<- HBEY.out];simp [c1,c2,c3],_,rfl⟩
      ·have k2 : ¬ (0 : Int) < (D : Int):=by omega
       go_wp2_with fail
       go_meet
       exact ⟨by rw [<- HBEY.out];simp [c1,c2],_,rfl⟩
     ·go_wp2_with fail
      go_meet
      exact ⟨by
       rw [<- HBEY.out];have c1' : ¬ 0<=T:=by omega
       simp [c1'],_,rfl⟩
    case rest =>
    obtain ⟨rfl,q1,rfl⟩:=hcut
    have hbeq : be=true ↔ BEYOND T x.f:=by
     rw [<- HBEY.out]
     simp only [Bool.and_eq_true,decide_eq_true_eq]
     unfold BEYOND
     rw [HX.out.2.ne,HBE.out.2.1,HBE.out.2.2]
    have HBQ:=Lib.hid hbeq
    clear hbeq x10
    cases be
    ·go_wp2_with fail
     go_loopw [8,9] (fun s8 _ wr=>∃ k : Nat,k<=i∧s8 = .int .i64 (k : Int)∧(∀ j,j < k->∀ y,l[j]?=some y -> ¬ hitF x.f y.f)∧∃ m,wr=w.drewN m) (fun s8 _ _=>i - (intOf s8).toNat)
     case atStart=>exact ⟨0,Nat.zero_le _,rfl,fun j hj=>absurd hj (Nat.not_lt_zero _),_,rfl⟩
     case round =>
      obtain ⟨k,hk,rfl,hno,m3,rfl⟩:=hrel
      have HNO:=Lib.hid hno
      clear hno
      by_cases hltk : k < i
      ·obtain ⟨y,hy⟩ : ∃ y,l[k]?=some y:=⟨_,List.getElem?_eq_getElem (by rw [H.out.len];omega)⟩
       have HY:=Lib.hid (And.intro hy (H.out.ok y (List.mem_of_getElem? hy)))
       obtain ⟨g2,off2,hA2,hg2,hc⟩:=H.out.at_ k y hy
       obtain ⟨rfl,rfl⟩ : g=g2∧off=off2:=by simpa using hA2
       have hd:=HY.out.2.dn
       have hb:=HY.out.2.ok.b
       obtain ⟨B2,hB⟩ : ∃ b,y.f.b=b:=⟨_,rfl⟩
       obtain ⟨E2,hE⟩ : ∃ b,y.f.e=b:=⟨_,rfl⟩
       obtain ⟨D2,hD⟩ : ∃ b,y.dn=b:=⟨_,rfl⟩
       rw [hB] at hb hd
       rw [hE,hD] at hd
       have y4 : w.cell? ⟨g,off + k * 11 + 4,none⟩=some (.int .i64 (B2 : Int)):=by rw [hb];exact hc 4 _ rfl
       have y10 : w.cell? ⟨g,off + k * 11 + 10,none⟩=some (.slice y.dA D2 y.dc):=by rw [<- hD];exact hc 10 _ rfl
       have HBE2:=Lib.hid (And.intro hB (And.intro hE hD))
       have hED : E2=B2 + D2:=hd.2.2.1
       have hE2 : E2<=65515:=hd.2.2.2
       have j1 : (0 : Int)<=(k : Int):=by omega
       have j2 : (k : Int) < (i : Int):=by omega
       have j3 : (k : Int) < (n : Int):=by omega
       have f6 : IntKind.i64.wrap ((k : Int) + 1)=(k : Int) + 1:=IntWalk.i64_in _ (by omega)
       have eE : (B2 : Int) + (D2 : Int)=(E2 : Int):=by omega
       have f7 : IntKind.i64.wrap ((B2 : Int) + (D2 : Int))=(E2 : Int):=by rw [eE];exact IntWalk.i64_in _ (by omega)
       have HED2:=Lib.hid (And.intro hED hE2)
       clear hd hb hc hy hB hE hD hED hE2 eE hA2 hg2
       go_wp2_with fail
       go_loopw [9] (fun s9 wr=>∃ X : Nat,s9 = .int .i64 (X : Int)∧B<=X∧X<=E + 8∧(X=B ∨ ¬ (B2<=B∧B < E2))∧∃ m,wr=w.drewN m) (fun s9 _=>E + 8 - (intOf s9).toNat)
       case atStart=>exact ⟨B,rfl,Nat.le_refl _,by have:=HED.out;omega,.inl rfl,_,rfl⟩
       case round =>
        obtain ⟨X,rfl,hX1,hX2,hX3,m4,rfl⟩:=hrel
        have HX3:=Lib.hid (And.intro hX1 (And.intro hX2 hX3))
        clear hX1 hX2 hX3
        by_cases hXE : X < E
        ·have k1 : (X : Int) < (E : Int):=by omega
         have k8 : IntKind.i64.wrap ((X : Int) + 8)=(X : Int) + 8:=IntWalk.i64_in _ (by have:=HED.out;have:=HX3.out;omega)
         obtain ⟨hb,hhb⟩ : ∃ b,(decide (B2<=X) && decide (X < E2))=b:=⟨_,rfl⟩
         have HHB:=Lib.hid hhb
         clear hhb
         go_upto_region 16 with fail
         go_cut [93] (fun s93 wx=>s93 = .bool hb∧∃ q,wx=(w.drewN m4).drewN q)
         case first =>
          by_cases c1 : (B2 : Int)<=(X : Int)
          ·by_cases c2 : (X : Int) < (E2 : Int)
           ·go_wp2_with fail
            go_quiet (fail)
            go_wp2_with fail
            go_meet
            exact ⟨by
             rw [<- HHB.out];have c1' : B2<=X:=by omega
             have c2' : X < E2:=by omega
             simp [c1',c2'],_,rfl⟩
           ·go_wp2_with fail
            go_quiet (fail)
            go_wp2_with fail
            go_meet
            exact ⟨by
             rw [<- HHB.out];have c2' : ¬ X < E2:=by omega
             simp [c2'],_,rfl⟩
          ·have d1 : decide ((B2 : Int)<=(X : Int))=false:=by simp;omega
           go_quiet (fail)
           go_wp2_with fail
           go_meet
           exact ⟨by
            rw [<- HHB.out];have c1' : ¬ B2<=X:=by omega
            simp [c1'],_,drewN_two _ _ _⟩
         case rest =>
         obtain ⟨rfl,q2,rfl⟩:=hcut
         have HHB2:=Lib.hid (show hb=true ↔ (B2<=X∧X < E2) by rw [<- HHB.out];simp)
         clear HHB
         cases hb
         ·go_wp2_with fail
          go_roundw
          case rel =>
           refine ⟨X + 8,by go_num,by have:=HX3.out;omega,by omega,.inr ?_,_,rfl⟩
           have h1:=HHB2.out
           have h2 : ¬ (B2<=X∧X < E2):=fun h=>by simpa using h1.2 h
           rcases HX3.out.2.2 with h3 | h3
           ·rw [<- h3];exact h2
           ·exact h3
          case measure=>simp [intOf];omega
         ·go_wp2_with fail
          go_ret
          refine ⟨?_,_,rfl⟩
          have h2:=HHB2.out.1 (by simp)
          have h3:=HX3.out
          have h4:=HED.out
          have h5:=HED2.out
          have : ¬ GOODF (frs l):=spoilt_hit hltk (frs_get HX.out.1) (frs_get HY.out.1) ⟨HX.out.2.ne.2 (by rw [HBE.out.2.2];omega),HY.out.2.ne.2 (by rw [HBE2.out.2.2];omega),by rw [HBE2.out.1,HBE.out.2.1];omega,by rw [HBE.out.1,HBE2.out.2.1];omega⟩
          rw [<- HBB.out,decide_eq_true this];rfl
        ·have k1 : ¬ (X : Int) < (E : Int):=by omega
         obtain ⟨hb,hhb⟩ : ∃ b,(decide (0 < D2) && (decide (B<=B2) && decide (B2 < E)))=b:=⟨_,rfl⟩
         have HHB:=Lib.hid hhb
         clear hhb
         go_upto_region 18 with fail
         go_cut [120] (fun s120 wx=>s120 = .bool hb∧∃ q,wx=(w.drewN m4).drewN q)
         case first =>
          by_cases c1 : 0 < D2
          ·have k2 : (0 : Int) < (D2 : Int):=by omega
           by_cases c2 : (B : Int)<=(B2 : Int)
           ·by_cases c3 : (B2 : Int) < (E : Int)
            ·go_wp2_with fail
             go_meet
             exact ⟨by
              rw [<- HHB.out];have c2' : B<=B2:=by omega
              have c3' : B2 < E:=by omega
              simp [c1,c2',c3'],0,rfl⟩
            ·go_wp2_with fail
             go_meet
             exact ⟨by
              rw [<- HHB.out];have c3' : ¬ B2 < E:=by omega
              simp [c3'],0,rfl⟩
           ·go_wp2_with fail
            go_meet
            exact ⟨by
             rw [<- HHB.out];have c2' : ¬ B<=B2:=by omega
             simp [c2'],0,rfl⟩
          ·have k2 : ¬ (0 : Int) < (D2 : Int):=by omega
           go_wp2_with fail
           go_meet
           exact ⟨by
            rw [<- HHB.out];have c1' : ¬ 0 < D2:=by omega
            simp [c1'],0,rfl⟩
         case rest =>
         obtain ⟨rfl,q2,rfl⟩:=hcut
         have HHB2:=Lib.hid (show hb=true ↔ (0 < D2∧B<=B2∧B2 < E) by rw [<- HHB.out];simp)
         clear HHB
         cases hb
         ·go_wp2_with fail
          go_roundw
          case rel =>
           refine ⟨k + 1,by omega,by go_num,fun j hj z hz hh=>?_,_,rfl⟩
           by_cases hjk : j=k
           ·subst hjk
            obtain rfl : z=y:=Option.some.inj (hz.symm.trans HY.out.1)
            obtain ⟨h1,h2,h3,h4⟩:=hh
            rw [HX.out.2.ne,HBE.out.2.2] at h1
            rw [HY.out.2.ne,HBE2.out.2.2] at h2
            rw [HBE2.out.1,HBE.out.2.1] at h3
            rw [HBE.out.1,HBE2.out.2.1] at h4
            have h5 : ¬ (0 < D2∧B<=B2∧B2 < E):=fun h=>by simpa using HHB2.out.2 h
            have h6:=HX3.out
            have h7:=HED.out
            omega
           ·exact HNO.out j (by omega) z hz hh
          case measure=>simp [intOf];omega
         ·go_wp2_with fail
          go_ret
          refine ⟨?_,_,rfl⟩
          have h2:=HHB2.out.1 (by simp)
          have h4:=HED.out
          have h5:=HED2.out
          have : ¬ GOODF (frs l):=spoilt_hit hltk (frs_get HX.out.1) (frs_get HY.out.1) ⟨HX.out.2.ne.2 (by rw [HBE.out.2.2];omega),HY.out.2.ne.2 (by rw [HBE2.out.2.2];omega),by rw [HBE2.out.1,HBE.out.2.1];omega,by rw [HBE.out.1,HBE2.out.2.1];omega⟩
          rw [<- HBB.out,decide_eq_true this];rfl
      ·have t1 : ¬ (k : Int) < (i : Int):=by omega
       obtain rfl : k=i:=by omega
       go_wp2_with fail
       go_roundw
       case rel =>
        refine ⟨k + 1,by omega,by go_num,HG.out.next (frs_get HX.out.1) (fun h=>by simpa using HBQ.out.2 h) (fun q hq=>?_),_,rfl⟩
        have h1 : (frs l).take k=frs (l.take k):=by unfold frs;rw [List.map_take]
        rw [h1] at hq
        obtain ⟨y,hy,rfl⟩:=List.mem_map.1 hq
        obtain ⟨j,hj,rfl⟩:=List.mem_iff_getElem.1 hy
        rw [List.length_take] at hj
        exact HNO.out j (by omega) _ (by rw [List.getElem_take];exact List.getElem?_eq_getElem _)
       case measure=>simp [intOf];omega
    ·go_wp2_with fail
     go_ret
     refine ⟨?_,_,rfl⟩
     have hB:=HBQ.out.1 (by simp)
     have : ¬ GOODF (frs l):=spoilt_beyond (List.mem_of_getElem? (frs_get HX.out.1)) (by rw [HTM.out.1];exact hB)
     rw [<- HBB.out,decide_eq_true this];rfl
   ·have t1 : ¬ (i : Int) < (n : Int):=by omega
    obtain rfl : i=n:=by omega
    have hs : (frs l).take i=frs l:=List.take_of_length_le (by unfold frs;rw [List.length_map];have:=H.out.len;omega)
    go_wp2_with fail
    go_ret
    refine ⟨?_,_,rfl⟩
    have : GOODF (frs l):=⟨by rw [HTM.out.2];exact hm,fun f hf=>by rw [HTM.out.1];exact HG.out.in_ f (by rw [hs];exact hf),by have:=HG.out.pw;rw [hs] at this;exact this⟩
    rw [<- HBB.out,decide_eq_false (fun h : ¬ GOODF (frs l)=>h this)];rfl
 ·have m1 : (1 : Int) < (M : Int):=by omega
  have m2 : decide ((1 : Int) < (M : Int))=true:=by simp;omega
  go_wp2_with fail
  go_ret
  refine ⟨?_,_,rfl⟩
  have : ¬ GOODF (frs l):=fun G=>by have:=G.one;rw [HTM.out.2] at this;exact hm this
  rw [<- HBB.out,decide_eq_true this];rfl
theorem alloc_new7 (w : World) (o : Obj) : (w.alloc o).heap[w.heap.size]?=some o:=by
 show (w.heap.push o)[w.heap.size]?=some o
 simp
set_option maxHeartbeats 1000000 in
set_option maxRecDepth 100000 in
theorem r7new_yes (limit life : Int) (w : World) (h1 : 1<=limit∧limit<=64) (h2 : 1<=life∧life<=16777215) :
 Calls Tryz.prog 25 #[.int .i64 limit,.int .i64 life] w fun e w'=>e = .returned (.tuple #[.agg #[.int .i64 limit,.int .i64 life,.int .i64 0,.slice none 0 0],.int .i64 0])∧Below w.heap.size w w':=by
 obtain ⟨a1,a2⟩:=h1
 obtain ⟨a3,a4⟩:=h2
 have t1 : ¬ limit < 1:=by omega
 have t2 : ¬ (64 : Int) < limit:=by omega
 have t3 : ¬ life < 1:=by omega
 have t4 : ¬ (16777215 : Int) < life:=by omega
 clear a1 a2 a3 a4
 go_enter Tryz.func25,Tryz.ntmps25
 go_wp2_with fail
 refine bodyPost_ret (results_cell_tmp1 rfl _ _ w.heap.size 70 _ _ _ rfl (alloc_new7 w _) Tryz.underlying70 rfl (by kernel_rfl)) rfl ?_
 exact ⟨rfl,(Below.refl _ w).alloc (Nat.le_refl _) _⟩
set_option maxHeartbeats 1000000 in
set_option maxRecDepth 100000 in
theorem r7new_no (limit life : Int) (w : World) (h : ¬ ((1<=limit∧limit<=64)∧1<=life∧life<=16777215)) :
 Calls Tryz.prog 25 #[.int .i64 limit,.int .i64 life] w fun e w'=>e = .returned (.tuple #[.agg #[.int .i64 0,.int .i64 0,.int .i64 0,.slice none 0 0],.int .i64 2])∧Below w.heap.size w w':=by
 by_cases t1 : limit < 1
 ·clear h
  go_enter Tryz.func25,Tryz.ntmps25
  go_wp2_with fail
  refine bodyPost_ret (results_cell_tmp1 rfl _ _ w.heap.size 70 _ _ _ rfl (alloc_new7 w _) Tryz.underlying70 rfl (by kernel_rfl)) rfl ?_
  exact ⟨rfl,(Below.refl _ w).alloc (Nat.le_refl _) _⟩
 by_cases t2 : (64 : Int) < limit
 ·clear h
  go_enter Tryz.func25,Tryz.ntmps25
  go_wp2_with fail
  refine bodyPost_ret (results_cell_tmp1 rfl _ _ w.heap.size 70 _ _ _ rfl (alloc_new7 w _) Tryz.underlying70 rfl (by kernel_rfl)) rfl ?_
  exact ⟨rfl,(Below.refl _ w).alloc (Nat.le_refl _) _⟩
 by_cases t3 : life < 1
 ·clear h
  go_enter Tryz.func25,Tryz.ntmps25
  go_wp2_with fail
  refine bodyPost_ret (results_cell_tmp1 rfl _ _ w.heap.size 70 _ _ _ rfl (alloc_new7 w _) Tryz.underlying70 rfl (by kernel_rfl)) rfl ?_
  exact ⟨rfl,(Below.refl _ w).alloc (Nat.le_refl _) _⟩
 have t4 : (16777215 : Int) < life:=by omega
 clear h
 go_enter Tryz.func25,Tryz.ntmps25
 go_wp2_with fail
 refine bodyPost_ret (results_cell_tmp1 rfl _ _ w.heap.size 70 _ _ _ rfl (alloc_new7 w _) Tryz.underlying70 rfl (by kernel_rfl)) rfl ?_
 exact ⟨rfl,(Below.refl _ w).alloc (Nat.le_refl _) _⟩
structure EM where
 e : RE
 fA : Option Addr
 fn : Nat
 fc : Nat
 fs : List FM
def EM.gcells (x : EM) : List Value:=[.int .u32 x.e.src,.int .u32 x.e.dst,.int .u8 x.e.proto,.int .u16 x.e.id,.int .i64 x.e.begin_,.int .i64 (x.e.bytes : Int),.bool x.e.dead]
def EM.cells (x : EM) : List Value:=x.gcells++[.slice x.fA x.fn x.fc]
structure EMOK (w : World) (x : EM) : Prop where
 row : FROW w x.fA x.fn x.fs
 fs : frs x.fs=x.e.fs
 fc : x.fn<=x.fc
 fn : x.fn<=100000
theorem EMOK.later {w w' : World} {x : EM} (h : EMOK w x) (hb : Below w.heap.size w w') : EMOK w' x:=⟨h.row.later hb,h.fs,h.fc,h.fn⟩
structure EROW (w : World) (A : Option Addr) (n c : Nat) (l : List EM) : Prop where
 len : l.length=n
 cap : n<=c
 at_ : ∀ i x,l[i]?=some x->∃ g off,A=some ⟨g,off,none⟩∧g < w.heap.size∧∀ j v,x.cells[j]?=some v->w.cell? ⟨g,off + i * 8 + j,none⟩=some v
 ok : ∀ x ∈ l,EMOK w x
theorem EROW.nil (w : World) : EROW w none 0 0 []:=⟨rfl,Nat.le_refl _,fun i x h=>by simp at h,fun x h=>by cases h⟩
theorem EROW.later {w w' : World} {A : Option Addr} {n c : Nat} {l : List EM} (h : EROW w A n c l) (hb : Below w.heap.size w w') : EROW w' A n c l :=
 ⟨h.len,h.cap,fun i x hx=>by obtain ⟨g,off,h1,h2,h3⟩:=h.at_ i x hx;exact ⟨g,off,h1,Nat.lt_of_lt_of_le h2 hb.size,fun j v hv=>(hb.cell (p:=⟨g,_,none⟩) h2).trans (h3 j v hv)⟩,fun x hx=>(h.ok x hx).later hb⟩
def RT.val (r : RT) (A : Option Addr) (n c : Nat) : Value:=.agg #[.int .i64 r.limit,.int .i64 r.life,.int .i64 r.now,.slice A n c]
structure RTM (w : World) (r : RT) (A : Option Addr) (n c : Nat) (l : List EM) : Prop where
 row : EROW w A n c l
 es : l.map EM.e=r.es
theorem gv_rel {g : AG} {x : EM} (R : REL g x.e) : GV g=x.gcells:=by
 unfold GV EM.gcells
 rw [R.src,R.dst,R.proto,R.id,R.beg,R.bytes,R.dead]
theorem gvs_rel : ∀ {gs : List AG} {l : List EM},RELS gs (l.map EM.e)->GVS gs=l.flatMap EM.gcells
 | [],[],_=>rfl
 | g::gs,x::l,h=>by
   have h1 : GV g=x.gcells:=gv_rel h.1
   have h2 : GVS gs=l.flatMap EM.gcells:=gvs_rel h.2
   show GV g++GVS gs=x.gcells++l.flatMap EM.gcells
   rw [h1,h2]
 | [],x::l,h=>h.elim
 | g::gs,[],h=>h.elim
section
variable {h : HD} {o d : List Int} {s : Nat} {G : List (SD × List Int)}
end
end Go.Proofs.YtljbfnabnkkfeaaGreat
namespace Go.Proofs.YtljbfnabnkkfeaaGreat
open Go.RowKit
theorem SP.allocRow7 {w0 w : World} {L : List IT} {N : Nat} (H : SP w0 w L) (t : TypeId) (m n : Nat) (cs : Array Value) (hm : n<=maxLen) (hs : cs.size=n * m) (hN : w.heap.size=N) :
 SP w0 (w.alloc (.cells cs t)) (L++[.row t m (some ⟨N,0,none⟩) n n cs.toList]):=by
 subst hN
 exact H.push ((Below.refl _ w).alloc (Nat.le_refl _) _) (World.ownsRow_lit w cs n (Nat.le_refl _) hm hs)
theorem gV_one (G : List (SD × List Int)) : ∀ u ∈ G.map gV,u.oneCell'=true:=fun u hu=>by
 obtain ⟨g,_,rfl⟩:=List.mem_map.1 hu;rfl
set_option maxHeartbeats 4000000 in
set_option maxRecDepth 100000 in
theorem r5right_any (h : HD) (A : Option Addr) (n c : Nat) (q : Int) (w : World) (h64 : -9223372036854775808<=h.off∧h.off<=9223372036854775807) (hq : -9223372036854775808<=q∧q<=9223372036854775807) (hn : n<=140737488355328) :
 Calls Tryz.prog 49 #[h.val (.slice A n c),.int .i64 q] w fun e w'=>e = .returned (.bool (rightB h.off h.mf n q))∧Below w.heap.size w w':=by
 obtain ⟨tos,id,df,mf,off,ttl,proto,src,dst⟩:=h
 dsimp only at h64 ⊢
 obtain ⟨o1,o2⟩:=h64
 obtain ⟨q1,q2⟩:=hq
 unfold HD.val HD.cells
 by_cases p0 : 0<=off
 ·by_cases p1 : off<=65528
  ·by_cases p2 : off % 8=0
   ·have k2 : (off % 8 != 0)=false:=by simp [p2]
    by_cases p3 : (n : Int)<=40
    ·by_cases p4 : n % 4=0
     ·have k4 : ((n : Int) % 4 != 0)=false:=by simp;omega
      by_cases p5 : 0<=q
      ·by_cases p6 : q<=65515 - (n : Int)
       ·by_cases p7 : q<=65515 - off
        ·have H:=Lib.hid (And.intro p2 p4)
         clear p2 p4
         cases mf
         ·rw [rightB_yes (show Rightly off false n q from ⟨H.out.1,p0,p1,by omega,H.out.2,p5,by omega,by omega,fun hh=>by cases hh⟩)]
          go_enter Tryz.func49,Tryz.ntmps49
          go_wp2_with fail
          go_ret
          exact ⟨rfl,(Below.refl _ _).alloc (Nat.le_refl _) _⟩
         ·by_cases r : 0 < q
          ·by_cases r2 : q % 8=0
           ·rw [rightB_yes (show Rightly off true n q from ⟨H.out.1,p0,p1,by omega,H.out.2,p5,by omega,by omega,fun _=>⟨r,r2⟩⟩)]
            have g : (q % 8 == 0)=true:=by simp [r2]
            clear r2
            go_enter Tryz.func49,Tryz.ntmps49
            go_wp2_with fail
            go_ret
            exact ⟨rfl,(Below.refl _ _).alloc (Nat.le_refl _) _⟩
           ·rw [rightB_no (show ¬ Rightly off true n q from fun hh=>r2 (hh.2.2.2.2.2.2.2.2 rfl).2)]
            have g : (q % 8 == 0)=false:=by simp [r2]
            clear r2
            go_enter Tryz.func49,Tryz.ntmps49
            go_wp2_with fail
            go_ret
            exact ⟨rfl,(Below.refl _ _).alloc (Nat.le_refl _) _⟩
          ·rw [rightB_no (show ¬ Rightly off true n q from fun hh=>r (hh.2.2.2.2.2.2.2.2 rfl).1)]
           have g : q<=0:=by omega
           go_enter Tryz.func49,Tryz.ntmps49
           go_wp2_with fail
           go_ret
           exact ⟨rfl,(Below.refl _ _).alloc (Nat.le_refl _) _⟩
        ·rw [rightB_no (show ¬ Rightly off mf n q from fun ⟨r1,r2,r3,r4,r5,r6,r7,r8,r9⟩=>p7 (by omega))]
         have g : 65515 - off < q:=by omega
         clear p7 p2 p4
         go_enter Tryz.func49,Tryz.ntmps49
         go_wp2_with fail
         go_ret
         exact ⟨rfl,(Below.refl _ _).alloc (Nat.le_refl _) _⟩
       ·rw [rightB_no (show ¬ Rightly off mf n q from fun ⟨r1,r2,r3,r4,r5,r6,r7,r8,r9⟩=>p6 (by omega))]
        have g : 65515 - (n : Int) < q:=by omega
        clear p6 p2 p4
        go_enter Tryz.func49,Tryz.ntmps49
        go_wp2_with fail
        go_ret
        exact ⟨rfl,(Below.refl _ _).alloc (Nat.le_refl _) _⟩
      ·rw [rightB_no (show ¬ Rightly off mf n q from fun ⟨r1,r2,r3,r4,r5,r6,r7,r8,r9⟩=>p5 (by omega))]
       have g : q < 0:=by omega
       clear p5 p2 p4
       go_enter Tryz.func49,Tryz.ntmps49
       go_wp2_with fail
       go_ret
       exact ⟨rfl,(Below.refl _ _).alloc (Nat.le_refl _) _⟩
     ·rw [rightB_no (show ¬ Rightly off mf n q from fun ⟨r1,r2,r3,r4,r5,r6,r7,r8,r9⟩=>p4 (by omega))]
      have g : ((n : Int) % 4 != 0)=true:=by simp;omega
      clear p4 p2
      go_enter Tryz.func49,Tryz.ntmps49
      go_wp2_with fail
      go_ret
      exact ⟨rfl,(Below.refl _ _).alloc (Nat.le_refl _) _⟩
    ·rw [rightB_no (show ¬ Rightly off mf n q from fun ⟨r1,r2,r3,r4,r5,r6,r7,r8,r9⟩=>p3 (by omega))]
     have g : 40 < (n : Int):=by omega
     clear p3 p2
     go_enter Tryz.func49,Tryz.ntmps49
     go_wp2_with fail
     go_ret
     exact ⟨rfl,(Below.refl _ _).alloc (Nat.le_refl _) _⟩
   ·rw [rightB_no (show ¬ Rightly off mf n q from fun ⟨r1,r2,r3,r4,r5,r6,r7,r8,r9⟩=>p2 (by omega))]
    have g : (off % 8 != 0)=true:=by simp [p2]
    clear p2
    go_enter Tryz.func49,Tryz.ntmps49
    go_wp2_with fail
    go_ret
    exact ⟨rfl,(Below.refl _ _).alloc (Nat.le_refl _) _⟩
  ·rw [rightB_no (show ¬ Rightly off mf n q from fun ⟨r1,r2,r3,r4,r5,r6,r7,r8,r9⟩=>p1 (by omega))]
   have g : 65528 < off:=by omega
   clear p1
   go_enter Tryz.func49,Tryz.ntmps49
   go_wp2_with fail
   go_ret
   exact ⟨rfl,(Below.refl _ _).alloc (Nat.le_refl _) _⟩
 ·rw [rightB_no (show ¬ Rightly off mf n q from fun ⟨r1,r2,r3,r4,r5,r6,r7,r8,r9⟩=>p0 (by omega))]
  have g : off < 0:=by omega
  clear p0
  go_enter Tryz.func49,Tryz.ntmps49
  go_wp2_with fail
  go_ret
  exact ⟨rfl,(Below.refl _ _).alloc (Nat.le_refl _) _⟩
def numB (zs : List Int) : Int:=zs.foldl (fun a x=>256 * a + x) 0
theorem numB_snoc (zs : List Int) (x : Int) : numB (zs++[x])=256 * numB zs + x:=by simp [numB]
theorem numB_bd : ∀ (k : Nat) (zs : List Int),BD 255 zs->zs.length<=k->k<=4->0<=numB zs∧numB zs<=256 ^ zs.length - 1:=by
 intro k zs h hl hk
 match zs,hl with
 | [],_=>simp [numB]
 | [a],_=>have:=h a (by simp);simp [numB];omega
 | [a,b],_=>have:=h a (by simp);have:=h b (by simp);simp [numB];omega
 | [a,b,c],_=>have:=h a (by simp);have:=h b (by simp);have:=h c (by simp);simp [numB];omega
 | [a,b,c,d],_=>have:=h a (by simp);have:=h b (by simp);have:=h c (by simp);have:=h d (by simp);simp [numB];omega
 | a::b::c::d::e::l,hl=>simp at hl;omega
theorem numB_le {zs : List Int} (h : BD 255 zs) (hl : zs.length<=4) : 0<=numB zs∧numB zs<=4294967295:=by
 have:=numB_bd 4 zs h hl (Nat.le_refl _)
 have hp : (256 : Int) ^ zs.length<=4294967296:=by
  rcases (show zs.length=0∨zs.length=1∨zs.length=2∨zs.length=3∨zs.length=4 by omega) with e | e | e | e | e <;> rw [e] <;> decide
 omega
set_option maxHeartbeats 400000 in
theorem r5number_any (A : Option Addr) (n c : Nat) (zs : List Int) (w : World) (h : RD .u8 w w.heap.size A n zs) (hz : BD 255 zs) (hn : n<=4) :
 Calls Tryz.prog 47 #[.slice A n c] w fun e w'=>e = .returned (.int .i64 (numB zs))∧w=w':=by
 have HL:=Lib.hid h.1
 go_enter Tryz.func47,Tryz.ntmps47
 go_wp2_with fail
 go_loop [3,4] (fun s i=>∃ k : Nat,k<=n∧i = .int .i64 k∧s = .int .i64 (numB (zs.take k))) (fun _ i=>n - (intOf i).toNat)
 case atStart=>exact ⟨0,Nat.zero_le _,rfl,rfl⟩
 case round =>
  obtain ⟨k,hk,rfl,rfl⟩:=hrel
  by_cases hlt : k < n
  ·obtain ⟨b,off,rfl,hB,hc⟩:=h.2 (by omega)
   have hcell:=hc k hlt
   obtain ⟨z1,z2⟩:=hz.get (by omega) k
   obtain ⟨u1,u2⟩:=numB_le (hz.take k) (by simp;omega)
   have hs : numB (zs.take (k + 1))=256 * numB (zs.take k) + zs[k]?.getD 0:=by
    rw [List.take_succ_eq_append_getElem (by rw [HL.out];exact hlt),numB_snoc]
    simp [HL.out,hlt]
   have HS:=Lib.hid hs
   clear hs hc
   go_wp2_with fail
   go_round
   case rel=>exact ⟨k + 1,by omega,by go_num,by rw [HS.out]⟩
   case measure=>simp [intOf];omega
  ·have HT:=Lib.hid (show zs.take k=zs from List.take_of_length_le (by rw [HL.out];omega))
   go_wp2_with fail
   go_ret
   exact ⟨by rw [HT.out];rfl,rfl⟩
theorem numB_word {zs : List Int} (p : Nat) (h : p + 2<=zs.length) : numB ((zs.drop p).take 2)=wordAt zs p:=by
 have e : (zs.drop p).take 2=[zs[p],zs[p + 1]]:=by
  rw [List.drop_eq_getElem_cons (by omega),List.drop_eq_getElem_cons (by omega)];rfl
 have e1 : zs[p]?=some zs[p]:=List.getElem?_eq_getElem (by omega)
 have e2 : zs[p + 1]?=some zs[p + 1]:=List.getElem?_eq_getElem (by omega)
 rw [e]
 simp [numB,wordAt,e1,e2]
 omega
theorem numB_long {zs : List Int} (p : Nat) (h : p + 4<=zs.length) : numB ((zs.drop p).take 4)=longAt zs p:=by
 have e : (zs.drop p).take 4=[zs[p],zs[p + 1],zs[p + 2],zs[p + 3]]:=by
  rw [List.drop_eq_getElem_cons (by omega),List.drop_eq_getElem_cons (by omega),List.drop_eq_getElem_cons (by omega),List.drop_eq_getElem_cons (by omega)];rfl
 have e1 : zs[p]?=some zs[p]:=List.getElem?_eq_getElem (by omega)
 have e2 : zs[p + 1]?=some zs[p + 1]:=List.getElem?_eq_getElem (by omega)
 have e3 : zs[p + 2]?=some zs[p + 2]:=List.getElem?_eq_getElem (by omega)
 have e4 : zs[p + 2 + 1]?=some zs[p + 3]:=List.getElem?_eq_getElem (by omega)
 rw [e]
 simp [numB,longAt,wordAt,e1,e2,e3,e4]
 omega
set_option maxHeartbeats 1000000 in
set_option maxRecDepth 100000 in
theorem r5bytes_any (s : Nat) (q x : Int) (w : World) (hs : s<=4) (hq : q=s) (hx : 0<=x) (hx' : x<=4294967295) :
 Calls Tryz.prog 50 #[.int .i64 x,.int .i64 q] w (Fresh w (putB (List.replicate s 0) 0 s x)):=by
 subst hq
 obtain ⟨i0,hi,hz0,hz1,hz2⟩:=info_parts infoU8
 obtain ⟨w2,hrun,own2,hb2,hs2⟩:=run_make_cap (P:=Tryz.prog) (k:=.u8) w 22 i0 Tryz.underlying22 hi hz0 hz1 (by omega) (s : Int) (s : Int) s s rfl rfl (Nat.le_refl _) (by omega)
 go_enter Tryz.func50,Tryz.ntmps50
 go_wp2_with fail
 clear hrun
 go_loopw [0,6] (fun vx i wr=>∃ (k : Nat) (v : Int) (ys : List Int),k<=s∧i = .int .i64 ((k : Int) - 1)∧vx = .int .i64 v∧0<=v∧v<=4294967295∧Hid (putB ys 0 k v=putB (List.replicate s 0) 0 s x)∧OWN .u8 5 wr w.heap.size (some ⟨w.heap.size,0,none⟩) s s ys∧Below w.heap.size w wr) (fun _ i _=>(intOf i + 1).toNat)
 case atStart=>exact ⟨s,x,_,Nat.le_refl _,rfl,rfl,hx,hx',Lib.hid rfl,own2,hb2⟩
 case round =>
  obtain ⟨k,v,ys,hk,rfl,rfl,v1,v2,HE,own,hb⟩:=hrel
  clear own2 hb2 hs2
  rcases Nat.eq_zero_or_pos k with h0 | h0
  ·subst h0
   have t1 : ¬ (0 : Int)<=(((0 : Nat) : Int) - 1):=by omega
   have OH:=Lib.hid own
   clear own
   go_wp2_with fail
   go_ret
   exact ⟨_,s,s,rfl,by have:=HE.out;rw [<- this];exact OH.out,hb⟩
  ·obtain ⟨j,rfl⟩ : ∃ j,k=j + 1:=⟨k - 1,by omega⟩
   have ej : ((j + 1 : Nat) : Int) - 1=(j : Int):=by omega
   rw [ej]
   have i1 : (0 : Int)<=(j : Int):=by omega
   have i2 : (j : Int) < (s : Int):=by omega
   have x1:=own.cell (i:=j) (by omega)
   have x2:=own.frozen j
   have e2 : IntKind.u8.wrap (v % 256)=v % 256:=u8_in _ (by omega) (by omega)
   clear h0 ej
   have HE' : Hid (putB (ys.set (0 + j) (v % 256)) 0 j (v / 256)=putB (List.replicate s 0) 0 s x):=HE
   rw [Nat.zero_add] at HE'
   clear HE
   go_wp2_with fail
   go_roundw
   case rel=>exact ⟨j,v / 256,_,by omega,by go_num,rfl,by omega,by omega,HE',own.stored j (v % 256),hb.setCell (p:=⟨w.heap.size,j,none⟩) (Nat.le_refl _) _⟩
   case measure=>simp [intOf]
def HD.turn (h : HD) : HD:={ h with src:=h.dst,dst:=h.src }
def HD.at (h : HD) (t : Int) : HD:={ h with ttl:=t }
theorem bad_short {zs : List Int} (h : zs.length < 20) : faultR zs=0:=by unfold faultR;rw [if_pos h]
theorem bad_version {zs : List Int} (h : 20<=zs.length) (h1 : byteAt zs 0 / 16≠4) : faultR zs=1:=by unfold faultR;rw [if_neg (by omega),if_pos h1]
theorem bad_header {zs : List Int} (h : 20<=zs.length) (h1 : byteAt zs 0 / 16=4) (h2 : sizeR zs < 20∨zs.length < sizeR zs) : faultR zs=2:=by
 unfold faultR;rw [if_neg (by omega),if_neg (by omega),if_pos h2]
theorem bad_total {zs : List Int} (h : 20<=zs.length) (h1 : byteAt zs 0 / 16=4) (h2 : 20<=sizeR zs∧sizeR zs<=zs.length) (h3 : totalR zs < sizeR zs∨zs.length < totalR zs) : faultR zs=3:=by
 unfold faultR;rw [if_neg (by omega),if_neg (by omega),if_neg (by omega),if_pos h3]
section
variable {H : HD} {opts data : List Int} {on dn : Nat}
end
theorem and_small (a : Int) (m : Nat) (hm : m < 2 ^ 62) : 0<=bits .and .i64 a m∧bits .and .i64 a m<=m∧∃ j : Nat,bits .and .i64 a m=((j &&& m : Nat) : Int):=by
 have e : (BitVec.ofInt 64 (m : Int)).toNat=m:=by rw [BitVec.toNat_ofInt];omega
 have h2 : (BitVec.ofInt 64 a &&& BitVec.ofInt 64 (m : Int)).toNat=(BitVec.ofInt 64 a).toNat &&& m:=by rw [BitVec.toNat_and,e]
 have h3 : (BitVec.ofInt 64 a).toNat &&& m<=m:=Nat.and_le_right
 have h4 : bits .and .i64 a m=(((BitVec.ofInt 64 a).toNat &&& m : Nat) : Int):=by
  show IntKind.i64.wrap ((BitVec.ofInt 64 a &&& BitVec.ofInt 64 (m : Int)).toNat : Int)=_
  rw [h2,IntKind.wrap_i64];omega
 exact ⟨by omega,by omega,_,h4⟩
end Go.Proofs.YtljbfnabnkkfeaaGreat
