import Derived.Test.YtljbfnabnkkfeaaGreatSL14
set_option linter.unusedVariables false
set_option linter.unusedSimpArgs false
/- Joined by program: WRef5Read, WTells2, WRef5W. -/
namespace Go.Proofs.YtljbfnabnkkfeaaGreat
open Go.RowKit
attribute [local go_sem ↓] Go.wp_at_zero Go.wp_at_succ
theorem zcells_one : (HD.zero.cells (.slice none 0 0)).all (·.oneCell')=true:=by
 unfold HD.cells
 simp [Value.oneCell']
theorem hdcells_one (H : HD) (A : Option Addr) (n c : Nat) : (H.cells (.slice A n c)).all (·.oneCell')=true:=by
 unfold HD.cells
 simp [Value.oneCell']
theorem bad_sum {zs : List Int} (h : 20<=zs.length) (h1 : byteAt zs 0 / 16=4) (h2 : 20<=sizeR zs∧sizeR zs<=zs.length) (h3 : sizeR zs<=totalR zs∧totalR zs<=zs.length) (h4 : sumOf (zs.take (sizeR zs))≠65535) : faultR zs=4:=by
 unfold faultR;rw [if_neg (by omega),if_neg (by omega),if_neg (by omega),if_neg (by omega),if_pos h4]
theorem bad_flags {zs : List Int} (h : 20<=zs.length) (h1 : byteAt zs 0 / 16=4) (h2 : 20<=sizeR zs∧sizeR zs<=zs.length) (h3 : sizeR zs<=totalR zs∧totalR zs<=zs.length) (h4 : sumOf (zs.take (sizeR zs))=65535) (h5 : 32768<=wordAt zs 6) : faultR zs=5:=by
 unfold faultR;rw [if_neg (by omega),if_neg (by omega),if_neg (by omega),if_neg (by omega),if_neg (by omega),if_pos h5]
theorem last_fault {zs : List Int} (h : 20<=zs.length) (h1 : byteAt zs 0 / 16=4) (h2 : 20<=sizeR zs∧sizeR zs<=zs.length) (h3 : sizeR zs<=totalR zs∧totalR zs<=zs.length) (h4 : sumOf (zs.take (sizeR zs))=65535) (h5 : ¬ 32768<=wordAt zs 6) :
 faultR zs=if rightB (hdOf zs).off (hdOf zs).mf (sizeR zs - 20) ((totalR zs : Int) - sizeR zs)=false then 6 else 7:=by
 unfold faultR;rw [if_neg (by omega),if_neg (by omega),if_neg (by omega),if_neg (by omega),if_neg (by omega),if_neg h5]
set_option maxHeartbeats 2000000 in
set_option maxRecDepth 100000 in
theorem r5Read_any (A : Option Addr) (n c : Nat) (zs : List Int) (w : World) (h : RD .u8 w w.heap.size A n zs) (hz : BD 255 zs) (hn : n<=c) (hc : n<=140737488351232) :
 Calls Tryz.prog 19 #[.slice A n c] w (ReadP w zs):=by
 obtain ⟨i0,hi,hz0,hz1,hz2⟩:=info_parts infoU8
 have HL:=Lib.hid h.len
 have R:=Lib.hid h
 have S:=Lib.hid (((SP.start w).alloc 58 (HD.zero.cells (.slice none 0 0))).alloc' 58 (HD.zero.cells (.slice none 0 0)) (N:=w.heap.size + 1) (by simp))
 clear h
 go_enter Tryz.func19,Tryz.ntmps19
 go_upto_region 2 with fail
 rw [show (w.alloc (.cells #[.int .u8 0,.int .u16 0,.bool false,.bool false,.int .i64 0,.int .u8 0,.int .u8 0,.int .u32 0,.int .u32 0,.slice none 0 0] 58)).alloc (.cells #[.int .u8 0,.int .u16 0,.bool false,.bool false,.int .i64 0,.int .u8 0,.int .u8 0,.int .u32 0,.int .u32 0,.slice none 0 0] 58)=(w.alloc (.cells (HD.zero.cells (.slice none 0 0)) 58)).alloc (.cells (HD.zero.cells (.slice none 0 0)) 58) from rfl]
 generalize hw1 : (w.alloc (.cells (HD.zero.cells (.slice none 0 0)) 58)).alloc (.cells (HD.zero.cells (.slice none 0 0)) 58)=w1 at S ⊢
 clear hw1
 by_cases h20 : n < 20
 ·have i20 : (n : Int) < 20:=by omega
  have hf : faultR zs=0:=bad_short (by rw [HL.out];exact h20)
  have HF:=Lib.hid hf
  clear hf
  have T:=Lib.hid (S.out.setR 0 rfl (HD.zero.cells (.slice none 0 0)))
  go_wp2_with (first | (refine wpList_load_row rfl 58 _ rfl (w.heap.size + 1) rfl 58 (HD.zero.cells (.slice none 0 0)) (0,0) _ (S.out.blk 1 rfl) Tryz.underlying58 rfl (by kernel_rfl) ?_) | (refine wpList_store_row rfl 58 _ _ rfl w.heap.size (HD.zero.cells (.slice none 0 0)) rfl rfl 58 (HD.zero.cells (.slice none 0 0)) (S.out.blk 0 rfl) (by kernel_rfl) rfl (zcells_one) ?_))
  refine bodyPost_ret (results_cell_tmp3 rfl _ _ w.heap.size 58 (HD.zero.cells (.slice none 0 0)) _ _ rfl (T.out.blk 0 rfl) Tryz.underlying58 rfl (by kernel_rfl)) rfl ?_
  exact read_fail rfl (by rw [HF.out];decide) T.out.bel _ (by rw [HF.out];rfl)
 ·have i20 : ¬ (n : Int) < 20:=by omega
  obtain ⟨b,off,rfl,hb,hcell⟩:=R.out.2 (by omega)
  have RW:=Lib.hid (fun (W : World) (hb : Below w.heap.size w W)=>(show RD .u8 W W.heap.size (some ⟨b,off,none⟩) n zs from (R.out.below hb).more hb.size))
  have HC:=Lib.hid (fun (W : World) (hb' : Below w.heap.size w W) (i : Nat) (hi : i < n)=>(show W.cell? ⟨b,off + i,none⟩=some (.int .u8 (byteAt zs i)) from (hb'.cell (p:=⟨b,off + i,none⟩) hb).trans (hcell i hi)))
  have i1 : (0 : Int) < (n : Int):=by omega
  have x0 : w1.cell? ⟨b,off,none⟩=some (.int .u8 (byteAt zs 0)):=HC.out w1 S.out.bel 0 (by omega)
  obtain ⟨c0,c1⟩ : 0<=byteAt zs 0∧byteAt zs 0<=255:=hz.get (by omega) 0
  have j0 : (0 : Nat) < n:=by omega
  clear hcell R
  by_cases h16 : byteAt zs 0 / 16=4
  ·have i16 : (byteAt zs 0 / 16 != 4)=false:=by simp [h16]
   have H16:=Lib.hid h16
   have hsz : byteAt zs 0 % 16 * 4=(sizeR zs : Int):=by unfold sizeR;omega
   have hss : sizeR zs<=60:=by omega
   clear h16
   by_cases hs20 : sizeR zs < 20
   ·have is : (sizeR zs : Int) < 20:=by omega
    have hf : faultR zs=2:=bad_header (by rw [HL.out];omega) H16.out (.inl hs20)
    have HF:=Lib.hid hf
    clear hf
    have T:=Lib.hid (S.out.setR 0 rfl (HD.zero.cells (.slice none 0 0)))
    go_wp2_with (first | (refine wpList_load_row rfl 58 _ rfl (w.heap.size + 1) rfl 58 (HD.zero.cells (.slice none 0 0)) (0,0) _ (S.out.blk 1 rfl) Tryz.underlying58 rfl (by kernel_rfl) ?_) | (refine wpList_store_row rfl 58 _ _ rfl w.heap.size (HD.zero.cells (.slice none 0 0)) rfl rfl 58 (HD.zero.cells (.slice none 0 0)) (S.out.blk 0 rfl) (by kernel_rfl) rfl (zcells_one) ?_))
    refine bodyPost_ret (results_cell_tmp3 rfl _ _ w.heap.size 58 (HD.zero.cells (.slice none 0 0)) _ _ rfl (T.out.blk 0 rfl) Tryz.underlying58 rfl (by kernel_rfl)) rfl ?_
    exact read_fail rfl (by rw [HF.out];decide) T.out.bel _ (by rw [HF.out];rfl)
   ·have is : ¬ (sizeR zs : Int) < 20:=by omega
    by_cases hsn : n < sizeR zs
    ·have is2 : (n : Int) < (sizeR zs : Int):=by omega
     have hf : faultR zs=2:=bad_header (by rw [HL.out];omega) H16.out (.inr (by rw [HL.out];exact hsn))
     have HF:=Lib.hid hf
     clear hf
     have T:=Lib.hid (S.out.setR 0 rfl (HD.zero.cells (.slice none 0 0)))
     go_wp2_with (first | (refine wpList_load_row rfl 58 _ rfl (w.heap.size + 1) rfl 58 (HD.zero.cells (.slice none 0 0)) (0,0) _ (S.out.blk 1 rfl) Tryz.underlying58 rfl (by kernel_rfl) ?_) | (refine wpList_store_row rfl 58 _ _ rfl w.heap.size (HD.zero.cells (.slice none 0 0)) rfl rfl 58 (HD.zero.cells (.slice none 0 0)) (S.out.blk 0 rfl) (by kernel_rfl) rfl (zcells_one) ?_))
     refine bodyPost_ret (results_cell_tmp3 rfl _ _ w.heap.size 58 (HD.zero.cells (.slice none 0 0)) _ _ rfl (T.out.blk 0 rfl) Tryz.underlying58 rfl (by kernel_rfl)) rfl ?_
     exact read_fail rfl (by rw [HF.out];decide) T.out.bel _ (by rw [HF.out];rfl)
    ·have is2 : ¬ (n : Int) < (sizeR zs : Int):=by omega
     have s1:=fun W=>run_slice_lohi (P:=Tryz.prog) W Tryz.underlying22 hi hz1 (some ⟨b,off,none⟩) n c 2 4 2 4 rfl rfl (by omega) (by omega)
     have s2:=fun W=>run_slice_lohi (P:=Tryz.prog) W Tryz.underlying22 hi hz1 (some ⟨b,off,none⟩) n c 6 8 6 8 rfl rfl (by omega) (by omega)
     have EN:=Lib.hid (fun (p : Nat) (hp : p + 2<=n)=>(show numB ((zs.drop p).take 2)=wordAt zs p from numB_word p (by rw [HL.out];exact hp)))
     obtain ⟨tb0,tb1⟩:=wordAt_bd hz 2
     obtain ⟨fb0,fb1⟩:=wordAt_bd hz 6
     have htot : wordAt zs 2=(totalR zs : Int):=by unfold totalR;omega
     have HTT:=Lib.hid htot
     have htt : totalR zs<=65535:=by omega
     clear htot tb0 tb1
     go_wp2_with fail
     refine (r5number_any _ 2 _ _ _ ((RW.out _ S.out.bel).mid (c:=c) (lo:=2) (hi:=4) (by omega) (by omega) hn) ((hz.drop _).take _) (by omega)).mono ?_
     rintro e w2 ⟨rfl,rfl⟩
     rw [show ((4 : Nat) - 2)=2 from rfl,EN.out 2 (by omega),HTT.out]
     by_cases ht1 : totalR zs < sizeR zs
     ·have it1 : (totalR zs : Int) < (sizeR zs : Int):=by omega
      have hf : faultR zs=3:=bad_total (by rw [HL.out];omega) H16.out ⟨by omega,by rw [HL.out];omega⟩ (.inl ht1)
      have HF:=Lib.hid hf
      clear hf
      have T:=Lib.hid (S.out.setR 0 rfl (HD.zero.cells (.slice none 0 0)))
      go_wp2_with (first | (refine wpList_load_row rfl 58 _ rfl (w.heap.size + 1) rfl 58 (HD.zero.cells (.slice none 0 0)) (0,0) _ (S.out.blk 1 rfl) Tryz.underlying58 rfl (by kernel_rfl) ?_) | (refine wpList_store_row rfl 58 _ _ rfl w.heap.size (HD.zero.cells (.slice none 0 0)) rfl rfl 58 (HD.zero.cells (.slice none 0 0)) (S.out.blk 0 rfl) (by kernel_rfl) rfl (zcells_one) ?_))
      refine bodyPost_ret (results_cell_tmp3 rfl _ _ w.heap.size 58 (HD.zero.cells (.slice none 0 0)) _ _ rfl (T.out.blk 0 rfl) Tryz.underlying58 rfl (by kernel_rfl)) rfl ?_
      exact read_fail rfl (by rw [HF.out];decide) T.out.bel _ (by rw [HF.out];rfl)
     ·have it1 : ¬ (totalR zs : Int) < (sizeR zs : Int):=by omega
      by_cases ht2 : n < totalR zs
      ·have it2 : (n : Int) < (totalR zs : Int):=by omega
       have hf : faultR zs=3:=bad_total (by rw [HL.out];omega) H16.out ⟨by omega,by rw [HL.out];omega⟩ (.inr (by rw [HL.out];exact ht2))
       have HF:=Lib.hid hf
       clear hf
       have T:=Lib.hid (S.out.setR 0 rfl (HD.zero.cells (.slice none 0 0)))
       go_wp2_with (first | (refine wpList_load_row rfl 58 _ rfl (w.heap.size + 1) rfl 58 (HD.zero.cells (.slice none 0 0)) (0,0) _ (S.out.blk 1 rfl) Tryz.underlying58 rfl (by kernel_rfl) ?_) | (refine wpList_store_row rfl 58 _ _ rfl w.heap.size (HD.zero.cells (.slice none 0 0)) rfl rfl 58 (HD.zero.cells (.slice none 0 0)) (S.out.blk 0 rfl) (by kernel_rfl) rfl (zcells_one) ?_))
       refine bodyPost_ret (results_cell_tmp3 rfl _ _ w.heap.size 58 (HD.zero.cells (.slice none 0 0)) _ _ rfl (T.out.blk 0 rfl) Tryz.underlying58 rfl (by kernel_rfl)) rfl ?_
       exact read_fail rfl (by rw [HF.out];decide) T.out.bel _ (by rw [HF.out];rfl)
      ·have it2 : ¬ (n : Int) < (totalR zs : Int):=by omega
       have s3 : (sizeR zs : Int)<=(c : Int):=by omega
       have s4 : (0 : Int)<=(sizeR zs : Int):=by omega
       go_wp2_with fail
       refine (rSum_any _ (sizeR zs) _ _ _ ((RW.out _ S.out.bel).take (by omega)) (hz.take _) (by omega)).mono ?_
       rintro e w2 ⟨rfl,rfl⟩
       by_cases hsum : sumOf (zs.take (sizeR zs))=65535
       ·have HSM:=Lib.hid hsum
        have isum : (sumOf (zs.take (sizeR zs)) != 65535)=false:=by simp [hsum]
        clear hsum
        go_wp2_with fail
        refine (r5number_any _ 2 _ _ _ ((RW.out _ S.out.bel).mid (c:=c) (lo:=6) (hi:=8) (by omega) (by omega) hn) ((hz.drop _).take _) (by omega)).mono ?_
        rintro e w2 ⟨rfl,rfl⟩
        rw [show ((8 : Nat) - 6)=2 from rfl,EN.out 6 (by omega)]
        by_cases hfl : 32768<=wordAt zs 6
        ·have ifl : (wordAt zs 6 / 32768 == 1)=true:=by simp;omega
         have hf : faultR zs=5:=bad_flags (by rw [HL.out];omega) H16.out ⟨by omega,by rw [HL.out];omega⟩ ⟨by omega,by rw [HL.out];omega⟩ HSM.out hfl
         have HF:=Lib.hid hf
         clear hf
         have T:=Lib.hid (S.out.setR 0 rfl (HD.zero.cells (.slice none 0 0)))
         go_wp2_with (first | (refine wpList_load_row rfl 58 _ rfl (w.heap.size + 1) rfl 58 (HD.zero.cells (.slice none 0 0)) (0,0) _ (S.out.blk 1 rfl) Tryz.underlying58 rfl (by kernel_rfl) ?_) | (refine wpList_store_row rfl 58 _ _ rfl w.heap.size (HD.zero.cells (.slice none 0 0)) rfl rfl 58 (HD.zero.cells (.slice none 0 0)) (S.out.blk 0 rfl) (by kernel_rfl) rfl (zcells_one) ?_))
         refine bodyPost_ret (results_cell_tmp3 rfl _ _ w.heap.size 58 (HD.zero.cells (.slice none 0 0)) _ _ rfl (T.out.blk 0 rfl) Tryz.underlying58 rfl (by kernel_rfl)) rfl ?_
         exact read_fail rfl (by rw [HF.out];decide) T.out.bel _ (by rw [HF.out];rfl)
        ·have ifl : (wordAt zs 6 / 32768 == 1)=false:=by simp;omega
         have HLF:=Lib.hid (last_fault (by rw [HL.out];omega) H16.out ⟨by omega,by rw [HL.out];omega⟩ ⟨by omega,by rw [HL.out];omega⟩ HSM.out hfl)
         clear isum s2 hfl it1 it2 s3 s4 is is2 hsz i16 x0 c0 c1
         go_wp2_with fail
         have N6 : w.heap.size + 1 < w1.heap.size:=(S.out.blk 1 rfl).lt
         have y1 : w1.cell? ⟨b,off + 1,none⟩=some (.int .u8 (byteAt zs 1)):=HC.out w1 S.out.bel 1 (by omega)
         have x0' : w1.cell? ⟨w.heap.size + 1,0,none⟩=some (.int .u8 0):=S.out.cell 1 rfl 0 rfl
         have z0':=S.out.free 1 rfl 0
         have x1' : w1.cell? ⟨w.heap.size + 1,1,none⟩=some (.int .u16 0):=S.out.cell 1 rfl 1 rfl
         have z1':=S.out.free 1 rfl 1
         have x2' : w1.cell? ⟨w.heap.size + 1,2,none⟩=some (.bool false):=S.out.cell 1 rfl 2 rfl
         have z2':=S.out.free 1 rfl 2
         have x3' : w1.cell? ⟨w.heap.size + 1,3,none⟩=some (.bool false):=S.out.cell 1 rfl 3 rfl
         have z3':=S.out.free 1 rfl 3
         have x4' : w1.cell? ⟨w.heap.size + 1,4,none⟩=some (.int .i64 0):=S.out.cell 1 rfl 4 rfl
         have z4':=S.out.free 1 rfl 4
         have s45:=fun W=>run_slice_lohi (P:=Tryz.prog) W Tryz.underlying22 hi hz1 (some ⟨b,off,none⟩) n c 4 6 4 6 rfl rfl (by omega) (by omega)
         obtain ⟨g0,g1⟩:=wordAt_bd hz 4
         have u4 : IntKind.u16.wrap (wordAt zs 4)=wordAt zs 4:=u16_in _ g0 g1
         obtain ⟨q1,hq1⟩ : ∃ x,x=wordAt zs 6 / 16384:=⟨_,rfl⟩
         obtain ⟨q2,hq2⟩ : ∃ x,x=wordAt zs 6 / 8192:=⟨_,rfl⟩
         obtain ⟨r1,hr1⟩ : ∃ x,x=q1 % 2:=⟨_,rfl⟩
         obtain ⟨r2,hr2⟩ : ∃ x,x=q2 % 2:=⟨_,rfl⟩
         obtain ⟨r3,hr3⟩ : ∃ x,x=wordAt zs 6 % 8192:=⟨_,rfl⟩
         obtain ⟨O,hO⟩ : ∃ x,x=r3 * 8:=⟨_,rfl⟩
         have v1 : (wordAt zs 6).tdiv 16384=q1:=by rw [Int.tdiv_eq_ediv_of_nonneg fb0];exact hq1.symm
         have v2 : (wordAt zs 6).tdiv 8192=q2:=by rw [Int.tdiv_eq_ediv_of_nonneg fb0];exact hq2.symm
         have v3 : (wordAt zs 6).tmod 8192=r3:=by rw [Int.tmod_eq_emod_of_nonneg fb0];exact hr3.symm
         have v4 : IntKind.i64.wrap q1=q1:=IntWalk.i64_in _ (by omega)
         have v5 : IntKind.i64.wrap q2=q2:=IntWalk.i64_in _ (by omega)
         have v6 : q1.tmod 2=r1:=by rw [Int.tmod_eq_emod_of_nonneg (by omega)];exact hr1.symm
         have v7 : q2.tmod 2=r2:=by rw [Int.tmod_eq_emod_of_nonneg (by omega)];exact hr2.symm
         have v8 : IntKind.i64.wrap (r3 * 8)=O:=by rw [hO];exact IntWalk.i64_in _ (by omega)
         have HQ:=Lib.hid (show (r1 == 1)=(hdOf zs).df∧(r2 == 1)=(hdOf zs).mf∧O=(hdOf zs).off from ⟨by rw [hr1,hq1];rfl,by rw [hr2,hq2];rfl,by rw [hO,hr3];show wordAt zs 6 % 8192 * 8=8 * (wordAt zs 6 % 8192);omega⟩)
         clear hq1 hq2 hr1 hr2 hr3 hO
         have i2 : (1 : Int) < (n : Int):=by omega
         have KK:=Lib.hid (fun (W : World) (hb' : Below (w.heap.size + 1) w1 W)=>(show Below (w.heap.size + 1) w1 W∧W.cell? ⟨b,off + 1,none⟩=some (.int .u8 (byteAt zs 1)) from ⟨hb',HC.out W (S.out.bel.trans (hb'.mono (by omega))) 1 (by omega)⟩))
         go_region_held3 (fun W'=>Below (w.heap.size + 1) w1 W'∧W'.cell? ⟨b,off + 1,none⟩=some (.int .u8 (byteAt zs 1))) ((with_reducible refine KK.out _ ?_;(repeat' (first | (with_reducible exact Below.refl _ _) | (with_reducible refine Below.drew ?_) | (with_reducible refine Below.setCell ?_ (by simp) _)))))
          ((go_at_call 47;refine (r5number_any _ 2 _ _ _ ((RW.out _ S.out.bel.drew).mid (c:=c) (lo:=4) (hi:=6) (by omega) (by omega) hn) ((hz.drop _).take _) (by omega)).mono ?_;rintro e w2 ⟨rfl,rfl⟩;rw [show ((6 : Nat) - 4)=2 from rfl,EN.out 4 (by omega)]))
         have T:=Lib.hid (((((S.out.setB 1 rfl 0 (.int .u8 (byteAt zs 1))).setB 1 rfl 1 (.int .u16 (wordAt zs 4))).setB 1 rfl 2 (.bool (r1 == 1))).setB 1 rfl 3 (.bool (r2 == 1))).setB 1 rfl 4 (.int .i64 O)).drew
         have i0' : (0 : Int)<=(n : Int):=by omega
         generalize hw3 : (((((w1.setCell ⟨w.heap.size + 1,0,none⟩ (.int .u8 (byteAt zs 1))).setCell ⟨w.heap.size + 1,1,none⟩ (.int .u16 (wordAt zs 4))).setCell ⟨w.heap.size + 1,2,none⟩ (.bool (r1 == 1))).setCell ⟨w.heap.size + 1,3,none⟩ (.bool (r2 == 1))).setCell ⟨w.heap.size + 1,4,none⟩ (.int .i64 O)).drew=w3 at T ⊢
         clear hw3 y1 KK i2 u4 v1 v2 v3 v4 v5 v6 v7 v8 g0 g1 s45 x0' x1' x2' x3' x4' z0' z1' z2' z3' z4' N6
         have T' : SP w w3 [.blk w.heap.size 58 (HD.zero.cells (.slice none 0 0)),.blk (w.heap.size + 1) 58 #[.int .u8 (byteAt zs 1),.int .u16 (wordAt zs 4),.bool (r1 == 1),.bool (r2 == 1),.int .i64 O,.int .u8 0,.int .u8 0,.int .u32 0,.int .u32 0,.slice none 0 0]]:=T.out
         have T3:=Lib.hid T'
         clear T T' S
         go_upto_region 18 with fail
         have N6 : w.heap.size + 1 < w3.heap.size:=(T3.out.blk 1 rfl).lt
         have y8 : w3.cell? ⟨b,off + 8,none⟩=some (.int .u8 (byteAt zs 8)):=HC.out w3 T3.out.bel 8 (by omega)
         have y9 : w3.cell? ⟨b,off + 9,none⟩=some (.int .u8 (byteAt zs 9)):=HC.out w3 T3.out.bel 9 (by omega)
         have x5' : w3.cell? ⟨w.heap.size + 1,5,none⟩=some (.int .u8 0):=T3.out.cell 1 rfl 5 rfl
         have z5':=T3.out.free 1 rfl 5
         have x6' : w3.cell? ⟨w.heap.size + 1,6,none⟩=some (.int .u8 0):=T3.out.cell 1 rfl 6 rfl
         have z6':=T3.out.free 1 rfl 6
         have x7' : w3.cell? ⟨w.heap.size + 1,7,none⟩=some (.int .u32 0):=T3.out.cell 1 rfl 7 rfl
         have z7':=T3.out.free 1 rfl 7
         have x8' : w3.cell? ⟨w.heap.size + 1,8,none⟩=some (.int .u32 0):=T3.out.cell 1 rfl 8 rfl
         have z8':=T3.out.free 1 rfl 8
         have s1216:=fun W=>run_slice_lohi (P:=Tryz.prog) W Tryz.underlying22 hi hz1 (some ⟨b,off,none⟩) n c 12 16 12 16 rfl rfl (by omega) (by omega)
         have s1620:=fun W=>run_slice_lohi (P:=Tryz.prog) W Tryz.underlying22 hi hz1 (some ⟨b,off,none⟩) n c 16 20 16 20 rfl rfl (by omega) (by omega)
         obtain ⟨l0,l1⟩:=longAt_bd hz 12
         obtain ⟨m0,m1⟩:=longAt_bd hz 16
         have u12 : IntKind.u32.wrap (longAt zs 12)=longAt zs 12:=u32_in _ l0 l1
         have u16' : IntKind.u32.wrap (longAt zs 16)=longAt zs 16:=u32_in _ m0 m1
         have EL:=Lib.hid (fun (p : Nat) (hp : p + 4<=n)=>(show numB ((zs.drop p).take 4)=longAt zs p from numB_long p (by rw [HL.out];exact hp)))
         have i8 : (8 : Int) < (n : Int):=by omega
         have i9 : (9 : Int) < (n : Int):=by omega
         have KK:=Lib.hid (fun (W : World) (hb' : Below (w.heap.size + 1) w3 W)=>(show Below (w.heap.size + 1) w3 W∧W.cell? ⟨b,off + 8,none⟩=some (.int .u8 (byteAt zs 8))∧W.cell? ⟨b,off + 9,none⟩=some (.int .u8 (byteAt zs 9)) from ⟨hb',HC.out W (T3.out.bel.trans (hb'.mono (by omega))) 8 (by omega),HC.out W (T3.out.bel.trans (hb'.mono (by omega))) 9 (by omega)⟩))
         go_cut [7] (fun s7 wx=>s7 = .int .i64 (sizeR zs : Int)∧SP w wx [.blk w.heap.size 58 (HD.zero.cells (.slice none 0 0)),.blk (w.heap.size + 1) 58 #[.int .u8 (byteAt zs 1),.int .u16 (wordAt zs 4),.bool (r1 == 1),.bool (r2 == 1),.int .i64 O,.int .u8 (byteAt zs 8),.int .u8 (byteAt zs 9),.int .u32 (longAt zs 12),.int .u32 (longAt zs 16),.slice none 0 0]])
         case first =>
          go_region_held3 (fun W'=>Below (w.heap.size + 1) w3 W'∧W'.cell? ⟨b,off + 8,none⟩=some (.int .u8 (byteAt zs 8))∧W'.cell? ⟨b,off + 9,none⟩=some (.int .u8 (byteAt zs 9))) ((with_reducible refine KK.out _ ?_;(repeat' (first | (with_reducible exact Below.refl _ _) | (with_reducible refine Below.drew ?_) | (with_reducible refine Below.setCell ?_ (by simp) _)))))
           (first
            | (go_at_call 47;(with_reducible refine (r5number_any (cutA (some ⟨b,off,none⟩) c 12) (16 - 12) _ ((zs.drop 12).take 4) _ ((RW.out _ T3.out.bel.drew).mid (c:=c) (lo:=12) (hi:=16) (by omega) (by omega) hn) ((hz.drop _).take _) (by omega)).mono ?_);rintro e w2 ⟨rfl,rfl⟩;rw [EL.out 12 (by omega)])
            | (go_at_call 47;(with_reducible refine (r5number_any (cutA (some ⟨b,off,none⟩) c 16) (20 - 16) _ ((zs.drop 16).take 4) _ ((RW.out _ T3.out.bel.drew).mid (c:=c) (lo:=16) (hi:=20) (by omega) (by omega) hn) ((hz.drop _).take _) (by omega)).mono ?_);rintro e w2 ⟨rfl,rfl⟩;rw [EL.out 16 (by omega)]))
          all_goals (go_wp2_with fail;go_meet;exact ⟨rfl,((((T3.out.setB 1 rfl 5 (.int .u8 (byteAt zs 8))).setB 1 rfl 6 (.int .u8 (byteAt zs 9))).setB 1 rfl 7 (.int .u32 (longAt zs 12))).setB 1 rfl 8 (.int .u32 (longAt zs 16))).drew⟩)
         case rest =>
          obtain ⟨rfl,T4'⟩:=hcut
          have T4:=Lib.hid T4'
          clear T4' T3 KK y8 y9 x5' x6' x7' x8' z5' z6' z7' z8' s1216 s1620 N6 i8 i9 EL
          have y9 : wc.cell? ⟨w.heap.size + 1,9,none⟩=some (.slice none 0 0):=T4.out.cell 1 rfl 9 rfl
          have z9:=T4.out.free 1 rfl 9
          have N6 : w.heap.size + 1 < wc.heap.size:=(T4.out.blk 1 rfl).lt
          have s20:=fun W=>run_slice_lohi (P:=Tryz.prog) W Tryz.underlying22 hi hz1 (some ⟨b,off,none⟩) n c 20 (sizeR zs : Int) 20 (sizeR zs) rfl rfl (by omega) (by omega)
          have RDO : ∀ W,Below w.heap.size w W->RD .u8 W W.heap.size (cutA (some ⟨b,off,none⟩) c 20) (sizeR zs - 20) (optsOf zs):=fun W hb'=>(RW.out W hb').mid (c:=c) (lo:=20) (hi:=sizeR zs) (by omega) (by omega) hn
          have RO:=Lib.hid RDO
          clear RDO
          go_upto_region 19 with fail
          go_cut [7] (fun s7 wx=>∃ A5 c5,s7 = .int .i64 (sizeR zs : Int)∧SP w wx [.blk w.heap.size 58 (HD.zero.cells (.slice none 0 0)),.blk (w.heap.size + 1) 58 #[.int .u8 (byteAt zs 1),.int .u16 (wordAt zs 4),.bool (r1 == 1),.bool (r2 == 1),.int .i64 O,.int .u8 (byteAt zs 8),.int .u8 (byteAt zs 9),.int .u32 (longAt zs 12),.int .u32 (longAt zs 16),.slice A5 (sizeR zs - 20) c5],.own .u8 5 A5 (sizeR zs - 20) c5 (optsOf zs)])
          case first =>
           go_region_law ((refine step_append_rd _ (by rfl) _ _ _ (by rfl) .u8 wc.heap.size 5 i0 1 Tryz.underlying22 hi hz0 hz1 hz2 none 0 0 [] (by rfl) OWN.nil _ (cutA (some ⟨b,off,none⟩) c 20) (sizeR zs - 20) (c - 20) (optsOf zs) (by rfl) (RO.out _ T4.out.bel.drew) (by simp only [maxLen];omega) (by omega) (Nat.le_refl _) ?_;intro A5 c5 w5 happ;have hb5 : Below wc.heap.size wc w5:=(Below.refl _ _).drew.trans (happ.keepBelow (fun g hg=>by cases hg) (Nat.le_refl _));have ho:=happ.own;rw [Nat.zero_add,List.nil_append] at ho;have T5:=Lib.hid (T4.out.pushOwn hb5 ho);clear ho;have y9' : w5.cell? ⟨w.heap.size + 1,9,none⟩=some (.slice none 0 0):=T5.out.cell 1 rfl 9 rfl;have z9':=T5.out.free 1 rfl 9;clear happ))
           all_goals (go_wp2_with fail;go_meet;exact ⟨A5,c5,rfl,T5.out.setB 1 rfl 9 (.slice A5 (sizeR zs - 20) c5)⟩)
          case rest =>
           obtain ⟨A5,c5,rfl,T6'⟩:=hcut
           rw [HQ.out.1,HQ.out.2.1,HQ.out.2.2] at T6'
           have T6 : SP w wc [.blk w.heap.size 58 (HD.zero.cells (.slice none 0 0)),.blk (w.heap.size + 1) 58 ((hdOf zs).cells (.slice A5 (sizeR zs - 20) c5)),.own .u8 5 A5 (sizeR zs - 20) c5 (optsOf zs)]:=T6'
           have T7:=Lib.hid T6
           clear T6 T6' T4 y9 z9 N6 s20
           have hsub : IntKind.i64.wrap ((totalR zs : Int) - (sizeR zs : Int))=(totalR zs : Int) - sizeR zs:=IntWalk.i64_in _ (by omega)
           go_wp2_with (refine wpList_load_row rfl 58 _ rfl (w.heap.size + 1) rfl 58 ((hdOf zs).cells (.slice A5 (sizeR zs - 20) c5)) (0,0) _ (T7.out.blk 1 rfl) Tryz.underlying58 rfl (by kernel_rfl) ?_)
           refine (r5right_any (hdOf zs) A5 (sizeR zs - 20) c5 ((totalR zs : Int) - sizeR zs) _ (hdOf_wf hz).off (by omega) (by omega)).mono ?_
           rintro e w8 ⟨rfl,hb8⟩
           have T8:=Lib.hid (T7.out.next hb8)
           clear hb8 T7
           cases hRB : rightB (hdOf zs).off (hdOf zs).mf (sizeR zs - 20) ((totalR zs : Int) - sizeR zs)
           ·have hf : faultR zs=6:=by rw [HLF.out,hRB];rfl
            have HF:=Lib.hid hf
            clear hf hRB
            have T:=Lib.hid (T8.out.setR 0 rfl (HD.zero.cells (.slice none 0 0)))
            go_wp2_with (refine wpList_store_row rfl 58 _ _ rfl w.heap.size (HD.zero.cells (.slice none 0 0)) rfl rfl 58 (HD.zero.cells (.slice none 0 0)) (T8.out.blk 0 rfl) (by kernel_rfl) rfl (zcells_one) ?_)
            refine bodyPost_ret (results_cell_tmp3 rfl _ _ w.heap.size 58 (HD.zero.cells (.slice none 0 0)) _ _ rfl (T.out.blk 0 rfl) Tryz.underlying58 rfl (by kernel_rfl)) rfl ?_
            exact read_fail rfl (by rw [HF.out];decide) T.out.bel _ (by rw [HF.out];rfl)
           ·have hf : faultR zs=7:=by rw [HLF.out,hRB];rfl
            have HF:=Lib.hid hf
            clear hf hRB
            have T:=Lib.hid (T8.out.setR 0 rfl ((hdOf zs).cells (.slice A5 (sizeR zs - 20) c5)))
            go_wp2_with (first | (refine wpList_load_row rfl 58 _ rfl (w.heap.size + 1) rfl 58 ((hdOf zs).cells (.slice A5 (sizeR zs - 20) c5)) (0,0) _ (T8.out.blk 1 rfl) Tryz.underlying58 rfl (by kernel_rfl) ?_) | (refine wpList_store_row rfl 58 _ _ rfl w.heap.size ((hdOf zs).cells (.slice A5 (sizeR zs - 20) c5)) rfl rfl 58 (HD.zero.cells (.slice none 0 0)) (T8.out.blk 0 rfl) (by kernel_rfl) rfl (hdcells_one _ _ _ _) ?_))
            refine bodyPost_ret (results_cell_tmp3 rfl _ _ w.heap.size 58 ((hdOf zs).cells (.slice A5 (sizeR zs - 20) c5)) _ _ rfl (T.out.blk 0 rfl) Tryz.underlying58 rfl (by kernel_rfl)) rfl ?_
            exact ⟨A5,sizeR zs - 20,c5,(by unfold hdR fromR toR ipE;rw [if_pos HF.out,if_pos HF.out,if_pos HF.out,if_pos HF.out];rfl),(by unfold optsR;rw [if_pos HF.out];exact T.out.own 2 rfl),T.out.bel⟩
       ·have isum : (sumOf (zs.take (sizeR zs)) != 65535)=true:=by simp [hsum]
        have hf : faultR zs=4:=bad_sum (by rw [HL.out];omega) H16.out ⟨by omega,by rw [HL.out];omega⟩ ⟨by omega,by rw [HL.out];omega⟩ hsum
        have HF:=Lib.hid hf
        clear hf
        have T:=Lib.hid (S.out.setR 0 rfl (HD.zero.cells (.slice none 0 0)))
        go_wp2_with (first | (refine wpList_load_row rfl 58 _ rfl (w.heap.size + 1) rfl 58 (HD.zero.cells (.slice none 0 0)) (0,0) _ (S.out.blk 1 rfl) Tryz.underlying58 rfl (by kernel_rfl) ?_) | (refine wpList_store_row rfl 58 _ _ rfl w.heap.size (HD.zero.cells (.slice none 0 0)) rfl rfl 58 (HD.zero.cells (.slice none 0 0)) (S.out.blk 0 rfl) (by kernel_rfl) rfl (zcells_one) ?_))
        refine bodyPost_ret (results_cell_tmp3 rfl _ _ w.heap.size 58 (HD.zero.cells (.slice none 0 0)) _ _ rfl (T.out.blk 0 rfl) Tryz.underlying58 rfl (by kernel_rfl)) rfl ?_
        exact read_fail rfl (by rw [HF.out];decide) T.out.bel _ (by rw [HF.out];rfl)
  ·have i16 : (byteAt zs 0 / 16 != 4)=true:=by simp [h16]
   have hf : faultR zs=1:=bad_version (by rw [HL.out];omega) h16
   have HF:=Lib.hid hf
   clear hf
   have T:=Lib.hid (S.out.setR 0 rfl (HD.zero.cells (.slice none 0 0)))
   go_wp2_with (first | (refine wpList_load_row rfl 58 _ rfl (w.heap.size + 1) rfl 58 (HD.zero.cells (.slice none 0 0)) (0,0) _ (S.out.blk 1 rfl) Tryz.underlying58 rfl (by kernel_rfl) ?_) | (refine wpList_store_row rfl 58 _ _ rfl w.heap.size (HD.zero.cells (.slice none 0 0)) rfl rfl 58 (HD.zero.cells (.slice none 0 0)) (S.out.blk 0 rfl) (by kernel_rfl) rfl (zcells_one) ?_))
   refine bodyPost_ret (results_cell_tmp3 rfl _ _ w.heap.size 58 (HD.zero.cells (.slice none 0 0)) _ _ rfl (T.out.blk 0 rfl) Tryz.underlying58 rfl (by kernel_rfl)) rfl ?_
   exact read_fail rfl (by rw [HF.out];decide) T.out.bel _ (by rw [HF.out];rfl)
end Go.Proofs.YtljbfnabnkkfeaaGreat
namespace Go.Proofs.YtljbfnabnkkfeaaGreat
open Go.RowKit
set_option maxHeartbeats 400000 in
set_option maxRecDepth 100000 in
theorem rFix_any (A : Option Addr) (n c : Nat) (zs : List Int) (q : Int) (p : Nat) (w : World) (h : RD .u8 w w.heap.size A n zs) (hz : BD 255 zs) (hn : n<=140737488355328) (hq : q=p) (hp : p % 2=0) (hk : p + 2<=n) :
 Calls Tryz.prog 51 #[.slice A n c,.int .i64 q] w (Fixed w (fixOf zs p)):=by
 subst hq
 obtain ⟨i0,hi,hz0,hz1,hz2⟩:=info_parts infoU8
 have hm' : ((p : Int) % 2 == 1)=false:=by simp;omega
 have h0' : (0 : Int)<=(p : Int):=by omega
 have hl' : ¬ (n : Int)<=(p : Int):=by omega
 have hl2 : ¬ (n : Int) < (p : Int) + 2:=by omega
 have hl3 : IntKind.i64.wrap ((p : Int) + 2)=(p : Int) + 2:=IntWalk.i64_in _ (by omega)
 have hl4 : IntKind.i64.wrap ((p : Int) + 1)=(p : Int) + 1:=IntWalk.i64_in _ (by omega)
 go_enter Tryz.func51,Tryz.ntmps51
 go_wp2_with (at_builtin;refine wpList_append_rd _ rfl _ _ _ rfl .u8 w.heap.size 5 i0 1 Tryz.underlying22 hi hz0 hz1 hz2 (some ⟨w.heap.size,0,none⟩) 0 0 [] rfl (OWN.lit w .u8 5 w.heap.size [] (Nat.le_refl _) (by simp)) w.heap.size _ _ _ zs rfl (h.alloc (Nat.le_refl _) _) (by simp [maxLen];omega) (by omega) (by simp) ?_;intro A1 c1 w1 happ;have hown:=happ.own;rw [Nat.zero_add,List.nil_append] at hown;rw [Nat.zero_add];have hb1 : Below w.heap.size w w1:=((Below.refl _ w).alloc (Nat.le_refl _) _).trans (happ.keepBelow (fun g hg=>by simp at hg;omega) (by simp));obtain ⟨g,rfl,hg1,hg2,hnc,hcm⟩:=hown.form (by omega);have x1:=hown.cell (i:=p) (by omega);have x2:=hown.cell (i:=p + 1) (by omega);have x3:=hown.frozen p;have x4:=hown.frozen (p + 1);clear happ)
 have own2 : OWN .u8 5 ((w1.setCell ⟨g,p,none⟩ (.int .u8 0)).setCell ⟨g,p + 1,none⟩ (.int .u8 0)) w.heap.size (some ⟨g,0,none⟩) n c1 (fixZ zs p):=hown.two p 0 0
 have hb2 : Below w.heap.size w ((w1.setCell ⟨g,p,none⟩ (.int .u8 0)).setCell ⟨g,p + 1,none⟩ (.int .u8 0)):=(hb1.setCell (p:=⟨g,p,none⟩) hg1 _).setCell (p:=⟨g,p + 1,none⟩) hg1 _
 generalize (w1.setCell ⟨g,p,none⟩ (.int .u8 0)).setCell ⟨g,p + 1,none⟩ (.int .u8 0)=w2 at own2 hb2 ⊢
 have hz2' : BD 255 (fixZ zs p):=put2_bd hz (by omega) (by omega)
 obtain ⟨hc1,hc2⟩:=fixC_bd hz p
 clear x1 x2 x3 x4 hown hb1 hg2
 refine (rOf_any _ n c1 (fixZ zs p) w2 own2.rd hz2' hn).mono ?_
 rintro e w3 ⟨rfl,rfl⟩
 rw [show 65535 - sumOf (fixZ zs p)=fixC zs p from rfl]
 have x1:=own2.cell (i:=p) (by omega)
 have x2:=own2.cell (i:=p + 1) (by omega)
 have x3:=own2.frozen p
 have x4:=own2.frozen (p + 1)
 have e1:=u8_in (fixC zs p / 256) (by omega) (by omega)
 have e2:=u8_mod (fixC zs p)
 have e3:=u8_in (fixC zs p % 256) (by omega) (by omega)
 go_wp2_with fail
 go_ret2
 exact ⟨some ⟨g,0,none⟩,_,c1,rfl,(own2.stored p (fixC zs p / 256)).stored (p + 1) (fixC zs p % 256),(hb2.setCell (p:=⟨g,p,none⟩) hg1 _).setCell (p:=⟨g,p + 1,none⟩) hg1 _⟩
structure TB (w : World) (N1 : Nat) (wx : World) (A A1 A2 : Option Addr) (n n2 c2 : Nat) (zs ys : List Int) : Prop where
 own : OWN .u8 5 wx w.heap.size A1 (n + 12) (n + 12) (zs++marksFrom 1 0 12)
 cut : OWN .u8 5 wx w.heap.size A1 n (n + 12) zs
 two : OWN .u8 5 wx N1 A2 n2 c2 ys
 rd : RD .u8 wx wx.heap.size A n zs
 bel : Below w.heap.size w wx
theorem TB.next {w wx wy : World} {N1 : Nat} {A A1 A2 : Option Addr} {n n2 c2 : Nat} {zs ys : List Int} (h : TB w N1 wx A A1 A2 n n2 c2 zs ys) (hb : Below wx.heap.size wx wy) : TB w N1 wy A A1 A2 n n2 c2 zs ys :=
 ⟨h.own.below hb,h.cut.below hb,h.two.below hb,h.rd.later hb,h.bel.trans (hb.mono h.bel.size)⟩
attribute [local go_sem ↓] Go.wp_at_zero Go.wp_at_succ
theorem SP.two {w0 w : World} {a b : IT} {L : List IT} (H : SP w0 w (a::b::L)) : SP w0 w [a,b]:=H.pick [0,1] (by decide) rfl
def offM (h : HD) : Int:=h.off / 8 + if h.mf then 8192 else 0
theorem offM_bd {h : HD} {ol : Nat} {n : Int} (hr : Rightly h.off h.mf ol n) : 0<=offM h∧offM h<=16383:=by
 obtain ⟨h1,h2,h3,_⟩:=hr
 unfold offM
 split <;> omega
theorem offM_df (h : HD) : flagsW h=offM h + if h.df then 16384 else 0:=by
 unfold flagsW offM
 split <;> split <;> omega
set_option maxHeartbeats 2000000 in
set_option maxRecDepth 100000 in
theorem r5Write_any (h : HD) (A : Option Addr) (n c : Nat) (opts : List Int) (Ad : Option Addr) (dn dc : Nat) (data : List Int) (w : World) (hwf : h.WF) (ro : RD .u8 w w.heap.size A n opts) (bo : BD 255 opts) (rd : RD .u8 w w.heap.size Ad dn data) (hn : n<=140737488355328) (hdn : dn<=140737488355328) :
 Calls Tryz.prog 20 #[h.val (.slice A n c),.slice Ad dn dc] w (WroteP w (wrB h opts data) (wrE h n dn)):=by
 obtain ⟨i0,hi,hz0,hz1,hz2⟩:=info_parts infoU8
 have HLO:=Lib.hid ro.len
 have HLD:=Lib.hid rd.len
 have S:=(SP.start w).alloc 58 (h.cells (.slice A n c))
 unfold HD.val HD.cells
 go_enter Tryz.func20,Tryz.ntmps20
 go_upto_region 1 with fail
 rw [show w.alloc (.cells #[.int .u8 h.tos,.int .u16 h.id,.bool h.df,.bool h.mf,.int .i64 h.off,.int .u8 h.ttl,.int .u8 h.proto,.int .u32 h.src,.int .u32 h.dst,.slice A n c] 58)=w.alloc (.cells (h.cells (.slice A n c)) 58) from rfl]
 generalize hw1 : w.alloc (.cells (h.cells (.slice A n c)) 58)=w1 at S ⊢
 clear hw1
 have H1:=Lib.hid S
 clear S
 go_wp2_with (refine wpList_load_row rfl 58 _ rfl w.heap.size rfl 58 (h.cells (.slice A n c)) (0,0) _ (H1.out.blk 0 rfl) Tryz.underlying58 rfl (by kernel_rfl) ?_)
 refine (r5right_any h A n c dn _ hwf.off (by omega) hn).mono ?_
 rintro e w2 ⟨rfl,hb2⟩
 have H2:=Lib.hid (H1.out.next hb2)
 clear hb2 H1
 by_cases hr : Rightly h.off h.mf n dn
 ·rw [rightB_yes hr]
  have HB:=Lib.hid (show wrB h opts data=pktB h opts data by unfold wrB;rw [HLO.out,HLD.out,if_pos hr])
  have HE:=Lib.hid (show wrE h n dn=0 by unfold wrE;rw [if_pos hr])
  obtain ⟨m0,m1⟩:=offM_bd hr
  have HFW:=Lib.hid (offM_df h)
  obtain ⟨w0,w1'⟩:=flagsW_bd hr
  have HR:=Lib.hid hr
  have hon : n<=40:=hr.2.2.2.1
  have hdn' : dn<=65515:=by have:=hr.2.2.2.2.2.2.1;omega
  have hdiv : n % 4=0:=hr.2.2.2.2.1
  obtain ⟨o1,o2,o3,_⟩:=hr
  obtain ⟨t0,t1⟩:=hwf.tos
  obtain ⟨d0,d1⟩:=hwf.id
  obtain ⟨l0,l1⟩:=hwf.ttl
  obtain ⟨p0,p1⟩:=hwf.proto
  obtain ⟨s0,s1⟩:=hwf.src
  obtain ⟨e0,e1⟩:=hwf.dst
  clear o1
  have f9 : w2.cell? ⟨w.heap.size,9,none⟩=some (.slice A n c):=H2.out.cell 0 rfl 9 rfl
  have f4 : w2.cell? ⟨w.heap.size,4,none⟩=some (.int .i64 h.off):=H2.out.cell 0 rfl 4 rfl
  have f3 : w2.cell? ⟨w.heap.size,3,none⟩=some (.bool h.mf):=H2.out.cell 0 rfl 3 rfl
  have f2 : w2.cell? ⟨w.heap.size,2,none⟩=some (.bool h.df):=H2.out.cell 0 rfl 2 rfl
  go_upto_if 22 with fail
  go_cut [7] (fun s7 wx=>s7 = .int .i64 (offM h)∧wx=w2)
  case first =>
   have HV:=Lib.hid (show (h.mf=true->offM h=h.off / 8 + 8192)∧(¬ h.mf=true->offM h=h.off / 8) from ⟨fun hm=>by unfold offM;rw [if_pos hm],fun hm=>by unfold offM;rw [if_neg hm];omega⟩)
   clear f2 f3 f4 f9
   go_wp2_with fail
   all_goals (go_meet;refine ⟨?_,rfl⟩;first | rw [HV.out.1 (by assumption)] | rw [HV.out.2 (by assumption)] | rw [HV.out.2 (by simp [*])])
  case rest =>
   obtain ⟨rfl,rfl⟩:=hcut
   go_upto_if 26 with fail
   go_cut [7] (fun s7 wx=>s7 = .int .i64 (flagsW h)∧wx=wc)
   case first =>
    have HV:=Lib.hid (show (h.df=true->flagsW h=offM h + 16384)∧(¬ h.df=true->flagsW h=offM h) from ⟨fun hm=>by rw [HFW.out,if_pos hm],fun hm=>by rw [HFW.out,if_neg hm];omega⟩)
    clear f2 f3 f4 f9
    go_wp2_with fail
    all_goals (go_meet;refine ⟨?_,rfl⟩;first | rw [HV.out.1 (by assumption)] | rw [HV.out.2 (by assumption)] | rw [HV.out.2 (by simp [*])])
   case rest =>
    obtain ⟨rfl,rfl⟩:=hcut
    clear f2 f3 f4 f9
    have e1' : IntKind.u8.wrap (64 + (20 + (n : Int)) / 4)=64 + (20 + (n : Int)) / 4:=u8_in _ (by omega) (by omega)
    have e2' : IntKind.i64.wrap h.id=h.id:=IntWalk.i64_in _ (by omega)
    have e3' : IntKind.i64.wrap h.src=h.src:=IntWalk.i64_in _ (by omega)
    have e4' : IntKind.i64.wrap h.dst=h.dst:=IntWalk.i64_in _ (by omega)
    have f0 : wc.cell? ⟨w.heap.size,0,none⟩=some (.int .u8 h.tos):=H2.out.cell 0 rfl 0 rfl
    go_upto_region 10 with fail
    have T3 : SP w (wc.alloc (.cells #[.int .u8 (64 + (20 + (n : Int)) / 4),.int .u8 h.tos] 5)) [.blk w.heap.size 58 (h.cells (.slice A n c)),.own .u8 5 (some ⟨wc.heap.size,0,none⟩) 2 2 [64 + (20 + (n : Int)) / 4,h.tos]]:=H2.out.allocI .u8 5 [64 + (20 + (n : Int)) / 4,h.tos] (by simp [maxLen])
    generalize hw3 : wc.alloc (.cells #[.int .u8 (64 + (20 + (n : Int)) / 4),.int .u8 h.tos] 5)=w3 at T3 ⊢
    generalize wc.heap.size=G3 at T3 ⊢
    have H3:=Lib.hid T3
    clear hw3 T3 f0 H2 e1'
    go_wp2_with fail
    refine (r5bytes_any 2 2 (20 + (n : Int) + (dn : Int)) _ (by omega) rfl (by omega) (by omega)).mono ?_
    rintro e b0 ⟨X0,xn0,xc0,rfl,own0,hb0⟩
    have hx0 : 2=xn0:=by have:=own0.len;rw [putB_len] at this;simpa using this
    subst hx0
    have K0:=Lib.hid (H3.out.pushOwn hb0 own0)
    clear own0 hb0 H3
    go_upto_region 11 with (at_builtin;refine wpList_append_rd _ rfl _ _ _ rfl .u8 w.heap.size 5 i0 1 Tryz.underlying22 hi hz0 hz1 hz2 (some ⟨G3,0,none⟩) 2 2 ([64 + (20 + (n : Int)) / 4,h.tos]) rfl (K0.out.own 1 rfl) _ X0 2 xc0 (putB (List.replicate 2 0) 0 2 (20 + (n : Int) + (dn : Int))) rfl (K0.out.rd 2 rfl) (by simp only [maxLen];omega) (by omega) K0.out.size ?_;intro A1 c1 v1 happ;have J1:=Lib.hid (SP.two (K0.out.app 1 rfl happ));clear happ)
    clear K0
    have f1 : v1.cell? ⟨w.heap.size,1,none⟩=some (.int .u16 h.id):=J1.out.cell 0 rfl 1 rfl
    go_wp2_with fail
    refine (r5bytes_any 2 2 (h.id) _ (by omega) rfl (by omega) (by omega)).mono ?_
    rintro e b1 ⟨X1,xn1,xc1,rfl,own1,hb1⟩
    have hx1 : 2=xn1:=by have:=own1.len;rw [putB_len] at this;simpa using this
    subst hx1
    have K1:=Lib.hid (J1.out.pushOwn hb1 own1)
    clear own1 hb1 J1
    go_upto_region 12 with (at_builtin;refine wpList_append_rd _ rfl _ _ _ rfl .u8 w.heap.size 5 i0 1 Tryz.underlying22 hi hz0 hz1 hz2 A1 (2 + 2) c1 ([64 + (20 + (n : Int)) / 4,h.tos]++putB (List.replicate 2 0) 0 2 (20 + (n : Int) + (dn : Int))) rfl (K1.out.own 1 rfl) _ X1 2 xc1 (putB (List.replicate 2 0) 0 2 (h.id)) rfl (K1.out.rd 2 rfl) (by simp only [maxLen];omega) (by omega) K1.out.size ?_;intro A2 c2 v2 happ;have J2:=Lib.hid (SP.two (K1.out.app 1 rfl happ));clear happ)
    clear K1
    clear f1
    go_wp2_with fail
    refine (r5bytes_any 2 2 (flagsW h) _ (by omega) rfl (by omega) (by omega)).mono ?_
    rintro e b2 ⟨X2,xn2,xc2,rfl,own2,hb2⟩
    have hx2 : 2=xn2:=by have:=own2.len;rw [putB_len] at this;simpa using this
    subst hx2
    have K2:=Lib.hid (J2.out.pushOwn hb2 own2)
    clear own2 hb2 J2
    go_upto_region 13 with (at_builtin;refine wpList_append_rd _ rfl _ _ _ rfl .u8 w.heap.size 5 i0 1 Tryz.underlying22 hi hz0 hz1 hz2 A2 ((2 + 2) + 2) c2 ([64 + (20 + (n : Int)) / 4,h.tos]++putB (List.replicate 2 0) 0 2 (20 + (n : Int) + (dn : Int))++putB (List.replicate 2 0) 0 2 (h.id)) rfl (K2.out.own 1 rfl) _ X2 2 xc2 (putB (List.replicate 2 0) 0 2 (flagsW h)) rfl (K2.out.rd 2 rfl) (by simp only [maxLen];omega) (by omega) K2.out.size ?_;intro A3 c3 v3 happ;have J3:=Lib.hid (SP.two (K2.out.app 1 rfl happ));clear happ)
    clear K2
    have f5 : v3.cell? ⟨w.heap.size,5,none⟩=some (.int .u8 h.ttl):=J3.out.cell 0 rfl 5 rfl
    have f6 : v3.cell? ⟨w.heap.size,6,none⟩=some (.int .u8 h.proto):=J3.out.cell 0 rfl 6 rfl
    have SB : SP w (v3.alloc (.cells #[.int .u8 h.ttl,.int .u8 h.proto,.int .u8 0,.int .u8 0] 5)) [.blk w.heap.size 58 (h.cells (.slice A n c)),.own .u8 5 A3 (((2 + 2) + 2) + 2) c3 ([64 + (20 + (n : Int)) / 4,h.tos]++putB (List.replicate 2 0) 0 2 (20 + (n : Int) + (dn : Int))++putB (List.replicate 2 0) 0 2 (h.id)++putB (List.replicate 2 0) 0 2 (flagsW h)),.own .u8 5 (some ⟨v3.heap.size,0,none⟩) 4 4 [h.ttl,h.proto,0,0]]:=J3.out.allocI .u8 5 [h.ttl,h.proto,0,0] (by simp [maxLen])
    have SBH:=Lib.hid SB
    clear SB
    go_upto_region 14 with (at_builtin;refine wpList_append_rd _ rfl _ _ _ rfl .u8 w.heap.size 5 i0 1 Tryz.underlying22 hi hz0 hz1 hz2 A3 (((2 + 2) + 2) + 2) c3 ([64 + (20 + (n : Int)) / 4,h.tos]++putB (List.replicate 2 0) 0 2 (20 + (n : Int) + (dn : Int))++putB (List.replicate 2 0) 0 2 (h.id)++putB (List.replicate 2 0) 0 2 (flagsW h)) rfl (SBH.out.own 1 rfl) _ (some ⟨v3.heap.size,0,none⟩) 4 4 ([h.ttl,h.proto,0,0]) rfl (SBH.out.rd 2 rfl) (by simp only [maxLen];omega) (by omega) SBH.out.size ?_;intro A4 c4 v4 happ;have J4:=Lib.hid (SP.two (SBH.out.app 1 rfl happ));clear happ)
    clear f5 f6 SBH
    have f7 : v4.cell? ⟨w.heap.size,7,none⟩=some (.int .u32 h.src):=J4.out.cell 0 rfl 7 rfl
    go_wp2_with fail
    refine (r5bytes_any 4 4 (h.src) _ (by omega) rfl (by omega) (by omega)).mono ?_
    rintro e b4 ⟨X4,xn4,xc4,rfl,own4,hb4⟩
    have hx4 : 4=xn4:=by have:=own4.len;rw [putB_len] at this;simpa using this
    subst hx4
    have K4:=Lib.hid (J4.out.pushOwn hb4 own4)
    clear own4 hb4 J4
    go_upto_region 15 with (at_builtin;refine wpList_append_rd _ rfl _ _ _ rfl .u8 w.heap.size 5 i0 1 Tryz.underlying22 hi hz0 hz1 hz2 A4 ((((2 + 2) + 2) + 2) + 4) c4 ([64 + (20 + (n : Int)) / 4,h.tos]++putB (List.replicate 2 0) 0 2 (20 + (n : Int) + (dn : Int))++putB (List.replicate 2 0) 0 2 (h.id)++putB (List.replicate 2 0) 0 2 (flagsW h)++[h.ttl,h.proto,0,0]) rfl (K4.out.own 1 rfl) _ X4 4 xc4 (putB (List.replicate 4 0) 0 4 (h.src)) rfl (K4.out.rd 2 rfl) (by simp only [maxLen];omega) (by omega) K4.out.size ?_;intro A5 c5 v5 happ;have J5:=Lib.hid (SP.two (K4.out.app 1 rfl happ));clear happ)
    clear K4
    clear f7
    have f8 : v5.cell? ⟨w.heap.size,8,none⟩=some (.int .u32 h.dst):=J5.out.cell 0 rfl 8 rfl
    go_wp2_with fail
    refine (r5bytes_any 4 4 (h.dst) _ (by omega) rfl (by omega) (by omega)).mono ?_
    rintro e b5 ⟨X5,xn5,xc5,rfl,own5,hb5⟩
    have hx5 : 4=xn5:=by have:=own5.len;rw [putB_len] at this;simpa using this
    subst hx5
    have K5:=Lib.hid (J5.out.pushOwn hb5 own5)
    clear own5 hb5 J5
    go_upto_region 16 with (at_builtin;refine wpList_append_rd _ rfl _ _ _ rfl .u8 w.heap.size 5 i0 1 Tryz.underlying22 hi hz0 hz1 hz2 A5 (((((2 + 2) + 2) + 2) + 4) + 4) c5 ([64 + (20 + (n : Int)) / 4,h.tos]++putB (List.replicate 2 0) 0 2 (20 + (n : Int) + (dn : Int))++putB (List.replicate 2 0) 0 2 (h.id)++putB (List.replicate 2 0) 0 2 (flagsW h)++[h.ttl,h.proto,0,0]++putB (List.replicate 4 0) 0 4 (h.src)) rfl (K5.out.own 1 rfl) _ X5 4 xc5 (putB (List.replicate 4 0) 0 4 (h.dst)) rfl (K5.out.rd 2 rfl) (by simp only [maxLen];omega) (by omega) K5.out.size ?_;intro A6 c6 v6 happ;have J6:=Lib.hid (SP.two (K5.out.app 1 rfl happ));clear happ)
    clear K5
    clear f8
    have f9 : v6.cell? ⟨w.heap.size,9,none⟩=some (.slice A n c):=J6.out.cell 0 rfl 9 rfl
    go_upto_region 17 with (at_builtin;refine wpList_append_rd _ rfl _ _ _ rfl .u8 w.heap.size 5 i0 1 Tryz.underlying22 hi hz0 hz1 hz2 A6 ((((((2 + 2) + 2) + 2) + 4) + 4) + 4) c6 ([64 + (20 + (n : Int)) / 4,h.tos]++putB (List.replicate 2 0) 0 2 (20 + (n : Int) + (dn : Int))++putB (List.replicate 2 0) 0 2 (h.id)++putB (List.replicate 2 0) 0 2 (flagsW h)++[h.ttl,h.proto,0,0]++putB (List.replicate 4 0) 0 4 (h.src)++putB (List.replicate 4 0) 0 4 (h.dst)) rfl (J6.out.own 1 rfl) _ A n c (opts) rfl ((ro.below J6.out.bel).more J6.out.size) (by simp only [maxLen];omega) (by omega) J6.out.size ?_;intro A7 c7 v7 happ;have J7:=Lib.hid (SP.two (J6.out.app 1 rfl happ));clear happ)
    clear f9
    have EZ:=Lib.hid (show [64 + (20 + (n : Int)) / 4,h.tos]++putB (List.replicate 2 0) 0 2 (20 + (n : Int) + (dn : Int))++putB (List.replicate 2 0) 0 2 (h.id)++putB (List.replicate 2 0) 0 2 (flagsW h)++[h.ttl,h.proto,0,0]++putB (List.replicate 4 0) 0 4 (h.src)++putB (List.replicate 4 0) 0 4 (h.dst)++opts=headB h opts dn by unfold headB head20;rw [HLO.out];simp [putB])
    have HBD:=Lib.hid (show BD 255 (headB h opts dn) from headB_bd hwf bo (by rw [HLO.out];exact hon))
    go_wp2_with fail
    refine (rFix_any A7 (((((((2 + 2) + 2) + 2) + 4) + 4) + 4) + n) c7 ([64 + (20 + (n : Int)) / 4,h.tos]++putB (List.replicate 2 0) 0 2 (20 + (n : Int) + (dn : Int))++putB (List.replicate 2 0) 0 2 (h.id)++putB (List.replicate 2 0) 0 2 (flagsW h)++[h.ttl,h.proto,0,0]++putB (List.replicate 4 0) 0 4 (h.src)++putB (List.replicate 4 0) 0 4 (h.dst)++opts) 10 10 _ (J7.out.rd 1 rfl) (by rw [EZ.out];exact HBD.out) (by omega) rfl (by omega) (by omega)).mono ?_
    rintro e wf ⟨Af,nf,cf,rfl,ownf,hbf⟩
    rw [EZ.out] at ownf
    have hnf:=ownf.len
    rw [fixOf_len,headB_len,HLO.out] at hnf
    have HF:=Lib.hid (J7.out.pushOwn hbf ownf)
    clear ownf hbf
    go_wp2_with (at_builtin;refine wpList_append_rd _ rfl _ _ _ rfl .u8 w.heap.size 5 i0 1 Tryz.underlying22 hi hz0 hz1 hz2 Af nf cf (fixOf (headB h opts dn) 10) rfl (HF.out.own 2 rfl) _ Ad dn dc data rfl ((rd.below HF.out.bel).more HF.out.size) (by simp only [maxLen];omega) (by omega) HF.out.size ?_;intro Ax cx wx happ;have HX:=Lib.hid (HF.out.app 2 rfl happ);clear happ)
    go_ret2
    exact ⟨Ax,_,cx,by rw [HE.out];rfl,by rw [HB.out];unfold pktB;rw [HLD.out];exact HX.out.own 2 rfl,HX.out.bel⟩
 ·rw [rightB_no hr]
  have HB:=Lib.hid (show wrB h opts data=[] by unfold wrB;rw [HLO.out,HLD.out,if_neg hr])
  have HE:=Lib.hid (show wrE h n dn=2 by unfold wrE;rw [if_neg hr])
  clear hr
  go_wp2_with fail
  go_ret2
  exact ⟨none,0,0,by rw [HE.out];rfl,by rw [HB.out];exact OWN.nil,H2.out.bel⟩
end Go.Proofs.YtljbfnabnkkfeaaGreat
