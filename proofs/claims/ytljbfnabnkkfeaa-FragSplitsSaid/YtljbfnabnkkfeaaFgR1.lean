import Derived.Test.YtljbfnabnkkfeaaFgZ
import Derived.Test.YtljbfnabnkkfeaaWRef5Read
import Derived.Test.YtljbfnabnkkfeaaWRef5W
/- baffleref07.Split: what the program's Split does. (Printed by gen_fgr1.py.) -/
namespace Go.Proofs.Ytljbfnabnkkfeaa
open Go.RowKit
set_option linter.unusedVariables false
set_option linter.unusedSimpArgs false

theorem SP.pickT3 {w0 w : World} {a b c : IT} {C : List IT} (H : SP w0 w (a :: b :: c :: C)) : SP w0 w (c :: a :: b :: C) := H.perm ((List.Perm.cons a (List.Perm.swap c b C)).trans (List.Perm.swap c a (b :: C)))
set_option maxHeartbeats 4000000 in
set_option maxRecDepth 100000 in
theorem r7split_any {w0 w : World} {L : List IT} (A : Option Addr) (n c : Nat) (zs : List Int) (size : Int) (H0 : SP w0 w L) (rd : ∀ W, SP w0 W L → RD .u8 W W.heap.size A n zs) (hz : BD 255 zs) (hnc : n ≤ c) (hn : n ≤ 400) (hsz : size ≤ 9223372036854775807) (hsz0 : -9223372036854775808 ≤ size) :
    Calls Try.prog 56 #[.slice A n c, .int .i64 size] w (SPLITD w0 L zs size) := by
  have RDD := Lib.hid rd
  have HZ := Lib.hid hz
  have HZL := Lib.hid (rd w H0).len
  have X1 := Lib.hid H0
  obtain ⟨i0, hi, hz0, hz1, hz2⟩ := info_parts infoU8
  have e1 : size.tmod 8 = size % 8 ∨ size < 8 := by
    by_cases h : size < 8
    · exact .inr h
    · exact .inl (Int.tmod_eq_emod_of_nonneg (by omega))
  clear rd hz H0
  by_cases h1 : size < 8
  · clear e1
    go_enter Try.func56, Try.ntmps56
    go_wp2_with fail
    go_ret2
    exact splitd_nil 2 (by unfold splitA; rw [if_pos (by unfold sizeOk; rw [decide_eq_false (by omega)]; rfl)]) X1.out
  replace e1 := e1.resolve_right h1
  by_cases h2 : size % 8 = 0
  case neg =>
    have e2 : (size.tmod 8 != 0) = true := by rw [e1]; simp; omega
    have e2' : (size % 8 != 0) = true := by simp; omega
    have H2 := Lib.hid h2
    clear h2 e1
    go_enter Try.func56, Try.ntmps56
    go_wp2_with fail
    go_ret2
    exact splitd_nil 2 (by unfold splitA; rw [if_pos (by unfold sizeOk; rw [decide_eq_false (p := size % 8 = 0) H2.out]; simp)]) X1.out
  have e2 : size.tmod 8 = 0 := by rw [e1]; exact h2
  have e2' : (size % 8 != 0) = false := by simp; omega
  have HOK := Lib.hid (show sizeOk size = true by unfold sizeOk; rw [decide_eq_true (by omega), decide_eq_true h2]; rfl)
  have HR := Lib.hid (r5Read_any A n c zs w (RDD.out _ X1.out) HZ.out hnc (by omega))
  clear e1
  go_enter Try.func56, Try.ntmps56
  go_wp2_with fail
  refine HR.out.mono ?_
  rintro e w4 ⟨oA, on, oc, rfl, ho, hb⟩
  have X2 := Lib.hid (X1.out.pushOwn hb ho)
  clear ho hb HR X1
  obtain ⟨H, hH⟩ : ∃ H, hdR zs = H := ⟨_, rfl⟩
  have HH := Lib.hid hH
  rw [hH]
  clear hH
  unfold HD.val HD.cells
  obtain ⟨HB, hHB⟩ : ∃ b, w4.heap.size = b := ⟨_, rfl⟩
  have X3 := Lib.hid (show SP w0 (w4.alloc (.cells #[.int .u8 H.tos, .int .u16 H.id, .bool H.df, .bool H.mf, .int .i64 H.off, .int .u8 H.ttl, .int .u8 H.proto, .int .u32 H.src, .int .u32 H.dst, .slice oA on oc] 129)) (.blk HB 129 #[.int .u8 H.tos, .int .u16 H.id, .bool H.df, .bool H.mf, .int .i64 H.off, .int .u8 H.ttl, .int .u8 H.proto, .int .u32 H.src, .int .u32 H.dst, .slice oA on oc] :: .own .u8 5 oA on oc (optsR zs) :: L) from (X2.out.rot.alloc' 129 _ hHB).rot)
  clear X2
  go_upto_region 4 with fail
  try rw [hHB]
  generalize hw5 : w4.alloc (.cells #[.int .u8 H.tos, .int .u16 H.id, .bool H.df, .bool H.mf, .int .i64 H.off, .int .u8 H.ttl, .int .u8 H.proto, .int .u32 H.src, .int .u32 H.dst, .slice oA on oc] 129) = w5 at X3 ⊢
  clear hw5 hHB
  by_cases hf : faultR zs = 7
  case neg =>
    have HF := Lib.hid hf
    have hE : ipE zs = 50 + faultR zs := by unfold ipE; rw [if_neg hf]
    have hle := faultR_le zs
    have b0 : ((ipE zs) != 0) = true := by rw [hE]; simp; omega
    clear hf hE hle
    go_wp2_with fail
    go_ret2
    exact splitd_nil (ipE zs) (by unfold splitA; rw [if_neg (by rw [HOK.out]; simp), if_pos HF.out]) X3.out.tail.tail
  case pos =>
  have hE : ipE zs = 0 := by unfold ipE; rw [if_pos hf]
  have hO : optsR zs = optsOf zs := by unfold optsR; rw [if_pos hf]
  have hF : fromR zs = sizeR zs := by unfold fromR; rw [if_pos hf]
  have hT : toR zs = totalR zs := by unfold toR; rw [if_pos hf]
  have hH : H = hdOf zs := by rw [← HH.out]; unfold hdR; rw [if_pos hf]
  have HHE := Lib.hid hH
  rw [hO] at X3
  rw [hE, hF, hT]
  obtain ⟨r1, r2, r3, r4, hr, _⟩ := right7 hf
  have hzl := HZL.out
  have hdl := frOf_len hf
  obtain ⟨fr, hfr⟩ : ∃ m, sizeR zs = m := ⟨_, rfl⟩
  obtain ⟨tt, htt⟩ : ∃ m, totalR zs = m := ⟨_, rfl⟩
  have HRI := Lib.hid hr
  rw [hfr] at r2 r3 ⊢
  rw [htt] at r3 r4 ⊢
  rw [hfr, htt] at hdl
  have HFT := Lib.hid (And.intro hfr htt)
  have HF := Lib.hid hf
  rw [hzl] at r1 r4
  have HDL := Lib.hid hdl
  have hc2 : tt ≤ c := by omega
  obtain ⟨SA, hSA⟩ : ∃ SA, cutA A c fr = SA := ⟨_, rfl⟩
  have HSA := Lib.hid hSA
  have s1 := fun W => run_slice_lohi (P := Try.prog) W Try.underlying23 hi hz1 A n c (fr : Int) (tt : Int) fr tt rfl rfl r3 hc2
  rw [hSA] at s1
  have g1 : (0 : Int) ≤ (tt : Int) := by omega
  have g2 : (tt : Int) ≤ (c : Int) := by omega
  clear hE hO hF hT hH hfr htt hf hr hzl HH hdl hSA
  go_upto_region 7 with fail
  by_cases hle : ((tt - fr : Nat) : Int) ≤ size
  case pos =>
    have HLE := Lib.hid hle
    obtain ⟨EB, hEB⟩ : ∃ b, w5.heap.size = b := ⟨_, rfl⟩
    have X4 := Lib.hid (show SP w0 (w5.alloc (.cells #[] 5)) (.own .u8 5 (some ⟨EB, 0, none⟩) 0 0 [] :: .blk HB 129 #[.int .u8 H.tos, .int .u16 H.id, .bool H.df, .bool H.mf, .int .i64 H.off, .int .u8 H.ttl, .int .u8 H.proto, .int .u32 H.src, .int .u32 H.dst, .slice oA on oc] :: .own .u8 5 oA on oc (optsOf zs) :: L) from (X3.out.allocI' .u8 5 [] (Nat.zero_le _) hEB).rot)
    go_wp2_with (at_builtin; refine wpList_append_rd _ rfl _ _ 23 rfl .u8 w0.heap.size 5 i0 1 Try.underlying23 hi hz0 hz1 hz2 (some ⟨EB, 0, none⟩) 0 0 [] rfl (X4.out.own 0 rfl) _ A tt c (zs.take tt) rfl ((RDD.out _ X4.out.tail.tail.tail).take r4) (by simp only [maxLen]; omega) (by omega) X4.out.size ?_; intro A7 c7 w7 happ; have hX : SP w0 w7 (.own .u8 5 A7 (0 + tt) c7 ([] ++ zs.take tt) :: .blk HB 129 #[.int .u8 H.tos, .int .u16 H.id, .bool H.df, .bool H.mf, .int .i64 H.off, .int .u8 H.ttl, .int .u8 H.proto, .int .u32 H.src, .int .u32 H.dst, .slice oA on oc] :: .own .u8 5 oA on oc (optsOf zs) :: L) := X4.out.app 0 rfl happ; clear happ; rw [Nat.zero_add] at hX ⊢; obtain ⟨Q, hQ⟩ : ∃ b, w7.heap.size = b := ⟨_, rfl⟩; have X5 := Lib.hid ((hX.alloc' 23 #[.slice A7 tt c7] hQ).rot.blkRow 0 rfl 1 1 rfl (by simp [maxLen])); clear hX)
    try rw [hQ]
    go_ret2
    have hsp : splitA zs size = ([zs.take tt], 0) := by
      unfold splitA
      rw [if_neg (by rw [HOK.out]; simp), if_neg (by simp [HF.out]), if_pos (by rw [HDL.out]; exact HLE.out), HFT.out.2]
    refine ⟨some ⟨Q, 0, none⟩, 1, [(⟨A7, tt, c7⟩, zs.take tt)], by rw [hsp]; rfl, by rw [hsp]; rfl, ?_⟩
    have X6 : SP w0 _ (.row 23 1 (some ⟨Q, 0, none⟩) 1 1 [.slice A7 tt c7] :: .own .u8 5 A7 tt c7 (zs.take tt) :: .blk HB 129 #[.int .u8 H.tos, .int .u16 H.id, .bool H.df, .bool H.mf, .int .i64 H.off, .int .u8 H.ttl, .int .u8 H.proto, .int .u32 H.src, .int .u32 H.dst, .slice oA on oc] :: .own .u8 5 oA on oc (optsOf zs) :: L) := X5.out
    exact X6.sub (List.Sublist.cons_cons _ (List.Sublist.cons_cons _ (List.Sublist.cons _ (List.sublist_cons_self _ _))))
  case neg =>
  obtain ⟨df, hdf⟩ : ∃ b, H.df = b := ⟨_, rfl⟩
  have xdf : w5.cell? ⟨HB, 2, none⟩ = some (.bool df) := by rw [← hdf]; exact X3.out.cell 0 rfl 2 rfl
  have HDF := Lib.hid (show (hdOf zs).df = df by rw [← HHE.out]; exact hdf)
  have HLE := Lib.hid hle
  have HDE := Lib.hid hdf
  clear hdf
  cases df
  case true =>
    go_wp2_with fail
    go_ret2
    refine splitd_nil 72 ?_ X3.out.tail.tail
    unfold splitA
    rw [if_neg (by rw [HOK.out]; simp), if_neg (by simp [HF.out]), if_neg (by rw [HDL.out]; have := HLE.out; omega), if_pos HDF.out]
  case false =>
  obtain ⟨sz, rfl⟩ : ∃ sz : Nat, size = (sz : Int) := ⟨size.toNat, by omega⟩
  obtain ⟨dn, hdn⟩ : ∃ dn, tt - fr = dn := ⟨_, rfl⟩
  obtain ⟨dc, hdc⟩ : ∃ dc, c - fr = dc := ⟨_, rfl⟩
  have hdnc : dn ≤ dc := by omega
  have hdn1 : dn ≤ 400 := by omega
  have hle2 : sz < dn := by omega
  have hsz8 : 8 ≤ sz := by omega
  have hszm : sz % 8 = 0 := by omega
  have hRD : ∀ W, SP w0 W L → RD .u8 W W.heap.size SA dn (frOf zs).d := fun W hS => by
    have := (RDD.out W hS).mid (lo := fr) (hi := tt) r3 r4 hnc
    rw [HSA.out, hdn] at this
    unfold frOf
    rw [HFT.out.1, HFT.out.2, hdn]
    exact this
  rw [hdn] at HDL HLE ⊢
  rw [hdc]
  have HRD := Lib.hid hRD
  obtain ⟨f, hff⟩ : ∃ f, frOf zs = f := ⟨_, rfl⟩
  have HFF := Lib.hid hff
  have HFO := Lib.hid (show FOK f by rw [← hff]; exact frOf_ok HF.out HZ.out)
  have HON := Lib.hid (show (optsOf zs).length = on from (X3.out.own 1 rfl).len)
  have HFR := Lib.hid (show ∀ j, sz * j < dn → Rightly (pieceF f sz j).h.off (pieceF f sz j).h.mf on (pieceF f sz j).d.length by
    intro j hj
    have hon := HON.out
    have hol := optsOf_len HF.out
    have hfo : f.o = optsOf zs := by rw [← hff]; rfl
    have hdl : f.d.length = dn := by rw [← hff]; exact HDL.out
    have hrr := HRI.out.2.2.2.2.1
    rw [HFT.out.1] at hrr hol
    have := pieceF_right HFO.out (by rw [hfo, hol]; omega) (by rw [hfo, hol, hdl]; omega) hsz8 hszm (by rw [hdl]; exact hj) (fun h => (HFO.out.mf h).2)
    rw [hfo, hon] at this
    exact this)
  rw [hff] at HDL HRD
  have HFH := Lib.hid (show f.h = H by rw [HHE.out, ← hff]; rfl)
  have HFO2 := Lib.hid (show f.o = optsOf zs by rw [← hff]; rfl)
  have HDFF := Lib.hid (show H.df = false from HDE.out)
  clear hRD hff hdn hdc hle s1 g1 g2 r1 r2 r3 r4 hc2
  obtain ⟨i9, hi9, hy0, hy1, hy2⟩ := info_parts (show (Try.prog.info? 23).map (fun i => (i.zero, i.size, i.bytes)) = some (some (.slice none 0 0), 1, 24) by kernel_rfl)
  go_upto_region 13 with fail
  clear xdf
  go_loopw [11, 12, 13, 14, 15, 16] (fun s11 s12 _ _ _ _ wr => ∃ (j i : Nat) (Ag : Option Addr) (cg : Nat) (G : List (SD × List Int)), sz * j = i ∧ j ≤ cnt dn sz ∧ s11 = .slice Ag j cg ∧ s12 = .int .i64 (i : Int) ∧ G.length = j ∧ G.map (·.2) = ((pieces f sz).take j).map bytesF ∧ SP w0 wr (.row 23 1 Ag j cg (G.map gV) :: (G.map gIT ++ (.blk HB 129 #[.int .u8 H.tos, .int .u16 H.id, .bool H.df, .bool H.mf, .int .i64 H.off, .int .u8 H.ttl, .int .u8 H.proto, .int .u32 H.src, .int .u32 H.dst, .slice oA on oc] :: .own .u8 5 oA on oc (optsOf zs) :: L)))) (fun _ s12 _ _ _ _ _ => dn - (intOf s12).toNat)
  case atStart => exact ⟨0, 0, none, 0, [], by simp, Nat.zero_le _, rfl, rfl, rfl, rfl, (X3.out.pushRow 23 1).rot⟩
  case round =>
    obtain ⟨j, i, Ag, cg, G, hij, hj, rfl, rfl, hGl, hGm, Y0⟩ := hrel
    have Y := Lib.hid Y0
    have HG := Lib.hid (And.intro hij (And.intro hGl hGm))
    clear Y0 X3 hGl hGm
    by_cases hlt : i < dn
    · have t1 : (i : Int) < (dn : Int) := by omega
      have hjc : j < cnt dn sz := (lt_cnt (by omega)).2 (by omega)
      have hj60 : j ≤ 60 := by have h2 := Nat.mul_le_mul_right j hsz8; omega
      have HJ := Lib.hid (And.intro hij hjc)
      have hof := HFO.out.off
      rw [HFH.out] at hof
      have HHB := Lib.hid (show BLOCK wr HB 129 #[.int .u8 H.tos, .int .u16 H.id, .bool H.df, .bool H.mf, .int .i64 H.off, .int .u8 H.ttl, .int .u8 H.proto, .int .u32 H.src, .int .u32 H.dst, .slice oA on oc] from Y.out.tail.right.blk 0 rfl)
      have x4 := HHB.out.cell 4
      replace x4 : wr.cell? ⟨HB, 4, none⟩ = some (.int .i64 H.off) := x4
      have hHBl : HB < wr.heap.size := HHB.out.lt
      have e3 : IntKind.i64.wrap (H.off + (i : Int)) = H.off + (i : Int) := IntWalk.i64_in _ (by omega)
      obtain ⟨en, hen⟩ : ∃ x, i + sz = x := ⟨_, rfl⟩
      have e4 : IntKind.i64.wrap ((i : Int) + (sz : Int)) = (en : Int) := by rw [IntWalk.i64_in _ (by omega)]; omega
      have HEN := Lib.hid hen
      obtain ⟨ho, hho⟩ : ∃ x : Int, H.off + (i : Int) = x := ⟨_, rfl⟩
      replace e3 : IntKind.i64.wrap (H.off + (i : Int)) = ho := by rw [e3, hho]
      have HHO := Lib.hid hho
      obtain ⟨XB, hXB⟩ : ∃ b, wr.heap.size = b := ⟨_, rfl⟩
      have Z := Lib.hid ((Y.out.alloc' 129 #[.int .u8 H.tos, .int .u16 H.id, .bool H.df, .bool H.mf, .int .i64 H.off, .int .u8 H.ttl, .int .u8 H.proto, .int .u32 H.src, .int .u32 H.dst, .slice oA on oc] hXB).rot)
      clear hij hho
      go_upto_region 16 with (refine wpList_load_row rfl 129 _ rfl HB rfl 129 #[.int .u8 H.tos, .int .u16 H.id, .bool H.df, .bool H.mf, .int .i64 H.off, .int .u8 H.ttl, .int .u8 H.proto, .int .u32 H.src, .int .u32 H.dst, .slice oA on oc] (0, 0) _ HHB.out Try.underlying129 rfl (by kernel_rfl) ?_)
      try rw [hXB]
      generalize hwv : wr.alloc (.cells #[.int .u8 H.tos, .int .u16 H.id, .bool H.df, .bool H.mf, .int .i64 H.off, .int .u8 H.ttl, .int .u8 H.proto, .int .u32 H.src, .int .u32 H.dst, .slice oA on oc] 129) = wv at Z ⊢
      clear hwv hXB Y x4
      have x4 := Z.out.tail.tail.right.cell 0 rfl 4 (v := .int .i64 H.off) rfl
      have y4 := Z.out.cell 0 rfl 4 (v := .int .i64 H.off) rfl
      have q4 := Z.out.free 0 rfl 4
      have Z2 := Lib.hid (show SP w0 (wv.setCell ⟨XB, 4, none⟩ (.int .i64 ho)) (.blk XB 129 #[.int .u8 H.tos, .int .u16 H.id, .bool H.df, .bool H.mf, .int .i64 ho, .int .u8 H.ttl, .int .u8 H.proto, .int .u32 H.src, .int .u32 H.dst, .slice oA on oc] :: .row 23 1 Ag j cg (G.map gV) :: (G.map gIT ++ (.blk HB 129 #[.int .u8 H.tos, .int .u16 H.id, .bool H.df, .bool H.mf, .int .i64 H.off, .int .u8 H.ttl, .int .u8 H.proto, .int .u32 H.src, .int .u32 H.dst, .slice oA on oc] :: .own .u8 5 oA on oc (optsOf zs) :: L))) from Z.out.setB 0 rfl 4 (.int .i64 ho))
      go_upto_region 17 with fail
      generalize hwv : wv.setCell ⟨XB, 4, none⟩ (.int .i64 ho) = wu at Z2 ⊢
      clear hwv Z x4 y4 q4
      obtain ⟨m2, hm2⟩ : ∃ m2, (pieceF f sz j).h.mf = m2 := ⟨_, rfl⟩
      obtain ⟨e2, he2⟩ : ∃ e2, i + min sz (dn - i) = e2 := ⟨_, rfl⟩
      have HE2 := Lib.hid (show i ≤ e2 ∧ e2 ≤ dn ∧ e2 - i = min sz (dn - i) by omega)
      have hm3 : (H.mf || decide (i + sz < dn)) = m2 := by
        rw [← hm2]
        unfold pieceF
        simp only
        rw [HFH.out]
        congr 2
        rw [HDL.out, Nat.mul_add, HJ.out.1, Nat.mul_one]
      have HM2 := Lib.hid hm2
      clear hm2
      obtain ⟨BB, hBB⟩ : ∃ B, decide ((en : Int) < (dn : Int)) = B := ⟨_, rfl⟩
      have HBBN := Lib.hid (show decide (i + sz < dn) = BB by rw [← hBB, HEN.out]; simp)
      have hBB' : decide (en < dn) = BB := by rw [← hBB]; simp
      go_upto_if 69 with fail
      clear hBB hBB'
      go_cut [14] (fun s14 wx => s14 = .int .i64 (e2 : Int) ∧ SP w0 wx (.blk XB 129 #[.int .u8 H.tos, .int .u16 H.id, .bool H.df, .bool m2, .int .i64 ho, .int .u8 H.ttl, .int .u8 H.proto, .int .u32 H.src, .int .u32 H.dst, .slice oA on oc] :: .row 23 1 Ag j cg (G.map gV) :: (G.map gIT ++ (.blk HB 129 #[.int .u8 H.tos, .int .u16 H.id, .bool H.df, .bool H.mf, .int .i64 H.off, .int .u8 H.ttl, .int .u8 H.proto, .int .u32 H.src, .int .u32 H.dst, .slice oA on oc] :: .own .u8 5 oA on oc (optsOf zs) :: L))))
      case first =>
        have y3 : wu.cell? ⟨XB, 3, none⟩ = some (.bool H.mf) := Z2.out.cell 0 rfl 3 (v := .bool H.mf) rfl
        have q3 : wu.frozen? ⟨XB, 3, none⟩ = false := Z2.out.free 0 rfl 3
        have HM3 := Lib.hid hm3
        clear hm3
        cases BB
        · go_wp2_with fail
          go_meet
          have h1 := HM3.out
          rw [HBBN.out, Bool.or_false] at h1
          have h2 : ¬ i + sz < dn := by have := HBBN.out; simpa using this
          have h3 : e2 = dn := by omega
          subst h3
          refine ⟨rfl, ?_⟩
          rw [← h1]
          exact Z2.out
        · have Z3 := Lib.hid (show SP w0 (wu.setCell ⟨XB, 3, none⟩ (.bool true)) (.blk XB 129 #[.int .u8 H.tos, .int .u16 H.id, .bool H.df, .bool true, .int .i64 ho, .int .u8 H.ttl, .int .u8 H.proto, .int .u32 H.src, .int .u32 H.dst, .slice oA on oc] :: .row 23 1 Ag j cg (G.map gV) :: (G.map gIT ++ (.blk HB 129 #[.int .u8 H.tos, .int .u16 H.id, .bool H.df, .bool H.mf, .int .i64 H.off, .int .u8 H.ttl, .int .u8 H.proto, .int .u32 H.src, .int .u32 H.dst, .slice oA on oc] :: .own .u8 5 oA on oc (optsOf zs) :: L))) from Z2.out.setB 0 rfl 3 (.bool true))
          go_wp2_with fail
          go_meet
          have h1 := HM3.out
          rw [HBBN.out, Bool.or_true] at h1
          have h2 : i + sz < dn := by have := HBBN.out; simpa using this
          have h3 : e2 = en := by have := HEN.out; omega
          subst h3
          refine ⟨rfl, ?_⟩
          rw [← h1]
          exact Z3.out
      case rest =>
      obtain ⟨rfl, hX⟩ := hcut
      have ZX := Lib.hid hX
      have hZ := HE2.out
      obtain ⟨z1, z2, z3⟩ := hZ
      have HPC := Lib.hid (show (pieceF f sz j).h = (⟨H.tos, H.id, H.df, m2, ho, H.ttl, H.proto, H.src, H.dst⟩ : HD) ∧ (pieceF f sz j).o = optsOf zs ∧ (pieceF f sz j).d = (f.d.drop i).take (e2 - i) ∧ Rightly (pieceF f sz j).h.off (pieceF f sz j).h.mf on (pieceF f sz j).d.length ∧ (pieceF f sz j).h.WF from by
        refine ⟨?_, HFO2.out, ?_, HFR.out j (by rw [HJ.out.1]; exact hlt), pieceF_wf HFO.out (by rw [HDL.out, HJ.out.1]; exact hlt)⟩
        · rw [← HM2.out]
          unfold pieceF
          simp only
          rw [HFH.out, HJ.out.1, HHO.out]
        · rw [z3, ← HDL.out]
          show (f.d.drop (sz * j)).take sz = (f.d.drop i).take _
          rw [HJ.out.1, ← List.length_drop, List.take_eq_take_iff]
          omega)
      have hedc : e2 ≤ dc := by omega
      have s1 := fun W => run_slice_lohi (P := Try.prog) W Try.underlying23 hi hz1 SA dn dc (i : Int) (e2 : Int) i e2 rfl rfl z1 hedc
      obtain ⟨SB, hSB⟩ : ∃ x, cutA SA dc i = x := ⟨_, rfl⟩
      have HSB := Lib.hid hSB
      rw [hSB] at s1
      obtain ⟨ml, hml⟩ : ∃ x, e2 - i = x := ⟨_, rfl⟩
      have HML := Lib.hid hml
      rw [hml] at s1
      clear hX Z2 hSB hml z3 hm3
      have XD := Lib.hid ZX.out.drew
      clear ZX
      go_upto_region 21 with fail
      refine wp_region_noPanic ?_
      refine wp_region_held_drew (S := fun W' => BLOCK W' XB 129 #[.int .u8 H.tos, .int .u16 H.id, .bool H.df, .bool m2, .int .i64 ho, .int .u8 H.ttl, .int .u8 H.proto, .int .u32 H.src, .int .u32 H.dst, .slice oA on oc]) (by kernel_rfl) (by exact XD.out.blk 0 rfl) (fun hHeld => ?_)
      generalize wc.drew = v1 at XD hHeld ⊢
      refine' take_lit (i := 0) (v := .agg (#[.int .u8 H.tos, .int .u16 H.id, .bool H.df, .bool m2, .int .i64 ho, .int .u8 H.ttl, .int .u8 H.proto, .int .u32 H.src, .int .u32 H.dst, .slice oA on oc])) rfl (by kernel_rfl) (by kernel_rfl) (by kernel_rfl) (fun _ _ _ h => h) (Or.inl ⟨by rfl, ?yy1⟩) (by assumption) ?rr1
      case yy1 => intro w' hSw; exact exec_load_row 129 _ rfl XB rfl 129 (#[.int .u8 H.tos, .int .u16 H.id, .bool H.df, .bool m2, .int .i64 ho, .int .u8 H.ttl, .int .u8 H.proto, .int .u32 H.src, .int .u32 H.dst, .slice oA on oc]) (0, 0) _ (hSw) Try.underlying129 rfl (by kernel_rfl)
      (try simp only [Act.put]); (try simp only [List.setIfInBounds_toArray, List.set_cons_zero, List.set_cons_succ])
      refine' take_lit (i := 1) (v := _) rfl (by kernel_rfl) (by kernel_rfl) (by kernel_rfl) (fun _ _ _ h => h) (Or.inl ⟨by rfl, ?yy2⟩) (by assumption) ?rr2
      case yy2 => intro w' hSw; (try dsimp only at hSw); go_simp; try (with_reducible rfl)
      (try simp only [Act.put]); (try simp only [List.setIfInBounds_toArray, List.set_cons_zero, List.set_cons_succ])
      refine' take_lit (i := 2) (v := _) rfl (by kernel_rfl) (by kernel_rfl) (by kernel_rfl) (fun _ _ _ h => h) (Or.inl ⟨by rfl, ?yy3⟩) (by assumption) ?rr3
      case yy3 => intro w' hSw; (try dsimp only at hSw); go_simp; try (with_reducible rfl)
      (try simp only [Act.put]); (try simp only [List.setIfInBounds_toArray, List.set_cons_zero, List.set_cons_succ])
      refine' take_lit (i := 3) (v := _) rfl (by kernel_rfl) (by kernel_rfl) (by kernel_rfl) (fun _ _ _ h => h) (Or.inl ⟨by rfl, ?yy4⟩) (by assumption) ?rr4
      case yy4 => intro w' hSw; (try dsimp only at hSw); go_simp; try (with_reducible rfl)
      (try simp only [Act.put]); (try simp only [List.setIfInBounds_toArray, List.set_cons_zero, List.set_cons_succ])
      refine' take_lit (i := 4) (v := _) rfl (by kernel_rfl) (by kernel_rfl) (by kernel_rfl) (fun _ _ _ h => h) (Or.inl ⟨by rfl, ?yy5⟩) (by assumption) ?rr5
      case yy5 => intro w' hSw; (try dsimp only at hSw); go_simp; try (with_reducible rfl)
      (try simp only [Act.put]); (try simp only [List.setIfInBounds_toArray, List.set_cons_zero, List.set_cons_succ])
      refine wpAnyH_ready (rs := [5]) (by kernel_rfl) (by simp) ?_
      refine cons_lit rfl (fun K hK => ?ss5x6) AllReadyH.nil
      case ss5x6 =>
        go_simp
        refine (r5Write_any ⟨H.tos, H.id, H.df, m2, ho, H.ttl, H.proto, H.src, H.dst⟩ oA on oc (optsOf zs) SB ml (dc - i) (pieceF f sz j).d v1 (by have := HPC.out.2.2.2.2; rw [HPC.out.1] at this; exact this) (XD.out.tail.tail.right.rd 1 rfl) ?bo ?rdd (by have := HPC.out.2.2.2.1.2.2.2.1; omega) (by have := HML.out; omega)).mono ?_
        case bo => rw [← HFO2.out]; exact HFO.out.op.1
        case rdd =>
          have h2 := (HRD.out v1 XD.out.tail.tail.right.tail.tail).mid (lo := i) (hi := e2) z1 z2 hdnc
          rw [HSB.out, ← HPC.out.2.2.1, HML.out] at h2
          exact h2
        rintro e v2 ⟨A9, n9, c9, rfl, ho9, hb9⟩
        have hwr : wrB ⟨H.tos, H.id, H.df, m2, ho, H.ttl, H.proto, H.src, H.dst⟩ (optsOf zs) (pieceF f sz j).d = bytesF (pieceF f sz j) := by
          have h2 := HPC.out.2.2.2.1
          have h3 : (pieceF f sz j).h = (⟨H.tos, H.id, H.df, m2, ho, H.ttl, H.proto, H.src, H.dst⟩ : HD) := HPC.out.1
          unfold wrB bytesF
          rw [← h3, HON.out, if_pos h2, HPC.out.2.1]
        rw [hwr] at ho9
        have Y1 := Lib.hid (show SP w0 v2 (.own .u8 5 A9 n9 c9 (bytesF (pieceF f sz j)) :: .blk XB 129 #[.int .u8 H.tos, .int .u16 H.id, .bool H.df, .bool m2, .int .i64 ho, .int .u8 H.ttl, .int .u8 H.proto, .int .u32 H.src, .int .u32 H.dst, .slice oA on oc] :: .row 23 1 Ag j cg (G.map gV) :: (G.map gIT ++ (.blk HB 129 #[.int .u8 H.tos, .int .u16 H.id, .bool H.df, .bool H.mf, .int .i64 H.off, .int .u8 H.ttl, .int .u8 H.proto, .int .u32 H.src, .int .u32 H.dst, .slice oA on oc] :: .own .u8 5 oA on oc (optsOf zs) :: L))) from (XD.out.pushOwn hb9 ho9).rot)
        clear ho9 hb9 XD hwr
        try simp only [Oper.upon_returned]
        refine hK.out _ _ (by exact Y1.out.blk 1 rfl) (fun hHeld => ?_)
        clear hK K
        (try simp only [Act.put]); (try simp only [List.setIfInBounds_toArray, List.set_cons_zero, List.set_cons_succ])
        refine' take_lit (i := 6) (v := _) rfl (by kernel_rfl) (by kernel_rfl) (by kernel_rfl) (fun _ _ _ h => h) (Or.inl ⟨by rfl, ?yy7⟩) (by assumption) ?rr7
        case yy7 => intro w' hSw; (try dsimp only at hSw); go_simp; try (with_reducible rfl)
        (try simp only [Act.put]); (try simp only [List.setIfInBounds_toArray, List.set_cons_zero, List.set_cons_succ])
        refine' take_lit (i := 7) (v := _) rfl (by kernel_rfl) (by kernel_rfl) (by kernel_rfl) (fun _ _ _ h => h) (Or.inl ⟨by rfl, ?yy8⟩) (by assumption) ?rr8
        case yy8 => intro w' hSw; (try dsimp only at hSw); go_simp; try (with_reducible rfl)
        (try simp only [Act.put]); (try simp only [List.setIfInBounds_toArray, List.set_cons_zero, List.set_cons_succ])
        refine' take_lit (i := 8) (v := _) rfl (by kernel_rfl) (by kernel_rfl) (by kernel_rfl) (fun _ _ _ h => h) (Or.inl ⟨by rfl, ?yy9⟩) (by assumption) ?rr9
        case yy9 => intro w' hSw; (try dsimp only at hSw); go_simp; try (with_reducible rfl)
        (try simp only [Act.put]); (try simp only [List.setIfInBounds_toArray, List.set_cons_zero, List.set_cons_succ])
        refine' take_lit (i := 9) (v := _) rfl (by kernel_rfl) (by kernel_rfl) (by kernel_rfl) (fun _ _ _ h => h) (Or.inl ⟨by rfl, ?yy10⟩) (by assumption) ?rr10
        case yy10 => intro w' hSw; (try dsimp only at hSw); go_simp; try (with_reducible rfl)
        (try simp only [Act.put]); (try simp only [List.setIfInBounds_toArray, List.set_cons_zero, List.set_cons_succ])
        refine' take_lit (i := 10) (v := _) rfl (by kernel_rfl) (by kernel_rfl) (by kernel_rfl) (fun _ _ _ h => h) (Or.inl ⟨by rfl, ?yy11⟩) (by assumption) ?rr11
        case yy11 => intro w' hSw; (try dsimp only at hSw); go_simp; try (with_reducible rfl)
        (try simp only [Act.put]); (try simp only [List.setIfInBounds_toArray, List.set_cons_zero, List.set_cons_succ])
        refine wpAnyH_done (by kernel_rfl) ?_ _
        refine NoPanic.normal ?_
        clear s1
        obtain ⟨QB, hQB⟩ : ∃ b, v2.heap.size = b := ⟨_, rfl⟩
        have Y2 := Lib.hid (show SP w0 (v2.alloc (.cells #[.slice A9 n9 c9] 23)) (.row 23 1 Ag j cg (G.map gV) :: .own .u8 5 A9 n9 c9 (bytesF (pieceF f sz j)) :: .blk XB 129 #[.int .u8 H.tos, .int .u16 H.id, .bool H.df, .bool m2, .int .i64 ho, .int .u8 H.ttl, .int .u8 H.proto, .int .u32 H.src, .int .u32 H.dst, .slice oA on oc] :: (G.map gIT ++ (.blk HB 129 #[.int .u8 H.tos, .int .u16 H.id, .bool H.df, .bool H.mf, .int .i64 H.off, .int .u8 H.ttl, .int .u8 H.proto, .int .u32 H.src, .int .u32 H.dst, .slice oA on oc] :: .own .u8 5 oA on oc (optsOf zs) :: L))) from (Y1.out.next ((Below.refl _ _).alloc (Nat.le_refl _) _)).pickT3)
        have HN1 := Lib.hid (fun (jj : Nat) (u : Value) (hu : [(.slice A9 n9 c9 : Value)][jj]? = some u) => one_new v2 23 _ jj u hu)
        rw [hQB] at HN1
        go_wp2_with (refine wpList_append_row1 _ rfl _ _ 30 rfl w0.heap.size 23 i9 _ 1 24 Try.underlying30 hi9 hy0 hy1 hy2 (by rfl) (by decide) Ag j cg (G.map gV) rfl (Y2.out.row 0 rfl) ⟨QB, 0, none⟩ 1 1 [.slice A9 n9 c9] rfl rfl HN1.out (by intro z hz; simp at hz; subst hz; rfl) (by simp only [maxLen]; omega) (by omega) Y2.out.size ?_; intro A8 c8 w8 hrow hgrow hat; have Y3 := Lib.hid (Y2.out.appRow 0 rfl hrow hgrow hat); clear hrow hgrow hat)
        go_roundw
        case rel =>
          have h9 : (sz * (j + 1)) = en := by rw [Nat.mul_add, Nat.mul_one, HJ.out.1, HEN.out]
          refine ⟨j + 1, en, A8, c8, G ++ [(⟨A9, n9, c9⟩, bytesF (pieceF f sz j))], h9, by have := HJ.out.2; omega, rfl, by go_num, by rw [List.length_append, HG.out.2.1]; rfl, ?_, ?_⟩
          · rw [List.map_append, HG.out.2.2, List.take_add_one, pieces_get (by rw [HDL.out]; exact HJ.out.2), List.map_append]
            rfl
          · have h8 : SP w0 w8 (.row 23 1 A8 (j + 1) c8 (G.map gV ++ [.slice A9 n9 c9]) :: .own .u8 5 A9 n9 c9 (bytesF (pieceF f sz j)) :: .blk XB 129 #[.int .u8 H.tos, .int .u16 H.id, .bool H.df, .bool m2, .int .i64 ho, .int .u8 H.ttl, .int .u8 H.proto, .int .u32 H.src, .int .u32 H.dst, .slice oA on oc] :: (G.map gIT ++ (.blk HB 129 #[.int .u8 H.tos, .int .u16 H.id, .bool H.df, .bool H.mf, .int .i64 H.off, .int .u8 H.ttl, .int .u8 H.proto, .int .u32 H.src, .int .u32 H.dst, .slice oA on oc] :: .own .u8 5 oA on oc (optsOf zs) :: L))) := Y3.out
            rw [List.map_append, List.map_append, List.append_assoc]
            refine (h8.sub (List.Sublist.cons_cons _ (List.Sublist.cons_cons _ (List.sublist_cons_self _ _)))).perm (List.Perm.cons _ ?_)
            exact List.perm_middle.symm
        case measure => simp [intOf]; omega
    · have t1 : ¬ (i : Int) < (dn : Int) := by omega
      have hjc : j = cnt dn sz := by
        have h2 : ¬ j < cnt dn sz := fun h => by have := (lt_cnt (n := dn) (k := j) (size := sz) (by omega)).1 h; omega
        omega
      have HJ := Lib.hid hjc
      clear hjc
      go_wp2_with fail
      go_ret2
      have hsp : splitA zs (sz : Int) = ((pieces f sz).map bytesF, 0) := by
        unfold splitA
        rw [if_neg (by rw [HOK.out]; simp), if_neg (by simp [HF.out]), HFF.out, if_neg (by rw [HDL.out]; have := HLE.out; omega), HDF.out, if_neg (by simp), Int.toNat_natCast]
      show SPLITD w0 L zs (sz : Int) (.returned (.tuple #[.slice Ag j cg, .int .i64 0])) wr
      refine ⟨Ag, cg, G, by rw [HG.out.2.1, hsp], ?_, ?_⟩
      · rw [hsp, HG.out.2.2, List.take_of_length_le]
        unfold pieces
        rw [List.length_map, List.length_range, HDL.out, HJ.out]
        exact Nat.le_refl _
      · have h2 := Y.out
        rw [← HG.out.2.1] at h2
        refine h2.sub (List.Sublist.cons_cons _ (List.Sublist.append_left ?_ _))
        exact List.Sublist.cons _ (List.sublist_cons_self _ _)
end Go.Proofs.Ytljbfnabnkkfeaa
