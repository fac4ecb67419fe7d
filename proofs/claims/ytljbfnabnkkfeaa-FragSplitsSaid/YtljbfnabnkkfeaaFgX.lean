/- Merged by program: FgX1, FgX2, FgX3. -/
import Derived.Test.YtljbfnabnkkfeaaFgS
import Derived.Test.YtljbfnabnkkfeaaWMade5h
import Derived.Test.YtljbfnabnkkfeaaLIpBack
import Derived.Test.YtljbfnabnkkfeaaWFull
import Derived.Test.YtljbfnabnkkfeaaWCopy

/- bafflelaw07: Example, size, Made. -/
namespace Go.Proofs.Ytljbfnabnkkfeaa
open Go.RowKit
set_option linter.unusedVariables false
set_option linter.unusedSimpArgs false

set_option maxHeartbeats 1000000 in
set_option maxRecDepth 100000 in
theorem size7_any (n : Int) (hn : 0 ≤ n ∧ n ≤ 255) (w : World) : Calls Try.prog 24 #[.int .u8 n] w fun e w' => e = .returned (.int .i64 (8 * (1 + n % 4))) ∧ w' = w := by
  have e1 : n.tmod 4 = n % 4 := Int.tmod_eq_emod_of_nonneg (by omega)
  have e2 : IntKind.u8.wrap (n % 4) = n % 4 := u8_in _ (by omega) (by omega)
  have e3 : IntKind.i64.wrap (1 + n % 4) = 1 + n % 4 := IntWalk.i64_in _ (by omega)
  have e4 : IntKind.i64.wrap (8 * (1 + n % 4)) = 8 * (1 + n % 4) := IntWalk.i64_in _ (by omega)
  have e5 : IntKind.i64.wrap (n % 4) = n % 4 := IntWalk.i64_in _ (by omega)
  go_enter Try.func24, Try.ntmps24
  go_wp2_with fail
  go_ret
  exact ⟨rfl, rfl⟩

/-- the packet of the examples -/
def EX7h : HD := ⟨0, 9, false, false, 0, 64, 17, 167772161, 167772162⟩
def EX7d : List Int := [0, 1, 2, 3, 4, 5, 6, 7, 8, 9, 10, 11, 12, 13, 14, 15, 16, 17, 18, 19]
def EX7 : List Int := pktB EX7h [] EX7d
theorem ex7_wf : EX7h.WF := ⟨by simp [EX7h], by simp [EX7h], by simp [EX7h], by simp [EX7h], by simp [EX7h], by simp [EX7h], by simp [EX7h]⟩
set_option maxHeartbeats 1000000 in
set_option maxRecDepth 100000 in
theorem ex7_any (w : World) : Calls Try.prog 30 #[] w (Fresh w EX7) := by
  go_enter Try.func30, Try.ntmps30
  go_wp2_with fail
  have hw := write_any EX7h none 0 0 [] (some ⟨w.heap.size, 0, none⟩) 20 20 EX7d (w.alloc (.cells (EX7d.map (Value.int .u8)).toArray 5)) ex7_wf RD.nil (fun x hx => by cases hx) (RD.new w .u8 5 EX7d) (by omega) (by omega)
  refine hw.mono ?_
  rintro e w1 ⟨A, n, c, rfl, ho, hb⟩
  have e1 : wrB EX7h [] EX7d = EX7 := by unfold wrB; rw [if_pos (by decide)]; rfl
  rw [e1] at ho
  go_wp2_with fail
  go_ret
  exact ⟨A, n, c, rfl, ho.mono (by simp), ((Below.refl _ w).alloc (Nat.le_refl _) _).trans (hb.mono (by simp))⟩

/-- what Made gives: a whole packet that may be split -/
structure MPKT (h : HD) (o d : List Int) : Prop where
  wf : h.WF
  mf : h.mf = false
  df : h.df = false
  off : h.off = 0
  right : Rightly h.off h.mf o.length d.length
  op : BD 255 o
  bd : BD 255 d
  len : 16 ≤ d.length ∧ d.length ≤ 96
def MADE7 (h : HD) (w : World) (e : Ending) (w' : World) : Prop :=
  ∃ (o d : List Int) (A : Option Addr) (n c : Nat), e = .returned (.slice A n c) ∧ MPKT h o d ∧ OWN .u8 5 w' w.heap.size A n c (pktB h o d) ∧ Below w.heap.size w w'
def LIT16 : List Int := [1, 2, 3, 4, 5, 6, 7, 8, 9, 10, 11, 12, 13, 14, 15, 16]
set_option maxHeartbeats 4000000 in
set_option maxRecDepth 100000 in
theorem made7_any (h0 h1 h2 h3 h4 h5 h6 h7 h8 h9 h10 h11 words far many : Int) (df mf : Bool) (A : Option Addr) (n c : Nat) (zs : List Int) (w : World) (hb : BD 255 [h0, h1, h2, h3, h4, h5, h6, h7, h8, h9, h10, h11]) (hw : 0 ≤ words ∧ words ≤ 255) (hf : 0 ≤ far ∧ far ≤ 255) (hm : 0 ≤ many ∧ many ≤ 255)
    (h : RD .u8 w w.heap.size A n zs) (hz : BD 255 zs) (hn : n ≤ c) (hc : c ≤ maxLen) :
    Calls Try.prog 12 #[.agg (sm18 h0 h1 h2 h3 h4 h5 h6 h7 h8 h9 h10 h11 words far many df mf (.slice A n c))] w (MADE7 (HDM h0 h1 h2 h3 h4 h5 h6 h7 h8 h9 h10 false false 0) w) := by
  obtain ⟨i0, hi, hz0, hz1, hz2⟩ := info_parts infoU8
  have X0 := Lib.hid (SP.start w)
  have H5 := Lib.hid (fun W (hW : Below w.heap.size w W) => made5h_any h0 h1 h2 h3 h4 h5 h6 h7 h8 h9 h10 h11 words 0 many false false A n c zs W hb hw (by omega) hm (h.later hW) hz hn hc)
  obtain ⟨SB, hSB⟩ : ∃ b, b = w.heap.size := ⟨_, rfl⟩
  have X1 := Lib.hid (X0.out.alloc' (N := SB) 25 (sm18 h0 h1 h2 h3 h4 h5 h6 h7 h8 h9 h10 h11 words 0 many false false (.slice A n c)) hSB.symm)
  clear hb hw hf hm h hz X0
  unfold sm18 at X1 H5 ⊢
  go_enter Try.func12, Try.ntmps12
  go_upto_region 2 with fail
  rw [← hSB]
  generalize hw1 : w.alloc (.cells #[.int .u8 h0, .int .u8 h1, .int .u8 h2, .int .u8 h3, .int .u8 h4, .int .u8 h5, .int .u8 h6, .int .u8 h7, .int .u8 h8, .int .u8 h9, .int .u8 h10, .int .u8 h11, .int .u8 words, .int .u8 0, .int .u8 many, .bool false, .bool false, .slice A n c] 25) = w1 at X1 ⊢
  clear hw1 hSB
  have HK := Lib.hid (X1.out.blk 0 rfl)
  go_wp2_with (refine wpList_load_row rfl 25 _ rfl SB rfl 25 #[.int .u8 h0, .int .u8 h1, .int .u8 h2, .int .u8 h3, .int .u8 h4, .int .u8 h5, .int .u8 h6, .int .u8 h7, .int .u8 h8, .int .u8 h9, .int .u8 h10, .int .u8 h11, .int .u8 words, .int .u8 0, .int .u8 many, .bool false, .bool false, .slice A n c] (0, 0) _ HK.out Try.underlying25 rfl (by kernel_rfl) ?_)
  refine (H5.out w1 X1.out.bel).mono ?_
  rintro e w2 ⟨H, Ao, on, oc, o, Ad, dn, dc, d, rfl, ⟨off, hH, hoff⟩, hsep, hwf, hr, ho, hbo, hd, hbd, hdn, hb2⟩
  obtain rfl := hoff rfl
  have hsz := X1.out.size
  have X2 := Lib.hid (show SP w w2 [.own .u8 5 Ao on oc o, .own .u8 5 Ad dn dc d] from SP.mk' (X1.out.bel.trans (hb2.mono hsz)) (fun x hx => by
    simp at hx
    rcases hx with rfl | rfl
    · exact ho.mono hsz
    · exact hd.mono hsz) (List.pairwise_cons.2 ⟨fun y hy g h1 => by simp at hy; subst hy; exact hsep g h1, List.pairwise_singleton _ _⟩))
  have HH := Lib.hid hH
  have HQ := Lib.hid (And.intro hwf (And.intro hr (And.intro hbo hbd)))
  have hon := ho.len
  have hdl := hd.len
  have hol : on ≤ 40 := hr.2.2.2.1
  clear hH hoff hsep hwf hr ho hbo hd hbd hb2 hsz X1 HK H5
  unfold HD.val HD.cells
  obtain ⟨HB, hHB⟩ : ∃ b, b = w2.heap.size := ⟨_, rfl⟩
  have X3 := Lib.hid (X2.out.alloc' 49 #[.int .u8 H.tos, .int .u16 H.id, .bool H.df, .bool H.mf, .int .i64 H.off, .int .u8 H.ttl, .int .u8 H.proto, .int .u32 H.src, .int .u32 H.dst, .slice Ao on oc] hHB.symm)
  clear X2
  go_upto_region 3 with fail
  rw [← hHB]
  generalize hw3 : w2.alloc (.cells #[.int .u8 H.tos, .int .u16 H.id, .bool H.df, .bool H.mf, .int .i64 H.off, .int .u8 H.ttl, .int .u8 H.proto, .int .u32 H.src, .int .u32 H.dst, .slice Ao on oc] 49) = w3 at X3 ⊢
  clear hw3 hHB
  have X4 := Lib.hid (X3.out.next ((Below.refl _ w3).alloc (Nat.le_refl _) (.cells (LIT16.map (Value.int .u8)).toArray 5)))
  go_upto_region 4 with (at_builtin; refine wpList_append_rd _ rfl _ _ _ rfl .u8 w.heap.size 5 i0 1 Try.underlying23 hi hz0 hz1 hz2 Ad dn dc d rfl (X4.out.own 1 rfl) _ (some ⟨w3.heap.size, 0, none⟩) 16 16 LIT16 rfl (RD.new w3 .u8 5 LIT16) (by simp only [maxLen]; omega) (by omega) X4.out.size ?_; intro A5 c5 w5 happ; have X5 := Lib.hid (X4.out.app 1 rfl happ); clear happ X4)
  have HK := Lib.hid (X5.out.blk 2 rfl)
  obtain ⟨hwf, hr, hbo, hbd⟩ := HQ.out
  have hl16 : LIT16.length = 16 := rfl
  have h16 : BD 255 LIT16 := bd_all (by decide)
  have hdf : H.df = false := by rw [HH.out]; rfl
  have hmf : H.mf = false := by rw [HH.out]; rfl
  have hof : H.off = 0 := by rw [HH.out]; rfl
  have hr2 : Rightly H.off H.mf on ((d ++ LIT16).length) := by
    obtain ⟨r1, r2, r3, r4, r5, r6, r7, r8, r9⟩ := hr
    rw [List.length_append, hl16]
    rw [hof, hmf]
    exact ⟨by omega, by omega, by omega, by omega, by omega, by omega, by omega, by omega, fun h => by cases h⟩
  have hlen : (d ++ LIT16).length = dn + 16 := by rw [List.length_append, hl16, hdl]
  have HM := Lib.hid (show MPKT H o (d ++ LIT16) from ⟨hwf, hmf, hdf, hof, by rw [hon]; exact hr2, hbo, hbd.append h16, by rw [hlen]; omega⟩)
  have HR2 := Lib.hid hr2
  have hwr := write_any H Ao on oc o A5 (dn + 16) c5 (d ++ LIT16) w5 hwf (X5.out.rd 0 rfl) hbo (X5.out.rd 1 rfl) (by omega) (by omega)
  have HWR := Lib.hid hwr
  unfold HD.val HD.cells at HWR
  clear hwr hwf hr hbo hbd hr2 hdf hmf hof h16
  go_wp2_with (refine wpList_load_row rfl 49 _ rfl HB rfl 49 #[.int .u8 H.tos, .int .u16 H.id, .bool H.df, .bool H.mf, .int .i64 H.off, .int .u8 H.ttl, .int .u8 H.proto, .int .u32 H.src, .int .u32 H.dst, .slice Ao on oc] (0, 0) _ HK.out Try.underlying49 rfl (by kernel_rfl) ?_)
  refine HWR.out.mono ?_
  rintro e w6 ⟨A6, n6, c6, rfl, ho6, hb6⟩
  have eB : wrB H o (d ++ LIT16) = pktB H o (d ++ LIT16) := by unfold wrB; rw [hon, if_pos HR2.out]
  rw [eB] at ho6
  have HO6 := Lib.hid (And.intro ho6 hb6)
  clear ho6 hb6 eB
  go_wp2_with fail
  go_ret
  exact ⟨o, d ++ LIT16, A6, n6, c6, rfl, by rw [← HH.out]; exact HM.out, by rw [← HH.out]; exact HO6.out.1.mono X5.out.size, X5.out.bel.trans (HO6.out.2.mono X5.out.size)⟩
end Go.Proofs.Ytljbfnabnkkfeaa

/- bafflelaw07.shuffled: an order of the numbers below n. (Printed by gen_fgx2.py.) -/
namespace Go.Proofs.Ytljbfnabnkkfeaa
open Go.RowKit
set_option linter.unusedVariables false
set_option linter.unusedSimpArgs false

/-- append where there is no room: a new array, of the call's own -/
theorem run_append_fresh {P : Program} (w : World) (base : Nat) (k : IntKind) (t ty e : TypeId) (i : TypeInfo) (bytes : Nat) (ht : P.underlying t = some (.slice e)) (hi : P.info? e = some i) (hz : i.zero = some (.int k 0)) (hsize : i.size = 1) (hby : i.bytes = bytes)
    (A : Option Addr) (n : Nat) (xs : List Int) (B1 : Nat) (h1 : RD k w B1 A n xs) (B : Nat) (A2 : Option Addr) (m c2 : Nat) (ys : List Int) (hr : RD k w B A2 m ys) (hm : 0 < m)
    (h63 : n + m ≤ maxLen) (hbytes : (n + m) * bytes ≤ 140737488355328) (hbase : base ≤ w.heap.size) :
    ∃ A' c' w', (Builtin.append_ #[t, t] ty #[.slice A n n, .slice A2 m c2]).run P w = .ok (.slice A' (n + m) c') w' ∧ OWN k e w' base A' (n + m) c' (xs ++ ys) ∧ Below w.heap.size w w' := by
  have hl1 := h1.1
  have hl2 := hr.1
  obtain ⟨b2, o2, rfl, hb2, hc2⟩ := hr.2 hm
  have hnews : ∀ j u, (ys.map (Value.int k))[j]? = some u → w.cell? ((⟨b2, o2, none⟩ : Addr).add j) = some u := by
    intro j u hu
    have hj : j < m := by
      have := (List.getElem?_eq_some_iff.1 hu).1
      simp at this; omega
    have hadd : (⟨b2, o2, none⟩ : Addr).add j = ⟨b2, o2 + j, none⟩ := by unfold Addr.add; split <;> simp_all
    rw [hadd, hc2 j hj, ← hu]
    simp [hl2, hj]
  have hln : (ys.map (Value.int k)).length = m * i.size := by rw [hsize]; simp; omega
  have new : ∀ (C : Array Value) (cap : Nat), n + m ≤ cap → cap ≤ maxLen → C.size = cap → C.toList.take (n + m) = (xs ++ ys).map (Value.int k) → OWN k e (w.drew.alloc (.cells C e)) base (some ⟨w.heap.size, 0, none⟩) (n + m) cap (xs ++ ys) := fun C cap q1 q2 q3 q4 =>
    OWN.of_block (heap_alloc_new w.drew _) q3 q4 q1 q2 hbase
  have hle : ∀ C : Array Value, Below w.heap.size w (w.drew.alloc (.cells C e)) := fun C => (Below.refl _ w).drew.alloc (Nat.le_refl _) _
  have szc : ∀ q, (Builtin.zeroCells (Value.int k 0).cells q).size = q := fun q => by rw [size_zeroCells]; show q * 1 = q; omega
  rcases A with _ | a
  · have hn : n = 0 := by
      rcases Nat.eq_zero_or_pos n with h | h
      · exact h
      · obtain ⟨b, off, h2, _⟩ := h1.2 h
        cases h2
    subst hn
    have hx : xs = [] := List.length_eq_zero_iff.1 hl1
    subst hx
    have hrn := run_append_nil (P := P) w t ty e i (.int k 0) ht hi hz ⟨b2, o2, none⟩ m c2 (ys.map (Value.int k)) hln hnews hm (by simp only [maxLen] at h63; omega) (by rw [hby]; rw [Nat.zero_add] at hbytes; omega)
    rw [Nat.zero_add]
    rw [Nat.zero_add] at new h63
    refine ⟨_, _, _, hrn, new _ _ (grownCap_ge _ _ _ _) (grownCap_le_maxLen _ _ _ _ h63) ?_ ?_, hle _⟩
    · have := grownCap_ge w m 0 e
      simp only [Array.size_append, szc]; simp; omega
    · simp [hl2, List.take_append]
  · have holds : ∀ j v, (xs.map (Value.int k))[j]? = some v → w.cell? (a.add j) = some v := by
      intro j u hu
      have hj : j < n := by
        have := (List.getElem?_eq_some_iff.1 hu).1
        simp at this; omega
      obtain ⟨b1, o1, e1, hb1, hc1⟩ := h1.2 (by omega)
      simp at e1
      subst e1
      have hadd : (⟨b1, o1, none⟩ : Addr).add j = ⟨b1, o1 + j, none⟩ := by unfold Addr.add; split <;> simp_all
      rw [hadd, hc1 j hj, ← hu]
      simp [hl1, hj]
    have hlo : (xs.map (Value.int k)).length = n * i.size := by rw [hsize]; simp; omega
    have hrg := run_append_grow (P := P) w t ty e i (.int k 0) ht hi hz a n n (xs.map (Value.int k)) hlo holds ⟨b2, o2, none⟩ m c2 (ys.map (Value.int k)) hln hnews (by omega) (by simp only [maxLen] at h63; omega) (growslice_fits (by omega) (by rw [hby]; exact hbytes))
    refine ⟨_, _, _, hrg, new _ _ (grownCap_ge _ _ _ _) (grownCap_le_maxLen _ _ _ _ h63) ?_ ?_, hle _⟩
    · have := grownCap_ge w (n + m) n e
      simp only [Array.size_append, szc]; simp; omega
    · simp only [Array.toList_append, List.append_assoc]
      rw [← List.append_assoc, ← List.map_append]
      exact List.take_left' (by simp; omega)
theorem step_append_fresh {P : Program} (w : World) {ops : Array Oper} {o : Oper} {a : Act} {K : Act → World → Prop} {Q : Exit → Act → World → Prop} {E : Prop} (hgd : o.guard = none) (s x : Operand) (t : TypeId)
    (ho : o.op = .call { callee := .builtin .append, args := #[s, x], argTypes := #[t, t] })
    (base : Nat) (k : IntKind) (e : TypeId) (i : TypeInfo) (bytes : Nat) (ht : P.underlying t = some (.slice e)) (hi : P.info? e = some i) (hz : i.zero = some (.int k 0)) (hsize : i.size = 1) (hby : i.bytes = bytes)
    (A : Option Addr) (n : Nat) (xs : List Int) (hs : a.eval s = .slice A n n) (B1 : Nat) (h1 : RD k w B1 A n xs) (B : Nat) (A2 : Option Addr) (m c2 : Nat) (ys : List Int) (hx : a.eval x = .slice A2 m c2) (hr : RD k w B A2 m ys) (hm : 0 < m)
    (h63 : n + m ≤ maxLen) (hbytes : (n + m) * bytes ≤ 140737488355328) (hbase : base ≤ w.heap.size)
    (h : ∀ A' c' w', OWN k e w' base A' (n + m) c' (xs ++ ys) → Below w.heap.size w w' → K (a.put o.dst (.slice A' (n + m) c')) w') :
    if Region.wanted o (yielded ops a.tmps) = true then Oper.wp P o a w K Q else E := by
  have hw : Region.wanted o (yielded ops a.tmps) = true := by simp [Region.wanted, hgd]
  rw [if_pos hw]
  obtain ⟨A', c', w', hrun, h2, h3⟩ := run_append_fresh (P := P) w base k t o.type e i bytes ht hi hz hsize hby A n xs B1 h1 B A2 m c2 ys hr hm h63 hbytes hbase
  unfold Oper.wp execOp
  simp only [ho, resolve, invoke, builtin, Sem.run_bind, Sem.run_pure, Result.andThen_ok, List.map_toArray, List.map_cons, List.map_nil, hs, hx, hrun]
  exact h A' c' w' h2 h3
theorem insert_perm (σ : List Nat) (k at_ : Nat) (h : σ.Perm (List.range k)) : (σ.take at_ ++ (k :: σ.drop at_)).Perm (List.range (k + 1)) := by
  rw [List.range_succ]
  refine List.perm_middle.trans ?_
  rw [List.take_append_drop]
  exact (h.cons k).trans (List.perm_append_singleton k _).symm
def SHUF (n : Nat) (w : World) (e : Ending) (w' : World) : Prop :=
  ∃ (A : Option Addr) (c : Nat) (σ : List Nat), e = .returned (.slice A n c) ∧ σ.Perm (List.range n) ∧ OWN .i64 3 w' w.heap.size A n c (σ.map (fun (i : Nat) => (i : Int))) ∧ Below w.heap.size w w'
set_option maxHeartbeats 1000000 in
set_option maxRecDepth 100000 in
theorem shuf_any (n : Nat) (hn : n ≤ 100000) (A : Option Addr) (m c : Nat) (zs : List Int) (w : World) (h : RD .u8 w w.heap.size A m zs) (hz : BD 255 zs) (hm : m ≤ 9223372036854775807) :
    Calls Try.prog 27 #[.int .i64 (n : Int), .slice A m c] w (SHUF n w) := by
  obtain ⟨i0, hi, hz0, hz1, hz2⟩ := info_parts (show (Try.prog.info? 3).map (fun i => (i.zero, i.size, i.bytes)) = some (some (.int .i64 0), 1, 8) by kernel_rfl)
  have HR := Lib.hid h
  have HZ := Lib.hid hz
  clear h hz
  go_enter Try.func27, Try.ntmps27
  go_upto_region 3 with fail
  go_loopw [5, 9] (fun s5 s9 wr => ∃ (k : Nat) (B : Option Addr) (cb : Nat) (σ : List Nat), k ≤ n ∧ s5 = .slice B k cb ∧ s9 = .int .i64 (k : Int) ∧ σ.Perm (List.range k) ∧ OWN .i64 3 wr w.heap.size B k cb (σ.map (fun (i : Nat) => (i : Int))) ∧ Below w.heap.size w wr) (fun _ s9 _ => n - (intOf s9).toNat)
  case atStart => exact ⟨0, none, 0, [], by omega, rfl, rfl, List.Perm.refl _, OWN.nil, Below.refl _ _⟩
  case round =>
    obtain ⟨k, B, cb, σ, hk, rfl, rfl, hσ, hown, hbel⟩ := hrel
    have hkc := hown.le.1
    have HOWN := Lib.hid hown
    have hrd := hown.rd
    have HS := Lib.hid hσ
    have HRD := Lib.hid hrd
    have HB := Lib.hid hbel
    clear hσ hrd hbel hown
    by_cases hlt : k < n
    · have t1 : (k : Int) < (n : Int) := by omega
      obtain ⟨v0, rfl⟩ : ∃ v0 : World, v0 = wr := ⟨_, rfl⟩
      go_upto_if 14 with fail
      go_cut [7] (fun s7 wx => ∃ at_ : Nat, s7 = .int .i64 (at_ : Int) ∧ at_ ≤ k ∧ wx = v0)
      case first =>
        by_cases h0 : m = 0
        · subst h0
          have t2 : ¬ (0 : Int) < ((0 : Nat) : Int) := by omega
          go_wp2_with fail
          go_meet
          exact ⟨0, rfl, by omega, rfl⟩
        · have t2 : (0 : Int) < (m : Int) := by omega
          obtain ⟨q, hq⟩ : ∃ q, k % m = q := ⟨_, rfl⟩
          have hqm : q < m := by rw [← hq]; exact Nat.mod_lt _ (by omega)
          have e1 : (k : Int).tmod (m : Int) = (q : Int) := by rw [Int.tmod_eq_emod_of_nonneg (by omega), ← hq]; rfl
          obtain ⟨b, off, rfl, hb, hc⟩ := ((HR.out.below HB.out).more HB.out.size).2 (by omega)
          have x1 := hc q hqm
          obtain ⟨z, hz⟩ : ∃ z, zs[q]?.getD 0 = z := ⟨_, rfl⟩
          obtain ⟨z0, z1⟩ := HZ.out.get (by omega) q
          rw [hz] at x1 z0 z1
          have e2 : z.tmod ((k : Int) + 1) = z % ((k : Int) + 1) := Int.tmod_eq_emod_of_nonneg z0
          have e3 : 0 ≤ z % ((k : Int) + 1) := Int.emod_nonneg _ (by omega)
          have e4 : z % ((k : Int) + 1) < (k : Int) + 1 := Int.emod_lt_of_pos _ (by omega)
          obtain ⟨at_, hat⟩ : ∃ at_ : Nat, z % ((k : Int) + 1) = (at_ : Int) := ⟨(z % ((k : Int) + 1)).toNat, by omega⟩
          have e5 : IntKind.i64.wrap ((k : Int) + 1) = (k : Int) + 1 := IntWalk.i64_in _ (by omega)
          have e6 : IntKind.i64.wrap z = z := IntWalk.i64_in _ (by omega)
          have e7 : IntKind.i64.wrap (at_ : Int) = (at_ : Int) := IntWalk.i64_in _ (by omega)
          have e8 : IntKind.i64.wrap (q : Int) = (q : Int) := IntWalk.i64_in _ (by omega)
          have t3 : (0 : Int) ≤ (q : Int) := by omega
          have t4 : (q : Int) < (m : Int) := by omega
          have c1 : ((k : Int) + 1 == 0) = false := by simp; omega
          have c2 : ((m : Int) == 0) = false := by simp; omega
          have HAT := Lib.hid (show at_ ≤ k by omega)
          have e9 : z.tmod ((k : Int) + 1) = (at_ : Int) := by rw [e2]; exact hat
          clear hq hc hz e3 e4 e2 hat
          go_wp2_with fail
          go_meet
          exact ⟨at_, rfl, HAT.out, rfl⟩
      case rest =>
      obtain ⟨at_, rfl, hat, hwc⟩ := hcut
      obtain ⟨v1, rfl⟩ : ∃ v1 : World, v1 = wc := ⟨_, rfl⟩
      have HWC := Lib.hid hwc
      clear hwc
      have hkl := HS.out.length_eq
      rw [List.length_range] at hkl
      have a1 : at_ ≤ cb := by omega
      have a2 : (at_ : Int) ≤ (cb : Int) := by omega
      have a3 : (at_ : Int) ≤ (k : Int) := by omega
      have a4 : (0 : Int) ≤ (at_ : Int) := by omega
      obtain ⟨SA, hSA⟩ : ∃ SA, (if cb = at_ then B else Option.map (fun x => x.add at_) B) = SA := ⟨_, rfl⟩
      have HSA := Lib.hid (show cutA B cb at_ = SA from hSA)
      have HR1 := Lib.hid (show RD .i64 v1 v1.heap.size B k (σ.map (fun (i : Nat) => (i : Int))) ∧ Below w.heap.size w v1 by rw [HWC.out]; exact ⟨HRD.out, HB.out⟩)
      clear HRD HB HOWN
      go_upto_region 8 with fail
      refine wp_region_noPanic ?_
      refine wp_region_held_drew (S := fun _ => True) (by kernel_rfl) (by trivial) (fun hHeld => ?_)
      have HR2 := Lib.hid (show RD .i64 v1.drew v1.drew.heap.size B k (σ.map (fun (i : Nat) => (i : Int))) ∧ Below w.heap.size w v1.drew from ⟨HR1.out.1, HR1.out.2.drew⟩)
      generalize v1.drew = v2 at HR2 hHeld ⊢
      refine' take_lit (i := 0) (v := _) rfl (by kernel_rfl) (by kernel_rfl) (by kernel_rfl) (fun _ _ _ h => h) (Or.inl ⟨by rfl, ?yy1⟩) (by assumption) ?rr1
      case yy1 => intro w' hSw; (try dsimp only at hSw); go_simp; try (with_reducible rfl)
      (try simp only [Act.put]); (try simp only [List.setIfInBounds_toArray, List.set_cons_zero, List.set_cons_succ])
      refine' take_lit (i := 1) (v := _) rfl (by kernel_rfl) (by kernel_rfl) (by kernel_rfl) (fun _ _ _ h => h) (Or.inl ⟨by rfl, ?yy2⟩) (by assumption) ?rr2
      case yy2 => intro w' hSw; (try dsimp only at hSw); go_simp; try (with_reducible rfl)
      (try simp only [Act.put]); (try simp only [List.setIfInBounds_toArray, List.set_cons_zero, List.set_cons_succ])
      refine' take_lit (i := 2) (v := _) rfl (by kernel_rfl) (by kernel_rfl) (by kernel_rfl) (fun _ _ _ h => h) (Or.inl ⟨by rfl, ?yy3⟩) (by assumption) ?rr3
      case yy3 => intro w' hSw; (try dsimp only at hSw); go_simp; try (with_reducible rfl)
      (try simp only [Act.put]); (try simp only [List.setIfInBounds_toArray, List.set_cons_zero, List.set_cons_succ])
      refine' take_lit (i := 3) (v := _) rfl (by kernel_rfl) (by kernel_rfl) (by kernel_rfl) (fun _ _ _ h => h) (Or.inl ⟨by rfl, ?yy4⟩) (by assumption) ?rr4
      case yy4 => intro w' hSw; (try dsimp only at hSw); go_simp; try (with_reducible rfl)
      (try simp only [Act.put]); (try simp only [List.setIfInBounds_toArray, List.set_cons_zero, List.set_cons_succ])
      refine' take_lit (i := 4) (v := _) rfl (by kernel_rfl) (by kernel_rfl) (by kernel_rfl) (fun _ _ _ h => h) (Or.inl ⟨by rfl, ?yy5⟩) (by assumption) ?rr5
      case yy5 => intro w' hSw; (try dsimp only at hSw); go_simp; try (with_reducible rfl)
      (try simp only [Act.put]); (try simp only [List.setIfInBounds_toArray, List.set_cons_zero, List.set_cons_succ])
      refine' take_lit (i := 6) (v := _) rfl (by kernel_rfl) (by kernel_rfl) (by kernel_rfl) (fun _ _ _ h => h) (Or.inl ⟨by rfl, ?yy6⟩) (by assumption) ?rr6
      case yy6 => intro w' hSw; (try dsimp only at hSw); go_simp; try (with_reducible rfl)
      (try simp only [Act.put]); (try simp only [List.setIfInBounds_toArray, List.set_cons_zero, List.set_cons_succ])
      refine' take_lit (i := 7) (v := _) rfl (by kernel_rfl) (by kernel_rfl) (by kernel_rfl) (fun _ _ _ h => h) (Or.inl ⟨by rfl, ?yy7⟩) (by assumption) ?rr7
      case yy7 => intro w' hSw; (try dsimp only at hSw); go_simp; try (with_reducible rfl)
      (try simp only [Act.put]); (try simp only [List.setIfInBounds_toArray, List.set_cons_zero, List.set_cons_succ])
      refine' take_lit (i := 8) (v := _) rfl (by kernel_rfl) (by kernel_rfl) (by kernel_rfl) (fun _ _ _ h => h) (Or.inl ⟨by rfl, ?yy8⟩) (by assumption) ?rr8
      case yy8 => intro w' hSw; (try dsimp only at hSw); go_simp; try (with_reducible rfl)
      (try simp only [Act.put]); (try simp only [List.setIfInBounds_toArray, List.set_cons_zero, List.set_cons_succ])
      refine wpAnyH_ready (rs := [5]) (by kernel_rfl) (by simp) ?_
      refine cons_lit rfl (fun K hK => ?ss5x9) AllReadyH.nil
      case ss5x9 =>
        go_simp
        refine nameK (fun v3 hv3 => ?_)
        have HR3 := Lib.hid (show RD .i64 v3 v3.heap.size B k (σ.map (fun (i : Nat) => (i : Int))) ∧ Below w.heap.size w v3 ∧ RD .i64 v3 v3.heap.size (some ⟨v2.heap.size, 0, none⟩) 1 [(k : Int)] by
          rw [hv3]
          exact ⟨(HR2.out.1.alloc (Nat.le_refl _) _).more (by simp), HR2.out.2.alloc HR2.out.2.size _, RD.new v2 .i64 3 [(k : Int)]⟩)
        clear hv3
        refine hK.out _ _ (by trivial) (fun hHeld => ?_)
        clear hK K
        (try simp only [Act.put]); (try simp only [List.setIfInBounds_toArray, List.set_cons_zero, List.set_cons_succ])
        refine wpAnyH_ready (rs := [9]) (by kernel_rfl) (by simp) ?_
        refine cons_lit rfl (fun K hK => ?ss9x10) AllReadyH.nil
        case ss9x10 =>
          refine step_append_full _ (by rfl) _ _ 29 (by rfl) .i64 3 i0 8 Try.underlying29 hi hz0 hz1 hz2 (some ⟨v2.heap.size, 0, none⟩) 1 [(k : Int)] (by rfl) _ HR3.out.2.2 _ SA (k - at_) (cb - at_) ((σ.map (fun (i : Nat) => (i : Int))).drop at_) (by rfl) (by rw [← HSA.out]; exact HR3.out.1.cutA hat hkc) (by simp only [maxLen]; omega) (by omega) (Nat.le_refl _) ?_
          intro A4 c4 v4 hr4 hc4 hc4' hb4
          have HR4 := Lib.hid (show RD .i64 v4 v4.heap.size B k (σ.map (fun (i : Nat) => (i : Int))) ∧ Below w.heap.size w v4 ∧ RD .i64 v4 v4.heap.size A4 (1 + (k - at_)) ([(k : Int)] ++ (σ.map (fun (i : Nat) => (i : Int))).drop at_) from ⟨(HR3.out.1.below hb4).more hb4.size, HR3.out.2.1.trans (hb4.mono HR3.out.2.1.size), hr4⟩)
          clear hr4 hc4 hc4' hb4
          refine hK.out _ _ (by trivial) (fun hHeld => ?_)
          clear hK K
          (try simp only [Act.put]); (try simp only [List.setIfInBounds_toArray, List.set_cons_zero, List.set_cons_succ])
          refine wpAnyH_ready (rs := [10]) (by kernel_rfl) (by simp) ?_
          refine cons_lit rfl (fun K hK => ?ss10x11) AllReadyH.nil
          case ss10x11 =>
            refine step_append_fresh _ (by rfl) _ _ 29 (by rfl) w.heap.size .i64 3 i0 8 Try.underlying29 hi hz0 hz1 hz2 B at_ ((σ.map (fun (i : Nat) => (i : Int))).take at_) (by rfl) _ (HR4.out.1.take hat) _ A4 (1 + (k - at_)) c4 _ (by rfl) HR4.out.2.2 (by omega) (by simp only [maxLen]; omega) (by omega) HR4.out.2.1.size ?_
            intro A5 c5 v5 hr5 hb5
            have HR5 := Lib.hid (show Below w.heap.size w v5 ∧ OWN .i64 3 v5 w.heap.size A5 (at_ + (1 + (k - at_))) c5 ((σ.map (fun (i : Nat) => (i : Int))).take at_ ++ ([(k : Int)] ++ (σ.map (fun (i : Nat) => (i : Int))).drop at_)) from ⟨HR4.out.2.1.trans (hb5.mono HR4.out.2.1.size), hr5⟩)
            clear hr5 hb5
            refine hK.out _ _ (by trivial) (fun hHeld => ?_)
            clear hK K
            (try simp only [Act.put]); (try simp only [List.setIfInBounds_toArray, List.set_cons_zero, List.set_cons_succ])
            refine' take_lit (i := 11) (v := _) rfl (by kernel_rfl) (by kernel_rfl) (by kernel_rfl) (fun _ _ _ h => h) (Or.inl ⟨by rfl, ?yy12⟩) (by assumption) ?rr12
            case yy12 => intro w' hSw; (try dsimp only at hSw); go_simp; try (with_reducible rfl)
            (try simp only [Act.put]); (try simp only [List.setIfInBounds_toArray, List.set_cons_zero, List.set_cons_succ])
            refine wpAnyH_done (by kernel_rfl) ?_ _
            refine NoPanic.normal ?_
            have e6 : IntKind.i64.wrap ((k : Int) + 1) = (k : Int) + 1 := IntWalk.i64_in _ (by omega)
            have ek : at_ + (1 + (k - at_)) = k + 1 := by omega
            rw [ek] at HR5 ⊢
            go_wp2_with fail
            go_roundw
            case rel =>
              refine ⟨k + 1, A5, c5, σ.take at_ ++ (k :: σ.drop at_), by omega, rfl, by go_num, insert_perm σ k at_ HS.out, ?_, HR5.out.1⟩
              rw [List.map_append, List.map_cons, List.map_take, List.map_drop]
              exact HR5.out.2
            case measure => simp [intOf]; omega
    · have t1 : ¬ (k : Int) < (n : Int) := by omega
      obtain rfl : k = n := by omega
      go_wp2_with fail
      go_ret
      exact ⟨B, cb, σ, rfl, HS.out, HOWN.out, HB.out⟩
end Go.Proofs.Ytljbfnabnkkfeaa

/- bafflelaw07.put: packets, put one after the other. -/
namespace Go.Proofs.Ytljbfnabnkkfeaa
open Go.RowKit
set_option linter.unusedVariables false
set_option linter.unusedSimpArgs false

def putsA (T : AT) (now : Int) (last : List Int) : List (List Int) → AT × List Int × Bool
  | [] => (T, last, true)
  | b :: bs => if (putA T now b).2.2 ≠ 0 ∨ last ≠ [] then ((putA T now b).1, [], false) else putsA (putA T now b).1 now (putA T now b).2.1 bs
/-- packets that can be read -/
def PKS (W : World) (LA : Option Addr) (G : List (SD × List Int)) : Prop :=
  ∀ (i : Nat) (g : SD × List Int), G[i]? = some g → (∃ b off, LA = some ⟨b, off, none⟩ ∧ W.cell? ⟨b, off + i, none⟩ = some g.1.val) ∧ RD .u8 W W.heap.size g.1.A g.1.n g.2 ∧ BD 255 g.2 ∧ g.1.n ≤ g.1.c ∧ g.1.n ≤ 140737488351232
def gat (G : List (SD × List Int)) (i : Nat) : List Int := (G[i]?.map (·.2)).getD []
def PUTS (w0 : World) (T : TM) (now : Int) (bs : List (List Int)) (R : List IT) (e : Ending) (w' : World) : Prop :=
  ∃ A n c T', e = .returned (.tuple #[.slice A n c, .bool (putsA (absT T) now [] bs).2.2]) ∧ T'.TB = T.TB ∧ absT T' = (putsA (absT T) now [] bs).1 ∧ TINV T' ∧ DEADS T'.gs ∧ SP w0 w' (.own .u8 5 A n c (putsA (absT T) now [] bs).2.1 :: (T'.its ++ R))
set_option maxHeartbeats 1000000 in
set_option maxRecDepth 100000 in
theorem puts_any {w0 w : World} {R : List IT} (T : TM) (now : Int) (LA : Option Addr) (ln lc : Nat) (G : List (SD × List Int)) (OA : Option Addr) (on oc : Nat) (σ : List Nat) (H0 : SP w0 w (T.its ++ R)) (hi : TINV T) (hd : DEADS T.gs) (hl : ln = G.length) (hl2 : ln ≤ 100000)
    (hP : ∀ W, SP w0 W R → PKS W LA G) (hO : ∀ W, SP w0 W R → RD .i64 W W.heap.size OA on (σ.map (fun (i : Nat) => (i : Int)))) (hσ : ∀ i ∈ σ, i < G.length) (hon : on ≤ 100000) :
    Calls Try.prog 26 #[.pointer (some ⟨T.TB, 0, none⟩), .int .i64 now, .slice LA ln lc, .slice OA on oc] w (PUTS w0 T now (σ.map (gat G)) R) := by
  have hsl : σ.length = on := by have := (hO w H0.right).1; simpa using this
  have HP := Lib.hid hP
  have HO := Lib.hid hO
  have HS := Lib.hid hσ
  have HSL := Lib.hid hsl
  have HL := Lib.hid hl
  obtain ⟨TB, hTB⟩ : ∃ b, T.TB = b := ⟨_, rfl⟩
  have HTB := Lib.hid hTB
  have X0 := Lib.hid (show SP w0 w (.own .u8 5 none 0 0 [] :: (T.its ++ R)) from (H0.pushOwn (Below.refl _ _) (OWN.nil (k := .u8) (e := 5))).rot)
  have HI := Lib.hid (And.intro hi hd)
  rw [hTB]
  clear hP hO hσ hsl hl H0 hi hd hTB
  go_enter Try.func26, Try.ntmps26
  go_upto_region 3 with fail
  go_loopw [10, 17] (fun s10 s17 wr => ∃ (k : Nat) (T1 : TM) (A : Option Addr) (n c : Nat) (last : List Int), k ≤ on ∧ s10 = .slice A n c ∧ s17 = .int .i64 (k : Int) ∧ T1.TB = TB ∧ TINV T1 ∧ DEADS T1.gs ∧ putsA (absT T) now [] (σ.map (gat G)) = putsA (absT T1) now last ((σ.map (gat G)).drop k) ∧ SP w0 wr (.own .u8 5 A n c last :: (T1.its ++ R))) (fun _ s17 _ => on - (intOf s17).toNat)
  case atStart => exact ⟨0, T, none, 0, 0, [], by omega, rfl, rfl, HTB.out, HI.out.1, HI.out.2, rfl, X0.out⟩
  case round =>
    obtain ⟨k, T1, A, n, c, last, hk, rfl, rfl, hTB1, hi1, hd1, hq, Y0⟩ := hrel
    have Y := Lib.hid Y0
    have H1 := Lib.hid (And.intro hTB1 (And.intro hi1 hd1))
    have HQ := Lib.hid hq
    clear Y0 hTB1 hi1 hd1 hq X0
    have hnl := (Y.out.own 0 rfl).len
    by_cases hlt : k < on
    · have t1 : (k : Int) < (on : Int) := by omega
      have t0 : (0 : Int) ≤ (k : Int) := by omega
      obtain ⟨s, hs⟩ : ∃ s, σ[k]? = some s := ⟨_, List.getElem?_eq_getElem (by rw [HSL.out]; exact hlt)⟩
      have hsG := HS.out s (List.mem_of_getElem? hs)
      obtain ⟨g, hg⟩ : ∃ g, G[s]? = some g := ⟨_, List.getElem?_eq_getElem hsG⟩
      obtain ⟨ob, oof, rfl, _, hoc⟩ := (HO.out wr Y.out.tail.right).2 (by omega)
      have x1 := hoc k hlt
      rw [List.getElem?_map, hs] at x1
      replace x1 : wr.cell? ⟨ob, oof + k, none⟩ = some (.int .i64 (s : Int)) := x1
      obtain ⟨⟨lb, lof, rfl, x2⟩, _⟩ := HP.out wr Y.out.tail.right s g hg
      obtain ⟨⟨gA, gn, gc⟩, gz⟩ := g
      replace x2 : wr.cell? ⟨lb, lof + s, none⟩ = some (.slice gA gn gc) := x2
      have t2 : (s : Int) < (ln : Int) := by rw [HL.out]; omega
      have t3 : (0 : Int) ≤ (s : Int) := by omega
      have HG := Lib.hid (And.intro hs hg)
      obtain ⟨p1, p2, p3, p4, p5⟩ := HP.out wr Y.out.tail.right s _ hg
      have HPU := Lib.hid (fput_any T1 gA gn gc gz now (SP.backOf (A := T1.its) (C := R) Y.out) H1.out.2.1 H1.out.2.2 (fun W hS => (HP.out W hS.tail s _ hg).2.1) p3 p4 p5)
      rw [H1.out.1] at HPU
      have t4 : k < on := hlt
      have t5 : s < ln := by rw [HL.out]; exact hsG
      clear hoc p1 p2 p3 p4 p5 hs hg hsG
      go_wp2_with fail
      refine HPU.out.mono ?_
      rintro e w2 ⟨A2, n2, c2, T2, rfl, e1, e2, e3, e4, Z0⟩
      have Z := Lib.hid (show SP w0 w2 (.own .u8 5 A2 n2 c2 (putA (absT T1) now gz).2.1 :: (T2.its ++ R)) from Z0.sub ((List.sublist_cons_self _ _).append_left _ |>.cons_cons _))
      have H2 := Lib.hid (And.intro (e1.trans H1.out.1) (And.intro e2 (And.intro e3 e4)))
      have hdk : (σ.map (gat G)).drop k = gz :: (σ.map (gat G)).drop (k + 1) := by
        have h1 : (σ.map (gat G))[k]? = some gz := by rw [List.getElem?_map, HG.out.1]; show some (gat G s) = _; unfold gat; rw [HG.out.2]; rfl
        obtain ⟨h2, h3⟩ := List.getElem?_eq_some_iff.1 h1
        rw [List.drop_eq_getElem_cons h2, h3]
      have HDK := Lib.hid hdk
      obtain ⟨er, her⟩ : ∃ er, (putA (absT T1) now gz).2.2 = er := ⟨_, rfl⟩
      have HER := Lib.hid her
      rw [her]
      clear Z0 e1 e2 e3 e4 hdk her HPU x1 x2
      have e6 : IntKind.i64.wrap ((k : Int) + 1) = (k : Int) + 1 := IntWalk.i64_in _ (by omega)
      by_cases h0 : er = 0
      · subst h0
        by_cases hn0 : n = 0
        · subst hn0
          have hlast : last = [] := List.length_eq_zero_iff.1 hnl
          have HLA := Lib.hid hlast
          have q1 : ¬ (0 : Int) < ((0 : Nat) : Int) := by omega
          clear hlast
          go_wp2_with fail
          go_roundw
          case rel =>
            refine ⟨k + 1, T2, A2, n2, c2, _, by omega, rfl, by go_num, H2.out.1, H2.out.2.2.1, H2.out.2.2.2, ?_, Z.out⟩
            rw [HQ.out, HDK.out]
            show (if _ then _ else _) = _
            rw [if_neg (by rw [HER.out, HLA.out]; simp), H2.out.2.1]
          case measure => simp [intOf]; omega
        · have q1 : (0 : Int) < (n : Int) := by omega
          have hlast : last ≠ [] := fun h => hn0 (by rw [← hnl, h]; rfl)
          have HLA := Lib.hid hlast
          clear hlast
          go_wp2_with fail
          go_ret2
          have hp : putsA (absT T) now [] (σ.map (gat G)) = (absT T2, [], false) := by
            rw [HQ.out, HDK.out]
            show (if _ then _ else _) = _
            rw [if_pos (.inr HLA.out), H2.out.2.1]
          refine ⟨none, 0, 0, T2, by rw [hp]; rfl, by rw [H2.out.1, HTB.out], by rw [hp], H2.out.2.2.1, H2.out.2.2.2, by rw [hp]; exact (Z.out.tail.pushOwn (Below.refl _ _) (OWN.nil (k := .u8) (e := 5))).rot⟩
      · have q1 : (er == 0) = false := by simpa using h0
        have HE := Lib.hid h0
        clear h0
        go_wp2_with fail
        go_ret2
        have hp : putsA (absT T) now [] (σ.map (gat G)) = (absT T2, [], false) := by
          rw [HQ.out, HDK.out]
          show (if _ then _ else _) = _
          rw [if_pos (.inl (by rw [HER.out]; exact HE.out)), H2.out.2.1]
        refine ⟨none, 0, 0, T2, by rw [hp]; rfl, by rw [H2.out.1, HTB.out], by rw [hp], H2.out.2.2.1, H2.out.2.2.2, by rw [hp]; exact (Z.out.tail.pushOwn (Below.refl _ _) (OWN.nil (k := .u8) (e := 5))).rot⟩
    · have t1 : ¬ (k : Int) < (on : Int) := by omega
      obtain rfl : k = on := by omega
      go_wp2_with fail
      go_ret2
      have hp : putsA (absT T) now [] (σ.map (gat G)) = (absT T1, last, true) := by
        rw [HQ.out, List.drop_eq_nil_of_le (by rw [List.length_map, HSL.out]; exact Nat.le_refl _)]
        rfl
      exact ⟨A, n, c, T1, by rw [hp]; rfl, by rw [H1.out.1, HTB.out], by rw [hp], H1.out.2.1, H1.out.2.2, by rw [hp]; exact Y.out⟩
end Go.Proofs.Ytljbfnabnkkfeaa
