import Derived.Test.YtljbfnabnkkfeaaFgR1
import Derived.Test.YtljbfnabnkkfeaaWLists
import Derived.Test.YtljbfnabnkkfeaaWSpR
/- bafflelaw07.splits returns true; FragSplits. -/
namespace Go.Proofs.Ytljbfnabnkkfeaa
open Go.RowKit
set_option linter.unusedVariables false
set_option linter.unusedSimpArgs false

theorem wpList_append_row1_w {P : Program} (w : World) {ops : Array Oper} {rest : List Oper} {o : Oper} {a : Act} {Q : Exit → Act → World → Prop} (hwant : Region.wanted o (yielded ops a.tmps) = true) (s x : Operand) (t : TypeId)
    (ho : o.op = .call { callee := .builtin .append, args := #[s, x], argTypes := #[t, t] })
    (base : Nat) (e : TypeId) (i : TypeInfo) (z : Value) (size bytes : Nat) (ht : P.underlying t = some (.slice e)) (hi : P.info? e = some i) (hz : i.zero = some z)
    (hsize : i.size = size) (hby : i.bytes = bytes) (hzs : z.cells.size = size) (hsz : 0 < size)
    (A : Option Addr) (n c : Nat) (xs : List Value) (hs : a.eval s = .slice A n c) (hown : w.ownsRow base e size (.slice A n c) n xs)
    (ad : Addr) (m c2 : Nat) (news : List Value) (hx : a.eval x = .slice (some ad) m c2) (hl : news.length = m * size) (hnews : ∀ j u, news[j]? = some u → w.cell? (ad.add j) = some u) (h1 : ∀ u ∈ news, u.oneCell' = true)
    (h63 : n + m ≤ maxLen) (hbytes : (n + m) * bytes ≤ 140737488355328) (hbase : base ≤ w.heap.size)
    (h : ∀ A' c' w', w'.ownsRow base e size (.slice A' (n + m) c') (n + m) (xs ++ news) → w.grownBy w' (A.map (·.block)) → (A'.map (·.block) = A.map (·.block) ∨ A'.map (·.block) = some w.heap.size) → wpList P ops Q rest (a.put o.dst (.slice A' (n + m) c')) w') :
    wpList P ops Q (o :: rest) a w := by
  have blk : ∀ (A : Option Addr) (n c : Nat), Value.ownBlock (.slice A n c) = A.map (·.block) := fun A n c => by cases A <;> rfl
  refine Go.BigFrame.wpList_want hwant fun K hK => ?_
  obtain ⟨v', w', hr, h2, h3, h4, h5⟩ := run_append_own_at (P := P) w base t o.type e i z size bytes ht hi hz hsize hby hzs hsz (.slice A n c) n xs hown ad m c2 news hl hnews h1 h63 hbytes hbase
  obtain ⟨A', c', rfl⟩ : ∃ A' c', v' = .slice A' (n + m) c' := by
    rcases h2.2 with ⟨rfl, e0⟩ | ⟨g, cap, cur, rfl, _⟩
    · exact ⟨none, 0, by rw [e0]⟩
    · exact ⟨_, _, rfl⟩
  rw [blk] at h3
  rw [blk, blk] at h5
  unfold Oper.wp execOp
  simp only [ho, resolve, invoke, builtin, Sem.run_bind, Sem.run_pure, Result.andThen_ok, List.map_toArray, List.map_cons, List.map_nil, hs, hx, hr]
  exact hK _ _ (h A' c' w' h2 h3 h5)
theorem lists7_yes (A1 A2 : Option Addr) (n c1 c2 : Nat) (G1 G2 : List (SD × List Int)) (w : World) (h1 : RDL w A1 G1) (h2 : RDL w A2 G2) (hl : G1.length = n) (he : G1.map (·.2) = G2.map (·.2)) (hn : n ≤ 100000) :
    Calls Try.prog 57 #[.slice A1 n c1, .slice A2 n c2] w fun e w' => e = .returned (.bool true) ∧ ∃ m, w' = w.drewN m := by
  have HS := Lib.hid (samelists_yes A1 A2 n c1 c2 G1 G2 w h1 h2 hl he hn)
  clear h1 h2 hl he
  go_enter Try.func57, Try.ntmps57
  go_wp2_with fail
  refine HS.out.mono ?_
  rintro e w1 ⟨rfl, m, rfl⟩
  go_wp2_with fail
  go_ret
  exact ⟨rfl, m, rfl⟩
theorem cnt_small {n s : Nat} (hn : n ≤ 400) (hs : 8 ≤ s) : cnt n s ≤ 60 := by
  refine Nat.le_of_not_lt fun hlt => ?_
  have h1 := (lt_cnt (n := n) (k := 60) (by omega)).1 hlt
  omega
theorem splitA_bound {zs : List Int} (hz : zs.length ≤ 400) (size : Int) : (splitA zs size).1.length ≤ 60 ∧ ∀ z ∈ (splitA zs size).1, z.length ≤ 100000 := by
  unfold splitA
  split
  · exact ⟨by simp, fun z hz => by cases hz⟩
  rename_i h0
  split
  · exact ⟨by simp, fun z hz => by cases hz⟩
  split
  · refine ⟨by simp, fun z hzm => ?_⟩
    simp at hzm
    subst hzm
    simp; omega
  split
  · exact ⟨by simp, fun z hz => by cases hz⟩
  have hok : 8 ≤ size := by
    have : sizeOk size = true := by simpa using h0
    unfold sizeOk at this
    simp at this; omega
  have hd : (frOf zs).d.length ≤ 400 := by
    show (((zs.drop _).take _)).length ≤ 400
    simp; omega
  have ho : (frOf zs).o.length ≤ 400 := by
    show ((zs.drop 20).take _).length ≤ 400
    simp; omega
  constructor
  · unfold pieces
    simp only [List.length_map, List.length_range]
    exact cnt_small hd (by omega)
  · intro z hzm
    obtain ⟨p, hp, rfl⟩ := List.mem_map.1 hzm
    unfold pieces at hp
    obtain ⟨j, _, rfl⟩ := List.mem_map.1 hp
    show (pktB _ _ _).length ≤ _
    rw [pkt_len]
    have h1 := pieceF_len (frOf zs) size.toNat j
    have h2 : (pieceF (frOf zs) size.toNat j).o = (frOf zs).o := rfl
    rw [h2]
    omega
theorem row_cells {W : World} {base : Nat} {lg n c : Nat} {vs : List Value} (h : W.ownsRow base 23 1 (.slice (some ⟨lg, 0, none⟩) n c) n vs) : ∀ (j : Nat) (u : Value), vs[j]? = some u → W.cell? ((⟨lg, 0, none⟩ : Addr).add j) = some u := by
  intro j u hu
  have hl := h.1
  have hj := (List.getElem?_eq_some_iff.1 hu).1
  rw [Addr.add_mid, Nat.zero_add, World.ownsRow.cellAt h j (by omega)]
  exact hu
set_option maxHeartbeats 1200000 in
set_option maxRecDepth 100000 in
theorem splits7_any (A : Option Addr) (n c : Nat) (zs : List Int) (size : Int) (w : World) (h : RD .u8 w w.heap.size A n zs) (hz : BD 255 zs) (hnc : n ≤ c) (hsz : size ≤ 9223372036854775807) (hsz0 : -9223372036854775808 ≤ size) :
    Calls Try.prog 23 #[.slice A n c, .int .i64 size] w fun e w' => e = .returned (.bool true) ∧ Below w.heap.size w w' := by
  have HRD := Lib.hid (fun (W : World) (hb : Below w.heap.size w W) => (h.below hb).more hb.size)
  have HZ := Lib.hid hz
  have HZL := Lib.hid h.len
  by_cases hn : 400 < n
  · have t1 : (400 : Int) < (n : Int) := by omega
    go_enter Try.func23, Try.ntmps23
    go_wp2_with fail
    go_ret
    exact ⟨rfl, Below.refl _ _⟩
  have t1 : ¬ (400 : Int) < (n : Int) := by omega
  have hn4 : n ≤ 400 := by omega
  have HL := Lib.hid (lent_any A n c zs w h (by omega))
  have HSZ := Lib.hid (And.intro hsz hsz0)
  obtain ⟨hb1, hb2⟩ := splitA_bound (zs := zs) (by rw [HZL.out]; exact hn4) size
  have HB1 := Lib.hid hb1
  have HB2 := Lib.hid hb2
  clear h hz hn hsz hsz0 hb1 hb2
  go_enter Try.func23, Try.ntmps23
  go_wp2_with fail
  refine HL.out.mono ?_
  rintro e w1 ⟨Al, n1, rfl, hn1, ho, hb⟩
  obtain rfl : n1 = n := by rw [hn1]; exact HZL.out
  have X1 := Lib.hid (show SP w w1 [.own .u8 5 Al (n1 + 12) (n1 + 12) (zs ++ marksFrom 1 0 12)] from (SP.start w).pushOwn hb ho)
  have RA := Lib.hid (fun (W : World) (hS : SP w W [.own .u8 5 Al (n1 + 12) (n1 + 12) (zs ++ marksFrom 1 0 12)]) => (show RD .u8 W W.heap.size Al n1 zs from by
    have h2 := (hS.rd 0 rfl).take (m := n1) (by omega)
    rw [List.take_left' HZL.out] at h2
    exact h2))
  clear ho hb HL hn1
  go_wp2_with fail
  refine (tsplit Al n1 (n1 + 12) zs size X1.out (fun W hS => RA.out W hS) HZ.out (by omega) (by omega) HSZ.out.1 HSZ.out.2).mono ?_
  rintro e w2 ⟨LA, ln, lc, G, rfl, hGl, hGm, hS⟩
  have X2 := Lib.hid hS
  have HG := Lib.hid (And.intro hGl hGm)
  have hln : ln ≤ 60 := by have h2 := HB1.out; rw [← hGm, List.length_map, hGl] at h2; exact h2
  clear hS hGl hGm X1
  go_wp2_with fail
  refine (r7split_any A n1 c zs size X2.out (fun W hS => HRD.out W hS.bel) HZ.out hnc hn4 HSZ.out.1 HSZ.out.2).mono ?_
  rintro e w3 ⟨LB, lcb, G2, rfl, hG2m, hS⟩
  have hl2 : G2.length = ln := by
    have h2 := congrArg List.length hG2m
    rw [List.length_map, ← HG.out.2, List.length_map, HG.out.1] at h2
    exact h2
  rw [hl2] at hS ⊢
  have HG2 := Lib.hid (And.intro hl2 hG2m)
  have X3 := Lib.hid hS
  clear hS hl2 hG2m X2
  have hR1 := rdl_row (G := G) X3.out (LA := LA) (n := ln) (c := lc) (by simp) (fun g hg => by simp only [List.mem_cons, List.mem_append]; exact .inr (.inr (.inr (.inl (List.mem_map.2 ⟨g, hg, rfl⟩))))) (fun g hg => HB2.out _ (by rw [← HG.out.2]; exact List.mem_map.2 ⟨g, hg, rfl⟩))
  have hR2 := rdl_row (G := G2) X3.out (LA := LB) (n := ln) (c := lcb) (by simp) (fun g hg => by simp only [List.mem_cons, List.mem_append]; exact .inr (.inl (List.mem_map.2 ⟨g, hg, rfl⟩))) (fun g hg => HB2.out _ (by rw [← HG2.out.2]; exact List.mem_map.2 ⟨g, hg, rfl⟩))
  have HLI := Lib.hid (lists7_yes LA LB ln lc lcb G G2 w3 hR1 hR2 HG.out.1 (by rw [HG.out.2, HG2.out.2]) (by omega))
  clear hR1 hR2
  obtain ⟨er, her⟩ : ∃ er, (splitA zs size).2 = er := ⟨_, rfl⟩
  rw [her]
  go_wp2_with fail
  refine HLI.out.mono ?_
  rintro e w4 ⟨rfl, m4, rfl⟩
  have X4 := Lib.hid (show SP w (w3.drewN m4) (.row 23 1 LA ln lc (G.map gV) :: (G.map gIT ++ [.own .u8 5 Al (n1 + 12) (n1 + 12) (zs ++ marksFrom 1 0 12)])) from (X3.out.drewN m4).tail.right)
  clear X3 HLI her
  generalize w3.drewN m4 = w5 at X4 ⊢
  have HK := Lib.hid (kept_any Al n1 zs A c w5 (HRD.out _ X4.out.bel) (X4.out.tail.right.rd 0 rfl) (by omega))
  go_wp2_with fail
  refine HK.out.mono ?_
  rintro e w6 ⟨rfl, m6, rfl⟩
  have X5 := Lib.hid (X4.out.drewN m6)
  clear X4 HK
  generalize w5.drewN m6 = w7 at X5 ⊢
  obtain ⟨i9, hi9, hy0, hy1, hy2⟩ := info_parts (show (Try.prog.info? 23).map (fun i => (i.zero, i.size, i.bytes)) = some (some (.slice none 0 0), 1, 24) by kernel_rfl)
  have HGN := Lib.hid (show ∀ g ∈ G, g.1.n ≤ 140737488351232 from fun g hg => by
    have h2 : OWN .u8 5 w7 w.heap.size g.1.A g.1.n g.1.c g.2 := X5.out.mem (gIT g) (by simp only [List.mem_cons, List.mem_append]; exact .inr (.inl (List.mem_map.2 ⟨g, hg, rfl⟩)))
    have h3 := h2.len
    have h4 := HB2.out g.2 (by rw [← HG.out.2]; exact List.mem_map.2 ⟨g, hg, rfl⟩)
    omega)
  obtain ⟨EB, hEB⟩ : ∃ b, w7.heap.size = b := ⟨_, rfl⟩
  have X6 := Lib.hid (show SP w (w7.alloc (.cells #[] 23)) (.row 23 1 (some ⟨EB, 0, none⟩) 0 0 [] :: .own .u8 5 Al (n1 + 12) (n1 + 12) (zs ++ marksFrom 1 0 12) :: .row 23 1 LA ln lc (G.map gV) :: G.map gIT) from by
    have h2 := (X5.out.allocRow7 23 1 0 #[] (Nat.zero_le _) rfl hEB).rot
    refine h2.perm (List.Perm.cons _ ?_)
    exact ((List.perm_append_comm (l₁ := G.map gIT) (l₂ := [_])).cons _).trans (List.Perm.swap _ _ _))
  clear X5
  rcases (X6.out.row 2 rfl).2 with ⟨hv, _⟩ | ⟨lg, cap, cur, hv, _⟩
  · simp at hv
    obtain ⟨rfl, rfl, rfl⟩ := hv
    obtain rfl : G = [] := List.length_eq_zero_iff.1 HG.out.1
    have X8 := Lib.hid (X6.out.next ((Below.refl _ _).alloc (Nat.le_refl _) (.cells #[.slice Al n1 (n1 + 12)] 23)))
    have HN1 := Lib.hid (fun (jj : Nat) (u : Value) (hu : [(.slice Al n1 (n1 + 12) : Value)][jj]? = some u) => (show ((w7.alloc (.cells #[] 23)).alloc (.cells #[.slice Al n1 (n1 + 12)] 23)).cell? ((⟨EB + 1, 0, none⟩ : Addr).add jj) = some u from by
      have h2 := one_new (w7.alloc (.cells #[] 23)) 23 _ jj u hu
      rw [show (w7.alloc (.cells #[] 23)).heap.size = EB + 1 by rw [← hEB]; simp] at h2
      exact h2))
    go_wp2_with (refine wpList_append_row1_w _ (by rfl) _ _ 30 rfl w.heap.size 23 i9 _ 1 24 Try.underlying30 hi9 hy0 hy1 hy2 (by rfl) (by decide) (some ⟨EB, 0, none⟩) 0 0 [] rfl (X8.out.row 0 rfl) ⟨EB + 1, 0, none⟩ 1 1 [.slice Al n1 (n1 + 12)] rfl rfl HN1.out (by intro z hz; simp at hz; subst hz; rfl) (by simp only [maxLen]; omega) (by omega) X8.out.size ?_; intro Ay cy wY hrow hgrow hat; have X9 := Lib.hid (show SP w wY (.row 23 1 Ay (0 + 1) cy (([] : List (SD × List Int)).map gV ++ [.slice Al n1 (n1 + 12)]) :: .own .u8 5 Al (n1 + 12) (n1 + 12) (zs ++ marksFrom 1 0 12) :: .row 23 1 none 0 0 [] :: ([] : List (SD × List Int)).map gIT) from X8.out.appRow 0 rfl hrow hgrow hat); clear hrow hgrow hat)
    obtain ⟨hd1, hd2⟩ := spd_row (L := (.row 23 1 Ay (0 + 1) cy (([] : List (SD × List Int)).map gV ++ [.slice Al n1 (n1 + 12)]) :: .own .u8 5 Al (n1 + 12) (n1 + 12) (zs ++ marksFrom 1 0 12) :: .row 23 1 none 0 0 [] :: ([] : List (SD × List Int)).map gIT)) [] 3 1 (fun j g hg => by show (_ :: _ :: _ :: ([] : List (SD × List Int)).map gIT)[3 + j]? = _; rw [show 3 + j = j + 1 + 1 + 1 by omega, List.getElem?_cons_succ, List.getElem?_cons_succ, List.getElem?_cons_succ, List.getElem?_map, hg]; rfl) (by omega) HGN.out ⟨Al, n1, n1 + 12⟩ (n1 + 12) (zs ++ marksFrom 1 0 12) rfl (by show n1 ≤ n1 + 12; omega) (by show n1 ≤ _; omega)
    refine (sp_apart_row X9.out _ _ hd1 hd2 (by simp) Ay (0 + 1) cy (by simp) ?_).mono ?_
    · have hr := X9.out.row 0 rfl
      have el : (([] : List (SD × List Int)).map (fun g : SD × List Int => g.1) ++ [(⟨Al, n1, n1 + 12⟩ : SD)]).length = 0 + 1 := by simp
      have em : (([] : List (SD × List Int)).map (fun g : SD × List Int => g.1) ++ [(⟨Al, n1, n1 + 12⟩ : SD)]).map SD.val = ([] : List (SD × List Int)).map gV ++ [.slice Al n1 (n1 + 12)] := by rw [List.map_append, List.map_map]; rfl
      have := lsr_of_own (L := ([] : List (SD × List Int)).map (fun g : SD × List Int => g.1) ++ [(⟨Al, n1, n1 + 12⟩ : SD)]) (B := Ay) (c := cy) (base := w.heap.size) (w := wY) (by rw [el, em]; exact hr)
      exact this
    rintro e w10 ⟨rfl, hb10⟩
    have XE := Lib.hid (X9.out.bel.trans hb10)
    clear hb10
    go_wp2_with fail
    go_ret
    exact ⟨rfl, XE.out⟩
  · simp at hv
    obtain ⟨rfl, rfl⟩ := hv
    have hcl := row_cells (X6.out.row 2 rfl)
    have HCL := Lib.hid hcl
    go_wp2_with (first
      | (refine wpList_append_row1_w _ (by rfl) _ _ 30 rfl w.heap.size 23 i9 _ 1 24 Try.underlying30 hi9 hy0 hy1 hy2 (by rfl) (by decide) Ax ln cx (G.map gV) rfl (X8.out.row 0 rfl) ⟨EC, 0, none⟩ 1 1 [.slice Al n1 (n1 + 12)] rfl rfl HN1.out (by intro z hz; simp at hz; subst hz; rfl) (by simp only [maxLen]; omega) (by omega) X8.out.size ?_; intro Ay cy wY hrow hgrow hat; have X9 := Lib.hid (show SP w wY (.row 23 1 Ay (ln + 1) cy (G.map gV ++ [.slice Al n1 (n1 + 12)]) :: .own .u8 5 Al (n1 + 12) (n1 + 12) (zs ++ marksFrom 1 0 12) :: .row 23 1 (some ⟨lg, 0, none⟩) ln lc (G.map gV) :: G.map gIT) from X8.out.appRow 0 rfl hrow hgrow hat); clear hrow hgrow hat)
      | (refine wpList_append_row1_w _ (by rfl) _ _ 30 rfl w.heap.size 23 i9 _ 1 24 Try.underlying30 hi9 hy0 hy1 hy2 (by rfl) (by decide) (some ⟨EB, 0, none⟩) 0 0 [] rfl (X6.out.row 0 rfl) ⟨lg, 0, none⟩ ln lc (G.map gV) rfl (by have := HG.out.1; simp; omega) HCL.out (gV_one _) (by simp only [maxLen]; omega) (by omega) X6.out.size ?_; intro Ax cx wX hrow hgrow hat; have hX7 : SP w wX (.row 23 1 Ax (0 + ln) cx ([] ++ G.map gV) :: .own .u8 5 Al (n1 + 12) (n1 + 12) (zs ++ marksFrom 1 0 12) :: .row 23 1 (some ⟨lg, 0, none⟩) ln lc (G.map gV) :: G.map gIT) := X6.out.appRow 0 rfl hrow hgrow hat; clear hrow hgrow hat; rw [Nat.zero_add] at hX7 ⊢; obtain ⟨EC, hEC⟩ : ∃ b, wX.heap.size = b := ⟨_, rfl⟩; have X8 := Lib.hid (hX7.next ((Below.refl _ wX).alloc (Nat.le_refl _) (.cells #[.slice Al n1 (n1 + 12)] 23))); have HN1 := Lib.hid (fun (jj : Nat) (u : Value) (hu : [(.slice Al n1 (n1 + 12) : Value)][jj]? = some u) => one_new wX 23 _ jj u hu); rw [hEC] at HN1; clear hX7))
    obtain ⟨hd1, hd2⟩ := spd_row (L := (.row 23 1 Ay (ln + 1) cy (G.map gV ++ [.slice Al n1 (n1 + 12)]) :: .own .u8 5 Al (n1 + 12) (n1 + 12) (zs ++ marksFrom 1 0 12) :: .row 23 1 (some ⟨lg, 0, none⟩) ln lc (G.map gV) :: G.map gIT)) G 3 1 (fun j g hg => by show (_ :: _ :: _ :: G.map gIT)[3 + j]? = _; rw [show 3 + j = j + 1 + 1 + 1 by omega, List.getElem?_cons_succ, List.getElem?_cons_succ, List.getElem?_cons_succ, List.getElem?_map, hg]; rfl) (by omega) HGN.out ⟨Al, n1, n1 + 12⟩ (n1 + 12) (zs ++ marksFrom 1 0 12) rfl (by show n1 ≤ n1 + 12; omega) (by show n1 ≤ _; omega)
    refine (sp_apart_row X9.out _ _ hd1 hd2 (by have := HG.out.1; simp; omega) Ay (ln + 1) cy (by have := HG.out.1; simp; omega) ?_).mono ?_
    · have hr := X9.out.row 0 rfl
      have el : (G.map (fun g : SD × List Int => g.1) ++ [(⟨Al, n1, n1 + 12⟩ : SD)]).length = ln + 1 := by have := HG.out.1; simp; omega
      have em : (G.map (fun g : SD × List Int => g.1) ++ [(⟨Al, n1, n1 + 12⟩ : SD)]).map SD.val = G.map gV ++ [.slice Al n1 (n1 + 12)] := by rw [List.map_append, List.map_map]; rfl
      have := lsr_of_own (L := G.map (fun g : SD × List Int => g.1) ++ [(⟨Al, n1, n1 + 12⟩ : SD)]) (B := Ay) (c := cy) (base := w.heap.size) (w := wY) (by rw [el, em]; exact hr)
      exact this
    rintro e w10 ⟨rfl, hb10⟩
    have XE := Lib.hid (X9.out.bel.trans hb10)
    clear hb10
    go_wp2_with fail
    go_ret
    exact ⟨rfl, XE.out⟩
set_option maxHeartbeats 1000000 in
set_option maxRecDepth 100000 in
theorem fragSplits_walk (A : Option Addr) (n c : Nat) (zs : List Int) (q : Int) (w : World) (h : ROW .u8 255 w A n c zs) (hq : -9223372036854775808 ≤ q ∧ q ≤ 9223372036854775807) :
    Calls Try.prog 4 #[.slice A n c, .int .i64 q] w fun e w' => e = .returned (.bool true) ∧ Below w.heap.size w w' := by
  have HS := Lib.hid (splits7_any A n c zs q w h.rd h.bd h.le hq.2 hq.1)
  clear h hq
  go_enter Try.func4, Try.ntmps4
  go_wp2_with fail
  refine HS.out.mono ?_
  rintro e w1 ⟨rfl, hb⟩
  have HB := Lib.hid hb
  clear hb HS
  go_wp2_with fail
  refine (awake7_any _).mono ?_
  rintro e w2 ⟨rfl, hb2⟩
  have HB2 := Lib.hid (HB.out.trans (hb2.mono HB.out.size))
  clear hb2
  go_wp2_with fail
  go_ret
  exact ⟨rfl, HB2.out⟩
end Go.Proofs.Ytljbfnabnkkfeaa
