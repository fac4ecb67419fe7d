import Derived.Test.YtljbfnabnkkfeaaFgY
import Derived.Test.YtljbfnabnkkfeaaFgW
/- chapter 07: the pieces of a packet, in memory. -/
namespace Go.Proofs.Ytljbfnabnkkfeaa
open Go.RowKit
set_option linter.unusedVariables false
set_option linter.unusedSimpArgs false

theorem read_of {h : HD} {o d zs : List Int} (P : PARSED h o d zs) : ipE zs = 0 ∧ hdR zs = h ∧ fromR zs = 20 + o.length ∧ toR zs = 20 + o.length + d.length ∧ optsR zs = o := by
  refine ⟨ipE_eq P.fault, ?_, ?_, ?_, ?_⟩
  · unfold hdR; rw [if_pos P.fault]; exact P.hdE
  · unfold fromR; rw [if_pos P.fault, P.size]
  · unfold toR; rw [if_pos P.fault, P.total]
  · unfold optsR; rw [if_pos P.fault]; exact P.opE
theorem MPKT.whole {h : HD} {o d : List Int} (H : MPKT h o d) : WHOLE h o d := ⟨H.wf, H.mf, H.off, H.right, H.op, H.bd, by have := H.len; omega⟩
structure PIECES (h : HD) (o d : List Int) (s : Nat) (G : List (SD × List Int)) : Prop where
  m : MPKT h o d
  hs : 8 ≤ s
  h8 : s % 8 = 0
  s32 : s ≤ 32
  eq : G.map (·.2) = (pieces ⟨h, o, d⟩ s).map bytesF
section
variable {h : HD} {o d : List Int} {s : Nat} {G : List (SD × List Int)}
theorem PIECES.w (H : PIECES h o d s G) : WHOLE h o d := H.m.whole
theorem PIECES.len (H : PIECES h o d s G) : G.length = cnt d.length s := by
  have := congrArg List.length H.eq
  unfold pieces at this
  simpa using this
theorem PIECES.cnt_le (H : PIECES h o d s G) : 1 ≤ cnt d.length s ∧ cnt d.length s ≤ 12 := by
  have h1 := H.m.len
  have h2 := H.hs
  refine ⟨cnt_pos (by omega) H.w.pos, ?_⟩
  refine Nat.le_of_not_lt fun hlt => ?_
  have h3 := (lt_cnt (n := d.length) (k := 12) (by omega)).1 hlt
  omega
theorem PIECES.at_ (H : PIECES h o d s G) {j : Nat} (hj : j < cnt d.length s) : ∃ sd, G[j]? = some (sd, bytesF (pieceF ⟨h, o, d⟩ s j)) := by
  have h1 : (G.map (·.2))[j]? = some (bytesF (pieceF ⟨h, o, d⟩ s j)) := by
    rw [H.eq, List.getElem?_map, pieces_get (by exact hj)]; rfl
  rw [List.getElem?_map] at h1
  obtain ⟨⟨sd, z⟩, h2, h3⟩ := Option.map_eq_some_iff.1 h1
  simp only at h3
  subst h3
  exact ⟨sd, h2⟩
theorem PIECES.gat (H : PIECES h o d s G) {j : Nat} (hj : j < cnt d.length s) : gat G j = bytesF (pieceF ⟨h, o, d⟩ s j) := by
  obtain ⟨sd, h1⟩ := H.at_ hj
  unfold Go.Proofs.Ytljbfnabnkkfeaa.gat
  rw [h1]; rfl
theorem PIECES.map (H : PIECES h o d s G) {σ : List Nat} (hσ : ∀ i ∈ σ, i < cnt d.length s) : σ.map (Go.Proofs.Ytljbfnabnkkfeaa.gat G) = σ.map (fun i => bytesF (pieceF ⟨h, o, d⟩ s i)) :=
  List.map_congr_left fun i hi => H.gat (hσ i hi)
theorem PIECES.frg (H : PIECES h o d s G) {j : Nat} (hj : j < cnt d.length s) : FRG h o d (pieceF ⟨h, o, d⟩ s j) := piece_frg H.w H.hs H.h8 ((lt_cnt (by have := H.hs; omega)).1 hj)
theorem PIECES.each (H : PIECES h o d s G) : ∀ g ∈ G, ∃ j, j < cnt d.length s ∧ g.2 = bytesF (pieceF ⟨h, o, d⟩ s j) := fun g hg => by
  have h1 : g.2 ∈ G.map (·.2) := List.mem_map.2 ⟨g, hg, rfl⟩
  rw [H.eq] at h1
  obtain ⟨f, h2, h3⟩ := List.mem_map.1 h1
  unfold pieces at h2
  obtain ⟨j, h4, h5⟩ := List.mem_map.1 h2
  exact ⟨j, by simpa using h4, by rw [← h3, ← h5]⟩
theorem frg_len {f : FR} (H : FRG h o d f) : (bytesF f).length = 20 + o.length + f.d.length := by
  show (pktB _ _ _).length = _
  rw [pkt_len, H.o]
theorem frg_small {f : FR} (H : FRG h o d f) : (bytesF f).length ≤ 65535 := by
  obtain ⟨r1, r2, r3, r4, r5, r6, r7, r8, r9⟩ := H.right
  rw [frg_len H, ← H.o]; omega
theorem PIECES.bd (H : PIECES h o d s G) : ∀ g ∈ G, BD 255 g.2 := fun g hg => by
  obtain ⟨j, h1, h2⟩ := H.each g hg
  rw [h2]; exact (H.frg h1).bds
theorem PIECES.small (H : PIECES h o d s G) : ∀ g ∈ G, g.2.length ≤ 100000 := fun g hg => by
  obtain ⟨j, h1, h2⟩ := H.each g hg
  rw [h2]
  have := frg_small (H.frg h1); omega
end
/-- what Read says of a piece -/
theorem read_frg {h : HD} {o d : List Int} {f : FR} (H : FRG h o d f) : ipE (bytesF f) = 0 ∧ hdR (bytesF f) = f.h ∧ fromR (bytesF f) = 20 + o.length ∧ toR (bytesF f) = (bytesF f).length ∧ optsR (bytesF f) = o := by
  obtain ⟨h1, h2, h3, h4, h5⟩ := read_of H.parse
  rw [H.o] at h3 h4 h5
  exact ⟨h1, h2, h3, by rw [h4, frg_len H], h5⟩
theorem split7 {w0 w : World} {L : List IT} {h : HD} {o d : List Int} (M : MPKT h o d) {s : Nat} (hs : 8 ≤ s) (h8 : s % 8 = 0) (s32 : s ≤ 32) (A : Option Addr) (n c : Nat) (H0 : SP w0 w L) (rd : ∀ W, SP w0 W L → RD .u8 W W.heap.size A n (pktB h o d)) (hnc : n ≤ c) (hn : n ≤ 140737488351232) :
    Calls Try.prog 14 #[.slice A n c, .int .i64 (s : Int)] w fun e w' => ∃ (lg : Nat) (n c : Nat) (G : List (SD × List Int)), e = .returned (.tuple #[.slice (some ⟨lg, 0, none⟩) n c, .int .i64 0]) ∧ G.length = n ∧ n = cnt d.length s ∧ PIECES h o d s G ∧ SP w0 w' (.row 23 1 (some ⟨lg, 0, none⟩) n c (G.map gV) :: (G.map gIT ++ L)) := by
  refine (tsplit A n c (pktB h o d) (s : Int) H0 rd M.whole.bds hnc hn (by omega) (by omega)).mono ?_
  rintro e w' ⟨A', n', c', G, rfl, hl, hG, hS⟩
  rw [split_whole M.whole M.df hs h8] at hG ⊢
  have P : PIECES h o d s G := ⟨M, hs, h8, s32, hG⟩
  have hn' : n' = cnt d.length s := by rw [← hl]; exact P.len
  obtain ⟨lg, hlg, _⟩ := row_head (hS.row 0 rfl) (by have := P.cnt_le; omega)
  subst hlg
  exact ⟨lg, n', c', G, rfl, hl, hn', P, hS⟩
theorem pks_split {w0 W : World} {L : List IT} {h : HD} {o d : List Int} {s lg n c : Nat} {G : List (SD × List Int)} (P : PIECES h o d s G) (H : SP w0 W (.row 23 1 (some ⟨lg, 0, none⟩) n c (G.map gV) :: (G.map gIT ++ L))) : PKS W (some ⟨lg, 0, none⟩) G :=
  pks_row (n := n) (c := c) H List.mem_cons_self (fun g hg => by simp only [List.mem_cons, List.mem_append]; exact .inr (.inl (List.mem_map.2 ⟨g, hg, rfl⟩))) P.bd P.small
theorem size_nat (q : Int) (hq : 0 ≤ q ∧ q ≤ 255) : ∃ s : Nat, 8 * (1 + q % 4) = (s : Int) ∧ 8 ≤ s ∧ s % 8 = 0 ∧ s ≤ 32 := ⟨(8 * (1 + q % 4)).toNat, by omega, by omega, by omega, by omega⟩
theorem size7s (n : Int) (hn : 0 ≤ n ∧ n ≤ 255) {s : Nat} (hs : 8 * (1 + n % 4) = (s : Int)) (w : World) : Calls Try.prog 24 #[.int .u8 n] w fun e w' => e = .returned (.int .i64 (s : Int)) ∧ w' = w := by
  refine (size7_any n hn w).mono ?_
  rintro e w' ⟨rfl, h⟩
  rw [hs]
  exact ⟨rfl, h⟩
end Go.Proofs.Ytljbfnabnkkfeaa
/- rows of packets made of others -/
namespace Go.Proofs.Ytljbfnabnkkfeaa
open Go.RowKit
set_option linter.unusedVariables false
set_option linter.unusedSimpArgs false

theorem quiet_dN0 {P : Program} {f : FuncId} {args : Array Value} {w : World} {n : Nat} {v : Value}
    (h : Calls P f args (w.drewN n) fun e w' => e = .returned v ∧ ∃ m, w' = (w.drewN n).drewN m) : Calls P f args (w.drewN n) fun e w'' => e = .returned v ∧ ∃ m, w'' = w.drewN m :=
  h.mono fun _ _ ⟨he, m, hm⟩ => ⟨he, n + m, by rw [hm, World.drewN_drewN]⟩
theorem quiet_eq0 {P : Program} {f : FuncId} {args : Array Value} {w : World} {n : Nat} {v : Value}
    (h : Calls P f args (w.drewN n) fun e w' => e = .returned v ∧ w' = w.drewN n) : Calls P f args (w.drewN n) fun e w'' => e = .returned v ∧ ∃ m, w'' = w.drewN m :=
  h.mono fun _ _ ⟨he, hm⟩ => ⟨he, n, hm⟩
theorem SP.allocRow7 {w0 w : World} {L : List IT} {N : Nat} (H : SP w0 w L) (t : TypeId) (m n : Nat) (cs : Array Value) (hm : n ≤ maxLen) (hs : cs.size = n * m) (hN : w.heap.size = N) :
    SP w0 (w.alloc (.cells cs t)) (L ++ [.row t m (some ⟨N, 0, none⟩) n n cs.toList]) := by
  subst hN
  exact H.push ((Below.refl _ w).alloc (Nat.le_refl _) _) (World.ownsRow_lit w cs n (Nat.le_refl _) hm hs)
theorem pks_of {w0 W : World} {R : List IT} {LA LB : Option Addr} {n c : Nat} {G G' : List (SD × List Int)} (H : SP w0 W R) (hr : .row 23 1 LB n c (G'.map gV) ∈ R) (hP : PKS W LA G) (hs : ∀ g ∈ G', g ∈ G) : PKS W LB G' := by
  intro i g hg
  have hm := List.mem_of_getElem? hg
  obtain ⟨j, hj, hgj⟩ := List.getElem_of_mem (hs g hm)
  obtain ⟨_, p2, p3, p4, p5⟩ := hP j g (by rw [List.getElem?_eq_getElem hj, hgj])
  have h1 : W.ownsRow w0.heap.size 23 1 (.slice LB n c) n (G'.map gV) := H.mem _ hr
  have hgv : (G'.map gV)[i]? = some g.1.val := by rw [List.getElem?_map, hg]; rfl
  have hn : n = G'.length := by have := h1.1; simp at this; omega
  have hi : i < n := by rw [hn]; exact (List.getElem?_eq_some_iff.1 hg).1
  refine ⟨?_, p2, p3, p4, p5⟩
  rcases h1.2 with ⟨_, h3⟩ | ⟨b, cap, cur, h3, _⟩
  · omega
  · simp at h3
    obtain ⟨rfl, rfl⟩ := h3
    refine ⟨b, 0, rfl, ?_⟩
    rw [Nat.zero_add, World.ownsRow.cellAt h1 i (by omega)]
    exact hgv
theorem cut_some (lg cl lo : Nat) : cutA (some ⟨lg, 0, none⟩) cl lo = some ⟨lg, if cl = lo then 0 else lo, none⟩ := by
  unfold cutA
  split
  · rfl
  · rename_i h
    show some ((⟨lg, 0, none⟩ : Addr).add lo) = _
    rw [Addr.add_mid, Nat.zero_add]
/-- the cells of a part of a row of packets -/
theorem part_cells {W : World} {lg cl lo nl : Nat} {G : List (SD × List Int)} (hP : PKS W (some ⟨lg, 0, none⟩) G) (hl : G.length = nl) (hc : nl ≤ cl) : ∀ (j : Nat) (u : Value), ((G.drop lo).map gV)[j]? = some u → W.cell? ((⟨lg, if cl = lo then 0 else lo, none⟩ : Addr).add j) = some u := by
  intro j u hu
  rw [List.getElem?_map, List.getElem?_drop] at hu
  obtain ⟨g, hg, rfl⟩ := Option.map_eq_some_iff.1 hu
  obtain ⟨⟨b, off, e1, e2⟩, _⟩ := hP _ g hg
  cases e1
  have hlt := (List.getElem?_eq_some_iff.1 hg).1
  rw [if_neg (by omega), Addr.add_mid]
  rw [Nat.zero_add] at e2
  exact e2
theorem part_take {W : World} {lg k : Nat} {G : List (SD × List Int)} (hP : PKS W (some ⟨lg, 0, none⟩) G) : ∀ (j : Nat) (u : Value), ((G.take k).map gV)[j]? = some u → W.cell? ((⟨lg, 0, none⟩ : Addr).add j) = some u := by
  intro j u hu
  rw [List.getElem?_map] at hu
  obtain ⟨g, hg, rfl⟩ := Option.map_eq_some_iff.1 hu
  have hg2 : G[j]? = some g := by
    rw [List.getElem?_take] at hg
    split at hg
    · exact hg
    · cases hg
  obtain ⟨⟨b, off, e1, e2⟩, _⟩ := hP _ g hg2
  cases e1
  rw [Addr.add_mid]
  exact e2
theorem gV_one (G : List (SD × List Int)) : ∀ u ∈ G.map gV, u.oneCell' = true := fun u hu => by
  obtain ⟨g, _, rfl⟩ := List.mem_map.1 hu; rfl
end Go.Proofs.Ytljbfnabnkkfeaa
namespace Go.Proofs.Ytljbfnabnkkfeaa
open Go.RowKit
theorem pks_mk {w0 W : World} {R : List IT} {LB : Option Addr} {n c : Nat} {G' : List (SD × List Int)} (H : SP w0 W R) (hr : .row 23 1 LB n c (G'.map gV) ∈ R) (hE : ∀ g ∈ G', RD .u8 W W.heap.size g.1.A g.1.n g.2 ∧ BD 255 g.2 ∧ g.1.n ≤ g.1.c ∧ g.1.n ≤ 140737488351232) : PKS W LB G' := by
  intro i g hg
  have hm := List.mem_of_getElem? hg
  obtain ⟨p2, p3, p4, p5⟩ := hE g hm
  have h1 : W.ownsRow w0.heap.size 23 1 (.slice LB n c) n (G'.map gV) := H.mem _ hr
  have hgv : (G'.map gV)[i]? = some g.1.val := by rw [List.getElem?_map, hg]; rfl
  have hn : n = G'.length := by have := h1.1; simp at this; omega
  have hi : i < n := by rw [hn]; exact (List.getElem?_eq_some_iff.1 hg).1
  refine ⟨?_, p2, p3, p4, p5⟩
  rcases h1.2 with ⟨_, h3⟩ | ⟨b, cap, cur, h3, _⟩
  · omega
  · simp at h3
    obtain ⟨rfl, rfl⟩ := h3
    refine ⟨b, 0, rfl, ?_⟩
    rw [Nat.zero_add, World.ownsRow.cellAt h1 i (by omega)]
    exact hgv
theorem PKS.each {W : World} {LA : Option Addr} {G : List (SD × List Int)} (H : PKS W LA G) : ∀ g ∈ G, RD .u8 W W.heap.size g.1.A g.1.n g.2 ∧ BD 255 g.2 ∧ g.1.n ≤ g.1.c ∧ g.1.n ≤ 140737488351232 := fun g hg => by
  obtain ⟨j, hj, rfl⟩ := List.getElem_of_mem hg
  obtain ⟨_, p2, p3, p4, p5⟩ := H j _ (List.getElem?_eq_getElem hj)
  exact ⟨p2, p3, p4, p5⟩
theorem all_cells {W : World} {lg : Nat} {G : List (SD × List Int)} (hP : PKS W (some ⟨lg, 0, none⟩) G) : ∀ (j : Nat) (u : Value), (G.map gV)[j]? = some u → W.cell? ((⟨lg, 0, none⟩ : Addr).add j) = some u := by
  intro j u hu
  rw [List.getElem?_map] at hu
  obtain ⟨g, hg, rfl⟩ := Option.map_eq_some_iff.1 hu
  obtain ⟨⟨b, off, e1, e2⟩, _⟩ := hP _ g hg
  cases e1
  rw [Addr.add_mid]
  exact e2
end Go.Proofs.Ytljbfnabnkkfeaa
