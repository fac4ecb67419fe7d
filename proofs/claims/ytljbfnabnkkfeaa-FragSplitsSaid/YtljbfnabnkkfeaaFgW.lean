/- Merged by program: FgZ1, FgX4, FgX5. -/
import Derived.Test.YtljbfnabnkkfeaaFgX

/- package frag: its functions, told of a table and what it stands for. -/
namespace Go.Proofs.Ytljbfnabnkkfeaa
open Go.RowKit
set_option linter.unusedVariables false
set_option linter.unusedSimpArgs false

/-- a table at block TB, which stands for a; besides it R -/
def TAB (w0 w : World) (TB : Nat) (a : AT) (R : List IT) : Prop := ∃ T : TM, T.TB = TB ∧ absT T = a ∧ TINV T ∧ DEADS T.gs ∧ SP w0 w (T.its ++ R)
section
variable {w0 w w' : World} {TB : Nat} {a : AT} {R R' L : List IT} {x : IT}
theorem TAB.right (H : TAB w0 w TB a R) : SP w0 w R := by obtain ⟨T, _, _, _, _, h⟩ := H; exact h.right
theorem TAB.next (H : TAB w0 w TB a R) (hb : Below w.heap.size w w') : TAB w0 w' TB a R := by obtain ⟨T, h1, h2, h3, h4, h⟩ := H; exact ⟨T, h1, h2, h3, h4, h.next hb⟩
theorem TAB.drewN (H : TAB w0 w TB a R) (m : Nat) : TAB w0 (w.drewN m) TB a R := by obtain ⟨T, h1, h2, h3, h4, h⟩ := H; exact ⟨T, h1, h2, h3, h4, h.drewN m⟩
theorem TAB.drew (H : TAB w0 w TB a R) : TAB w0 w.drew TB a R := by obtain ⟨T, h1, h2, h3, h4, h⟩ := H; exact ⟨T, h1, h2, h3, h4, h.drew⟩
theorem TAB.sub (H : TAB w0 w TB a R) (h : R'.Sublist R) : TAB w0 w TB a R' := by obtain ⟨T, h1, h2, h3, h4, h5⟩ := H; exact ⟨T, h1, h2, h3, h4, h5.sub (h.append_left _)⟩
theorem TAB.perm (H : TAB w0 w TB a R) (h : R.Perm R') : TAB w0 w TB a R' := by obtain ⟨T, h1, h2, h3, h4, h5⟩ := H; exact ⟨T, h1, h2, h3, h4, h5.perm (h.append_left _)⟩
theorem TAB.tail (H : TAB w0 w TB a (x :: R)) : TAB w0 w TB a R := H.sub (List.sublist_cons_self _ _)
theorem TAB.size (H : TAB w0 w TB a R) : w0.heap.size ≤ w.heap.size := H.right.size
theorem TAB.bel (H : TAB w0 w TB a R) : Below w0.heap.size w0 w := H.right.bel
theorem TAB.push {k : IntKind} {e : TypeId} {A : Option Addr} {n c : Nat} {zs : List Int} (H : TAB w0 w TB a R) (hb : Below w.heap.size w w') (hh : OWN k e w' w.heap.size A n c zs) : TAB w0 w' TB a (.own k e A n c zs :: R) := by
  obtain ⟨T, h1, h2, h3, h4, h5⟩ := H
  exact ⟨T, h1, h2, h3, h4, SP.backOf (A := T.its) (h5.pushOwn hb hh).rot⟩
theorem TAB.alloc (H : TAB w0 w TB a R) (t : TypeId) (cs : Array Value) {N : Nat} (hN : w.heap.size = N) : TAB w0 (w.alloc (.cells cs t)) TB a (.blk N t cs :: R) := by
  obtain ⟨T, h1, h2, h3, h4, h5⟩ := H
  exact ⟨T, h1, h2, h3, h4, SP.backOf (A := T.its) (h5.alloc' t cs hN).rot⟩
theorem TAB.allocI (H : TAB w0 w TB a R) (k : IntKind) (e : TypeId) (zs : List Int) (hm : zs.length ≤ maxLen) {N : Nat} (hN : w.heap.size = N) : TAB w0 (w.alloc (.cells (zs.map (Value.int k)).toArray e)) TB a (.own k e (some ⟨N, 0, none⟩) zs.length zs.length zs :: R) := by
  obtain ⟨T, h1, h2, h3, h4, h5⟩ := H
  exact ⟨T, h1, h2, h3, h4, SP.backOf (A := T.its) (h5.allocI' k e zs hm hN).rot⟩
/-- what a step among the other things makes of them -/
theorem TAB.lift (H : TAB w0 w TB a R) (hs : ∀ A : List IT, SP w0 w (A ++ R) → SP w0 w' (A ++ R')) : TAB w0 w' TB a R' := by
  obtain ⟨T, h1, h2, h3, h4, h5⟩ := H
  exact ⟨T, h1, h2, h3, h4, hs _ h5⟩

theorem tnew (limit life : Int) (H : SP w0 w L) (h1 : 1 ≤ limit ∧ limit ≤ 64) (h2 : 1 ≤ life ∧ life ≤ 16777215) :
    Calls Try.prog 15 #[.int .i64 limit, .int .i64 life] w fun e w' => ∃ TB, e = .returned (.tuple #[.pointer (some ⟨TB, 0, none⟩), .int .i64 0]) ∧ TAB w0 w' TB ⟨limit, life, 0, []⟩ L := by
  refine (new_yes limit life H h1 h2).mono ?_
  rintro e w' ⟨TB, M, rfl, h⟩
  exact ⟨TB, rfl, newT TB M limit life, rfl, rfl, newT_inv TB M limit life h1 h2, (fun g hg => by cases hg), h⟩
theorem ttick (H : TAB w0 w TB a R) (now : Int) : Calls Try.prog 20 #[.pointer (some ⟨TB, 0, none⟩), .int .i64 now] w fun e w' => e = .returned (.int .i64 (tickA a now).2) ∧ TAB w0 w' TB (tickA a now).1 R := by
  obtain ⟨T, rfl, rfl, hi, hd, h⟩ := H
  refine (tick_any h hi now).mono ?_
  rintro e w' (⟨h1, rfl, h2⟩ | ⟨h1, rfl, T', e1, e2, e3, e4, e5, e6, e7⟩)
  · have : lateA (absT T) now = true := h1
    unfold tickA
    rw [this]
    exact ⟨rfl, T, rfl, rfl, hi, hd, h2⟩
  · have : lateA (absT T) now = false := h1
    unfold tickA
    rw [this]
    exact ⟨rfl, T', e1, pass_abs e2 e3 e4 e5, e6, by rw [e5]; exact hd.sub (List.dropWhile_sublist _), e7⟩
theorem tnow (H : TAB w0 w TB a R) : Calls Try.prog 19 #[.pointer (some ⟨TB, 0, none⟩)] w fun e w' => e = .returned (.int .i64 a.now) ∧ w' = w := by
  obtain ⟨T, rfl, rfl, hi, hd, h⟩ := H
  exact now_any h hi
theorem tput (H : TAB w0 w TB a R) (A : Option Addr) (n c : Nat) (zs : List Int) (now : Int) (rd : ∀ W, SP w0 W R → RD .u8 W W.heap.size A n zs) (hz : BD 255 zs) (hnc : n ≤ c) (hn : n ≤ 140737488351232) :
    Calls Try.prog 16 #[.pointer (some ⟨TB, 0, none⟩), .int .i64 now, .slice A n c] w fun e w' => ∃ A' n' c', e = .returned (.tuple #[.slice A' n' c', .int .i64 (putA a now zs).2.2]) ∧ (putA a now zs).2.1.length = n' ∧ TAB w0 w' TB (putA a now zs).1 (.own .u8 5 A' n' c' (putA a now zs).2.1 :: R) := by
  obtain ⟨T, rfl, rfl, hi, hd, h⟩ := H
  refine (fput_any T A n c zs now h hi hd rd hz hnc hn).mono ?_
  rintro e w' ⟨A', n', c', T', rfl, h1, h2, h3, h4, h5⟩
  have hl := (h5.own 0 rfl).len
  exact ⟨A', n', c', rfl, hl, T', h1, h2, h3, h4, SP.backOf (A := T'.its) h5⟩
theorem tputs (H : TAB w0 w TB a R) (now : Int) (LA : Option Addr) (ln lc : Nat) (G : List (SD × List Int)) (OA : Option Addr) (on oc : Nat) (σ : List Nat) (hl : ln = G.length) (hl2 : ln ≤ 100000)
    (hP : ∀ W, SP w0 W R → PKS W LA G) (hO : ∀ W, SP w0 W R → RD .i64 W W.heap.size OA on (σ.map (fun (i : Nat) => (i : Int)))) (hσ : ∀ i ∈ σ, i < G.length) (hon : on ≤ 100000) :
    Calls Try.prog 26 #[.pointer (some ⟨TB, 0, none⟩), .int .i64 now, .slice LA ln lc, .slice OA on oc] w fun e w' => ∃ A' n' c', e = .returned (.tuple #[.slice A' n' c', .bool (putsA a now [] (σ.map (gat G))).2.2]) ∧ (putsA a now [] (σ.map (gat G))).2.1.length = n' ∧ TAB w0 w' TB (putsA a now [] (σ.map (gat G))).1 (.own .u8 5 A' n' c' (putsA a now [] (σ.map (gat G))).2.1 :: R) := by
  obtain ⟨T, rfl, rfl, hi, hd, h⟩ := H
  refine (puts_any T now LA ln lc G OA on oc σ h hi hd hl hl2 hP hO hσ hon).mono ?_
  rintro e w' ⟨A', n', c', T', rfl, h1, h2, h3, h4, h5⟩
  have hl := (h5.own 0 rfl).len
  exact ⟨A', n', c', rfl, hl, T', h1, h2, h3, h4, SP.backOf (A := T'.its) h5⟩
theorem tgroups (H : TAB w0 w TB a R) : Calls Try.prog 18 #[.pointer (some ⟨TB, 0, none⟩)] w fun e w' => ∃ A c, e = .returned (.slice A a.gs.length c) ∧ TAB w0 w' TB a (.row 47 7 A a.gs.length c (GVS a.gs) :: R) := by
  obtain ⟨T, rfl, rfl, hi, hd, h⟩ := H
  refine (groups_any T h hi).mono ?_
  rintro e w' ⟨A, c, rfl, h1⟩
  have e1 : (absT T).gs.length = T.gs.length := by show (T.gs.map absG).length = _; rw [List.length_map]
  have e2 : GVS (absT T).gs = GVS (T.gs.map GM.a) := GVS_abs T.gs hd
  rw [e1, e2]
  exact ⟨A, c, rfl, T, rfl, rfl, hi, hd, SP.backOf (A := T.its) h1⟩
/-- a row of slices, and the slices, are packets -/
theorem pks_row {W : World} {LA : Option Addr} {n c : Nat} {G : List (SD × List Int)} (H : SP w0 W R) (hr : .row 23 1 LA n c (G.map gV) ∈ R) (hG : ∀ g ∈ G, gIT g ∈ R) (hb : ∀ g ∈ G, BD 255 g.2) (hlen : ∀ g ∈ G, g.2.length ≤ 100000) : PKS W LA G := by
  intro i g hg
  have hm := List.mem_of_getElem? hg
  have h1 : W.ownsRow w0.heap.size 23 1 (.slice LA n c) n (G.map gV) := H.mem _ hr
  have h2 : OWN .u8 5 W w0.heap.size g.1.A g.1.n g.1.c g.2 := H.mem _ (hG g hm)
  have hgv : (G.map gV)[i]? = some g.1.val := by rw [List.getElem?_map, hg]; rfl
  have hn : n = G.length := by have := h1.1; simp at this; omega
  have hi : i < n := by rw [hn]; exact (List.getElem?_eq_some_iff.1 hg).1
  refine ⟨?_, h2.rd, hb g hm, h2.le.1, by have := h2.len; have := hlen g hm; omega⟩
  rcases h1.2 with ⟨_, h3⟩ | ⟨b, cap, cur, h3, _⟩
  · omega
  · simp at h3
    obtain ⟨rfl, rfl⟩ := h3
    refine ⟨b, 0, rfl, ?_⟩
    rw [Nat.zero_add, World.ownsRow.cellAt h1 i (by omega)]
    exact hgv
theorem tsplit (A : Option Addr) (n c : Nat) (zs : List Int) (size : Int) (H0 : SP w0 w L) (rd : ∀ W, SP w0 W L → RD .u8 W W.heap.size A n zs) (hz : BD 255 zs) (hnc : n ≤ c) (hn : n ≤ 140737488351232) (hsz : size ≤ 9223372036854775807) (hsz0 : -9223372036854775808 ≤ size) :
    Calls Try.prog 14 #[.slice A n c, .int .i64 size] w fun e w' => ∃ (A : Option Addr) (n c : Nat) (G : List (SD × List Int)), e = .returned (.tuple #[.slice A n c, .int .i64 (splitA zs size).2]) ∧ G.length = n ∧ G.map (·.2) = (splitA zs size).1 ∧ SP w0 w' (.row 23 1 A n c (G.map gV) :: (G.map gIT ++ L)) := by
  refine (split_any A n c zs size H0 rd hz hnc hn hsz hsz0).mono ?_
  rintro e w' ⟨A, c, G, rfl, h1, h2⟩
  exact ⟨A, G.length, c, G, rfl, rfl, h1, h2⟩
end
end Go.Proofs.Ytljbfnabnkkfeaa

/- bafflelaw07.awake, plain: what the examples compute. -/
namespace Go.Proofs.Ytljbfnabnkkfeaa
open Go.RowKit
set_option linter.unusedVariables false
set_option linter.unusedSimpArgs false
set_option maxRecDepth 100000

def P70 : List Int := bytesF (pieceF ⟨EX7h, [], EX7d⟩ 8 0)
def P71 : List Int := bytesF (pieceF ⟨EX7h, [], EX7d⟩ 8 1)
def P72 : List Int := bytesF (pieceF ⟨EX7h, [], EX7d⟩ 8 2)
def A7 : AT := ⟨2, 10, 0, []⟩
theorem ex7_split : splitA EX7 8 = ([P70, P71, P72], 0) := by decide
theorem ex7_bd : BD 255 EX7 := bd_all (by decide)
theorem p70_bd : BD 255 P70 := bd_all (by decide)
theorem p71_bd : BD 255 P71 := bd_all (by decide)
theorem p72_bd : BD 255 P72 := bd_all (by decide)
def W70 : AT := (putA A7 5 P72).1
def W71 : AT := (putA W70 6 P70).1
def W72 : AT := (putA W71 7 P71).1
theorem w70_out : (putA A7 5 P72).2 = ([], 0) := by decide
theorem w71_out : (putA W70 6 P70).2 = ([], 0) := by decide
theorem w72_out : (putA W71 7 P71).2 = (EX7, 0) := by decide
def W73 : AT := (putA W70 15 P71).1
theorem w73_out : (putA W70 15 P71).2 = ([], 0) := by decide
theorem w73_len : W73.gs.length = 1 := by decide
theorem w73_gs : GVS W73.gs = [.int .u32 167772161, .int .u32 167772162, .int .u8 17, .int .u16 9, .int .i64 15, .int .i64 8, .bool false] := by kernel_rfl
def W74 : AT := (putA A7 0 P70).1
theorem w74_out : (putA A7 0 P70).2 = ([], 0) := by decide
def W75 : AT := (putA W74 1 P70).1
theorem w75_out : (putA W74 1 P70).2 = ([], 71) := by decide
theorem w76_out : putA W75 1 P71 = (W75, [], 71) := by kernel_rfl
theorem w77_out : putA W75 1 P72 = (W75, [], 71) := by kernel_rfl
theorem w78_out : (tickA W75 10).2 = 0 ∧ (tickA W75 10).1.gs.length = 0 := by decide
end Go.Proofs.Ytljbfnabnkkfeaa

/- bafflelaw07.awake returns true. (Printed by fgx5.py.) -/
namespace Go.Proofs.Ytljbfnabnkkfeaa
open Go.RowKit
set_option linter.unusedVariables false
set_option linter.unusedSimpArgs false

theorem three {α β : Type} {G : List (α × β)} {x y z : β} (h : G.map (·.2) = [x, y, z]) : ∃ a b c, G = [(a, x), (b, y), (c, z)] := by
  match G, h with
  | [(a, x'), (b, y'), (c, z')], h =>
    simp at h
    obtain ⟨rfl, rfl, rfl⟩ := h
    exact ⟨a, b, c, rfl⟩
theorem row_head {w : World} {base : Nat} {e : TypeId} {A : Option Addr} {n c m : Nat} {vs : List Value} (h : w.ownsRow base e m (.slice A n c) n vs) (hn : 0 < n) : ∃ g, A = some ⟨g, 0, none⟩ ∧ ∀ i, i < n * m → w.cell? ⟨g, i, none⟩ = vs[i]? := by
  rcases h.2 with ⟨_, h2⟩ | ⟨g, cap, cur, h1, _⟩
  · omega
  · simp at h1
    obtain ⟨rfl, rfl⟩ := h1
    exact ⟨g, rfl, fun i hi => World.ownsRow.cellAt h i hi⟩
set_option maxHeartbeats 8000000 in
set_option maxRecDepth 100000 in
theorem awake7_any (w : World) : Calls Try.prog 11 #[] w fun e w' => e = .returned (.bool true) ∧ Below w.heap.size w w' := by
  have hx2 := fun W => ex7_any W
  have HEX := Lib.hid hx2
  clear hx2
  go_enter Try.func11, Try.ntmps11
  go_wp2_with fail
  refine (HEX.out _).mono ?_
  rintro e w1 ⟨Ae, ne, ce, rfl, ho, hb⟩
  have X1 := Lib.hid ((SP.start w).pushOwn hb ho)
  have hne : ne = 40 := by have := ho.len; rw [← this]; rfl
  have hle := ho.le
  subst hne
  clear ho hb
  go_wp2_with fail
  refine (tsplit Ae 40 ce EX7 8 X1.out (fun W hS => hS.rd 0 rfl) ex7_bd hle.1 (by omega) (by omega) (by omega)).mono ?_
  rintro e w2 ⟨Al, nl, cl, G, rfl, hnl, hG, hS⟩
  rw [ex7_split] at hG ⊢
  obtain ⟨⟨A0, n0, c0⟩, ⟨A1, n1, c1⟩, ⟨A2, n2, c2⟩, rfl⟩ := three hG
  have hnl3 : nl = 3 := by rw [← hnl]; rfl
  subst hnl3
  have hn2 : n2 = 24 := by have h1 : P72.length = n2 := (hS.own 3 rfl).len; rw [← h1]; rfl
  have hn0 : n0 = 28 := by have h1 : P70.length = n0 := (hS.own 1 rfl).len; rw [← h1]; rfl
  have hn1 : n1 = 28 := by have h1 : P71.length = n1 := (hS.own 2 rfl).len; rw [← h1]; rfl
  subst hn2 hn0 hn1
  obtain ⟨k0, _⟩ := (hS.own 1 rfl).le
  obtain ⟨k1, _⟩ := (hS.own 2 rfl).le
  obtain ⟨k2, _⟩ := (hS.own 3 rfl).le
  obtain ⟨lg, hlg, _⟩ := row_head (hS.row 0 rfl) (by omega)
  subst hlg
  have X2 := Lib.hid (show SP w w2 [.row 23 1 (some ⟨lg, 0, none⟩) 3 cl [.slice A0 28 c0, .slice A1 28 c1, .slice A2 24 c2], .own .u8 5 A0 28 c0 P70, .own .u8 5 A1 28 c1 P71, .own .u8 5 A2 24 c2 P72, .own .u8 5 Ae 40 ce EX7] from hS)
  clear hS hG X1 hnl
  have RF := Lib.hid (fun (W : World) (hs : SP w W [.row 23 1 (some ⟨lg, 0, none⟩) 3 cl [.slice A0 28 c0, .slice A1 28 c1, .slice A2 24 c2], .own .u8 5 A0 28 c0 P70, .own .u8 5 A1 28 c1 P71, .own .u8 5 A2 24 c2 P72, .own .u8 5 Ae 40 ce EX7]) => (show (W.cell? ⟨lg, 0, none⟩ = some (.slice A0 28 c0) ∧ W.cell? ⟨lg, 1, none⟩ = some (.slice A1 28 c1) ∧ W.cell? ⟨lg, 2, none⟩ = some (.slice A2 24 c2)) ∧ RD .u8 W W.heap.size A0 28 P70 ∧ RD .u8 W W.heap.size A1 28 P71 ∧ RD .u8 W W.heap.size A2 24 P72 ∧ RD .u8 W W.heap.size Ae 40 EX7 from by
    obtain ⟨g, hg, hc⟩ := row_head (hs.row 0 rfl) (by omega)
    cases hg
    exact ⟨⟨hc 0 (by omega), hc 1 (by omega), hc 2 (by omega)⟩, hs.rd 1 rfl, hs.rd 2 rfl, hs.rd 3 rfl, hs.rd 4 rfl⟩))
  generalize hR0 : ([.row 23 1 (some ⟨lg, 0, none⟩) 3 cl [.slice A0 28 c0, .slice A1 28 c1, .slice A2 24 c2], .own .u8 5 A0 28 c0 P70, .own .u8 5 A1 28 c1 P71, .own .u8 5 A2 24 c2 P72, .own .u8 5 Ae 40 ce EX7] : List IT) = R0 at X2 RF
  clear hR0
  go_wp2_with fail
  refine (tnew 2 10 X2.out ⟨by omega, by omega⟩ ⟨by omega, by omega⟩).mono ?_
  rintro e w3 ⟨TB, rfl, hT⟩
  have X3 := Lib.hid hT
  clear hT X2
  obtain ⟨r0, r1, r2⟩ := (RF.out w3 X3.out.right).1
  obtain ⟨LB, hLB⟩ : ∃ b, w3.heap.size = b := ⟨_, rfl⟩
  have X4 := Lib.hid (X3.out.allocI .i64 3 [2, 0, 1] (by decide) hLB)
  go_upto_region 6 with fail
  try rw [hLB]
  replace X4 := X4.out
  rw [show (([2, 0, 1] : List Int).map (Value.int .i64)).toArray = #[.int .i64 2, .int .i64 0, .int .i64 1] from rfl] at X4
  generalize hw4 : w3.alloc (.cells #[.int .i64 2, .int .i64 0, .int .i64 1] 3) = w4 at X4 ⊢
  clear hw4 hLB r0 r1 r2 X3
  replace X4 := Lib.hid X4
  go_loopw [5, 6, 7, 8, 45] (fun _ _ _ _ s45 wr => ∃ (k : Nat) (a : AT), k ≤ 3 ∧ s45 = .int .i64 (k : Int) ∧ a = (if k = 0 then A7 else if k = 1 then W70 else if k = 2 then W71 else W72) ∧ TAB w wr TB a (.own .i64 3 (some ⟨LB, 0, none⟩) 3 3 [2, 0, 1] :: R0)) (fun _ _ _ _ s45 _ => 3 - (intOf s45).toNat)
  case atStart => exact ⟨0, A7, by omega, rfl, rfl, X4.out⟩
  case round =>
    obtain ⟨k, a, hk, rfl, ha, Y0⟩ := hrel
    have Y := Lib.hid Y0
    clear Y0 X4
    obtain ⟨r0, r1, r2⟩ := (RF.out wr Y.out.right.tail).1
    obtain ⟨_, _, hlb, _, hlc⟩ := (Y.out.right.rd 0 rfl).2 (by omega)
    cases hlb
    have hc0 := hlc 0 (by omega)
    have hc1 := hlc 1 (by omega)
    have hc2 := hlc 2 (by omega)
    replace hc0 : wr.cell? ⟨LB, 0, none⟩ = some (.int .i64 2) := hc0
    replace hc1 : wr.cell? ⟨LB, 1, none⟩ = some (.int .i64 0) := hc1
    replace hc2 : wr.cell? ⟨LB, 2, none⟩ = some (.int .i64 1) := hc2
    clear hlc
    have hk4 : k = 0 ∨ k = 1 ∨ k = 2 ∨ k = 3 := by omega
    rcases hk4 with rfl | rfl | rfl | rfl
    · subst ha
      clear hk
      have Z := Lib.hid (show TAB w wr TB A7 _ from Y.out)
      clear Y
      go_wp2_with fail
      refine (tput Z.out A2 24 c2 P72 5 (fun W hS => (RF.out W hS.tail).2.2.2.1) p72_bd (by omega) (by omega)).mono ?_
      rintro e w5 ⟨B5, m5, d5, rfl, hm5, hT⟩
      rw [show putA A7 5 P72 = (W70, [], 0) from Prod.ext rfl w70_out] at hT hm5 ⊢
      replace hm5 : (0 : Nat) = m5 := hm5
      subst hm5
      clear r0 r1 r2 hc0 hc1 hc2 Z
      have Z := Lib.hid hT
      clear hT
      go_wp2_with fail
      go_roundw
      case rel => exact ⟨1, W70, by omega, rfl, rfl, Z.out.tail⟩
      case measure => simp [intOf]
    · subst ha
      clear hk
      have Z := Lib.hid (show TAB w wr TB W70 _ from Y.out)
      clear Y
      go_wp2_with fail
      refine (tput Z.out A0 28 c0 P70 6 (fun W hS => (RF.out W hS.tail).2.1) p70_bd (by omega) (by omega)).mono ?_
      rintro e w5 ⟨B5, m5, d5, rfl, hm5, hT⟩
      rw [show putA W70 6 P70 = (W71, [], 0) from Prod.ext rfl w71_out] at hT hm5 ⊢
      replace hm5 : (0 : Nat) = m5 := hm5
      subst hm5
      clear r0 r1 r2 hc0 hc1 hc2 Z
      have Z := Lib.hid hT
      clear hT
      go_wp2_with fail
      go_roundw
      case rel => exact ⟨2, W71, by omega, rfl, rfl, Z.out.tail⟩
      case measure => simp [intOf]
    · subst ha
      clear hk
      have Z := Lib.hid (show TAB w wr TB W71 _ from Y.out)
      clear Y
      go_wp2_with fail
      refine (tput Z.out A1 28 c1 P71 7 (fun W hS => (RF.out W hS.tail).2.2.1) p71_bd (by omega) (by omega)).mono ?_
      rintro e w5 ⟨B5, m5, d5, rfl, hm5, hT⟩
      rw [show putA W71 7 P71 = (W72, EX7, 0) from Prod.ext rfl w72_out] at hT hm5 ⊢
      have hm40 : m5 = 40 := by rw [← hm5]; rfl
      subst hm40
      clear hm5
      clear r0 r1 r2 hc0 hc1 hc2 Z
      have Z := Lib.hid hT
      clear hT
      go_wp2_with fail
      refine (HEX.out _).mono ?_
      rintro e w6 ⟨A6, n6, c6, rfl, ho, hb⟩
      have hn6 : n6 = 40 := by have := ho.len; rw [← this]; rfl
      subst hn6
      have V := Lib.hid (Z.out.push hb ho)
      clear Z ho hb
      go_wp2_with fail
      refine (same_any B5 A6 40 d5 40 c6 EX7 EX7 _ (V.out.right.rd 1 rfl) (V.out.right.rd 0 rfl) (by omega) (by omega)).mono ?_
      rintro e w7 ⟨rfl, q7, rfl⟩
      have Z := Lib.hid (V.out.tail.drewN q7)
      clear V
      rw [show (EX7 == EX7) = true from by decide]
      go_wp2_with fail
      go_roundw
      case rel => exact ⟨3, W72, by omega, rfl, rfl, Z.out.tail⟩
      case measure => simp [intOf]
    · clear hc0 hc1 hc2 r0 r1 r2
      have Z := Lib.hid Y.out.tail
      clear Y ha hk
      go_wp2_with fail
      -- New
      refine (tnew 2 10 Z.out.right ⟨by omega, by omega⟩ ⟨by omega, by omega⟩).mono ?_
      rintro e w5 ⟨TB2, rfl, hT⟩
      have X5 := Lib.hid hT
      clear hT Z
      obtain ⟨r0, r1, r2⟩ := (RF.out w5 X5.out.right).1
      go_wp2_with fail
      refine (tput X5.out A2 24 c2 P72 5 (fun W hS => (RF.out W hS).2.2.2.1) p72_bd (by omega) (by omega)).mono ?_
      rintro e w6 ⟨B6, m6, d6, rfl, _, hT⟩
      rw [show putA (⟨2, 10, 0, []⟩ : AT) 5 P72 = (W70, [], 0) from Prod.ext rfl w70_out] at hT ⊢
      have X6 := Lib.hid hT.tail
      clear hT X5 r0 r1 r2
      obtain ⟨r0, r1, r2⟩ := (RF.out w6 X6.out.right).1
      go_wp2_with fail
      refine (tput X6.out A1 28 c1 P71 15 (fun W hS => (RF.out W hS).2.2.1) p71_bd (by omega) (by omega)).mono ?_
      rintro e w7 ⟨B7, m7, d7, rfl, hm7, hT⟩
      rw [show putA W70 15 P71 = (W73, [], 0) from Prod.ext rfl w73_out] at hT hm7 ⊢
      replace hm7 : (0 : Nat) = m7 := hm7
      subst hm7
      have X7 := Lib.hid hT.tail
      clear hT X6 r0 r1 r2
      go_wp2_with fail
      refine (tgroups X7.out).mono ?_
      rintro e w8 ⟨GA, gc, rfl, hT⟩
      rw [w73_gs, w73_len] at hT
      rw [w73_len]
      obtain ⟨gg, hgg, hgc⟩ := row_head (hT.right.row 0 rfl) (by omega)
      subst hgg
      have gc4 : w8.cell? ⟨gg, 4, none⟩ = some (.int .i64 15) := hgc 4 (by omega)
      have gc5 : w8.cell? ⟨gg, 5, none⟩ = some (.int .i64 8) := hgc 5 (by omega)
      have X8 := Lib.hid hT.tail
      clear hT X7 hgc
      go_wp2_with fail
      refine (tnew 2 10 X8.out.right ⟨by omega, by omega⟩ ⟨by omega, by omega⟩).mono ?_
      rintro e w9 ⟨TB3, rfl, hT⟩
      have X9 := Lib.hid hT
      clear hT X8 gc4 gc5
      obtain ⟨r0, r1, r2⟩ := (RF.out w9 X9.out.right).1
      go_wp2_with fail
      refine (tput X9.out A0 28 c0 P70 0 (fun W hS => (RF.out W hS).2.1) p70_bd (by omega) (by omega)).mono ?_
      rintro e wa ⟨Ba, ma, da, rfl, _, hT⟩
      rw [show putA (⟨2, 10, 0, []⟩ : AT) 0 P70 = (W74, [], 0) from Prod.ext rfl w74_out] at hT ⊢
      have Xa := Lib.hid hT.tail
      clear hT X9 r0 r1 r2
      obtain ⟨r0, r1, r2⟩ := (RF.out wa Xa.out.right).1
      go_upto_region 20 with fail
      go_region_held3 (fun W => W.cell? ⟨lg, 0, none⟩ = some (.slice A0 28 c0) ∧ W.cell? ⟨lg, 1, none⟩ = some (.slice A1 28 c1) ∧ W.cell? ⟨lg, 2, none⟩ = some (.slice A2 24 c2)) (first | exact ⟨r0, r1, r2⟩ | go_keep) (fail)
      obtain ⟨MB, hMB⟩ : ∃ b, wa.heap.size = b := ⟨_, rfl⟩
      have Xb := Lib.hid (Xa.out.alloc 23 #[.slice A0 28 c0, .slice A1 28 c1, .slice A2 24 c2] (N := MB) hMB).drew
      try rw [hMB]
      generalize hwb : (wa.alloc (.cells #[.slice A0 28 c0, .slice A1 28 c1, .slice A2 24 c2] 23)).drew = wb at Xb ⊢
      clear hwb hMB r0 r1 r2 Xa
      go_upto_region 21 with fail
      go_loopw [15, 16, 17, 156] (fun _ _ _ s156 wr => ∃ (k : Nat) (a : AT), k ≤ 3 ∧ s156 = .int .i64 (k : Int) ∧ a = (if k = 0 then W74 else W75) ∧ TAB w wr TB3 a (.blk MB 23 #[.slice A0 28 c0, .slice A1 28 c1, .slice A2 24 c2] :: R0)) (fun _ _ _ s156 _ => 3 - (intOf s156).toNat)
      case atStart => exact ⟨0, W74, by omega, rfl, rfl, Xb.out⟩
      case round =>
        obtain ⟨k, a, hk, rfl, ha, Y0⟩ := hrel
        have Y := Lib.hid Y0
        clear Y0 Xb
        have r0 : wr.cell? ⟨MB, 0, none⟩ = some (.slice A0 28 c0) := Y.out.right.cell 0 rfl 0 rfl
        have r1 : wr.cell? ⟨MB, 1, none⟩ = some (.slice A1 28 c1) := Y.out.right.cell 0 rfl 1 rfl
        have r2 : wr.cell? ⟨MB, 2, none⟩ = some (.slice A2 24 c2) := Y.out.right.cell 0 rfl 2 rfl
        have hk4 : k = 0 ∨ k = 1 ∨ k = 2 ∨ k = 3 := by omega
        rcases hk4 with rfl | rfl | rfl | rfl
        · subst ha
          clear hk
          have Z := Lib.hid (show TAB w wr TB3 W74 _ from Y.out)
          clear Y
          go_wp2_with fail
          refine (tput Z.out A0 28 c0 P70 1 (fun W hS => (RF.out W hS.tail).2.1) p70_bd (by omega) (by omega)).mono ?_
          rintro e wd ⟨B5, m5, d5, rfl, hm5, hT⟩
          rw [show putA W74 1 P70 = (W75, [], 71) from Prod.ext rfl w75_out] at hT hm5 ⊢
          clear r0 r1 r2 Z hm5
          have Z := Lib.hid hT.tail
          clear hT
          go_wp2_with fail
          go_roundw
          case rel => exact ⟨1, W75, by omega, rfl, rfl, Z.out⟩
          case measure => simp [intOf]
        · subst ha
          clear hk
          have Z := Lib.hid (show TAB w wr TB3 W75 _ from Y.out)
          clear Y
          go_wp2_with fail
          refine (tput Z.out A1 28 c1 P71 1 (fun W hS => (RF.out W hS.tail).2.2.1) p71_bd (by omega) (by omega)).mono ?_
          rintro e wd ⟨B5, m5, d5, rfl, hm5, hT⟩
          rw [show putA W75 1 P71 = (W75, [], 71) from w76_out] at hT hm5 ⊢
          clear r0 r1 r2 Z hm5
          have Z := Lib.hid hT.tail
          clear hT
          go_wp2_with fail
          go_roundw
          case rel => exact ⟨2, W75, by omega, rfl, rfl, Z.out⟩
          case measure => simp [intOf]
        · subst ha
          clear hk
          have Z := Lib.hid (show TAB w wr TB3 W75 _ from Y.out)
          clear Y
          go_wp2_with fail
          refine (tput Z.out A2 24 c2 P72 1 (fun W hS => (RF.out W hS.tail).2.2.2.1) p72_bd (by omega) (by omega)).mono ?_
          rintro e wd ⟨B5, m5, d5, rfl, hm5, hT⟩
          rw [show putA W75 1 P72 = (W75, [], 71) from w77_out] at hT hm5 ⊢
          clear r0 r1 r2 Z hm5
          have Z := Lib.hid hT.tail
          clear hT
          go_wp2_with fail
          go_roundw
          case rel => exact ⟨3, W75, by omega, rfl, rfl, Z.out⟩
          case measure => simp [intOf]
        · clear r0 r1 r2
          have Z := Lib.hid (show TAB w wr TB3 W75 R0 from by rw [ha] at Y; exact Y.out.tail)
          clear Y ha hk
          go_wp2_with fail
          refine (ttick Z.out 10).mono ?_
          rintro e wd ⟨rfl, hT⟩
          rw [w78_out.1]
          have Zt := Lib.hid hT
          clear hT Z
          go_wp2_with fail
          refine (tgroups Zt.out).mono ?_
          rintro e wf ⟨GA, gc, rfl, hT⟩
          have hgl : (tickA W75 10).1.gs.length = 0 := w78_out.2
          rw [hgl]
          have Zf := Lib.hid hT.bel
          clear hT hgl Zt
          go_wp2_with fail
          go_ret
          exact ⟨rfl, Zf.out⟩
end Go.Proofs.Ytljbfnabnkkfeaa
