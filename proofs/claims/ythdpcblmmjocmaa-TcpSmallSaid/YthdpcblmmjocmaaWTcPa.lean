import Derived.Test.YthdpcblmmjocmaaWTcP5
import Derived.Test.YthdpcblmmjocmaaWTcOpt
import Derived.Test.YthdpcblmmjocmaaWMapF
import Derived.Sort.CutIn
/- package tcp: Parse. (Printed by gen_tcparse.py.) -/
namespace Go.Proofs.Ythdpcblmmjocmaa
open Go.RowKit Go.Shelf
set_option linter.unusedVariables false
attribute [local go_sem] Oper.semAt_some

set_option maxHeartbeats 2000000 in
set_option maxRecDepth 100000 in
theorem options_any (A : Option Addr) (n c : Nat) (w : World) :
    Calls Try.prog 58 #[.slice A n c] w fun e w' => e = .returned (.func (.func 69) #[] #[.pointer (some ⟨w.heap.size, 0, none⟩)]) ∧ w' = w.alloc (.cells #[.slice A n c] 22) := by
  go_enter Try.func58, Try.ntmps58
  go_wp2_with fail
  go_ret
  exact ⟨rfl, rfl⟩
theorem run_loadVar_cell {P : Program} {w : World} {t : TypeId} {a : Addr} {v : Value} {k : IntKind} (hu : P.underlying t = some (.int k)) (h : w.cell? a = some v) : (loadVar t a).run P w = .ok v w := by
  have hi : (isAgg t).run P w = .ok false w := by simp [isAgg, run_underlying hu]
  simp [loadVar, hi, load, Sem.run, h]
theorem results_cells {P : Program} {fn : Func} {p q : Tmp} {ty tq : TypeId} (h : fn.results = #[.cell p ty, .cell q tq]) (tmps : Array Value) (w : World) (g g2 : Nat) (t : TypeId) (cs : Array Value) (fr : Nat × Nat) (d : TypeDesc) {k : IntKind} {v : Value}
    (hp : tmps.getD p undef = .pointer (some ⟨g, 0, none⟩)) (hq : tmps.getD q undef = .pointer (some ⟨g2, 0, none⟩)) (hg : w.heap[g]? = some (.cells cs t fr))
    (hu : P.underlying ty = some d) (hd : (match d with | .struct _ | .array _ _ => true | _ => false) = true) (hi : (P.info? ty).map (·.size) = some cs.size)
    (hv : P.underlying tq = some (.int k)) (hc : w.cell? ⟨g2, 0, none⟩ = some v) :
    (results fn tmps).run P w = .ok (.tuple #[.agg cs, v]) w := by
  have hp' : tmps[p]?.getD undef = .pointer (some ⟨g, 0, none⟩) := by simpa using hp
  have hq' : tmps[q]?.getD undef = .pointer (some ⟨g2, 0, none⟩) := by simpa using hq
  simp [results, h, hp', hq', asAddr, run_loadVar_row w g t ty cs fr d hg hu hd hi, run_loadVar_cell hv hc]
theorem nameL {P : Program} {ops : Array Oper} {Q : Exit → Act → World → Prop} {rest : List Oper} {a : Act} {W : World} (h : ∀ W', W' = W → wpList P ops Q rest a W') : wpList P ops Q rest a W := h W rfl

/-- the functions for the known kinds -/
def TAKES (K : Nat) : Array MapEntry := #[{ key := .int .u8 2, val := .func (.func 53) #[] #[.pointer (some ⟨K, 0, none⟩)], born := 0 }, { key := .int .u8 3, val := .func (.func 54) #[] #[.pointer (some ⟨K, 0, none⟩)], born := 1 }, { key := .int .u8 4, val := .func (.func 55) #[] #[.pointer (some ⟨K, 0, none⟩)], born := 2 }, { key := .int .u8 8, val := .func (.func 56) #[] #[.pointer (some ⟨K, 0, none⟩)], born := 3 }, { key := .int .u8 5, val := .func (.func 57) #[] #[.pointer (some ⟨K, 0, none⟩)], born := 4 }]


/-- what Parse owns within its loop -/
def PL (N K M P5 Bn D : Nat) (k : KN) (Ab : Option Addr) (nb cb : Nat) (A : Option Addr) (n c : Nat) (o : Obj) : List IT :=
  [.blk N 32 (KNC knZ none 0 0), .blk (N + 1) 38 #[.int .i64 0], .blk K 32 (KNC k Ab nb cb), .obj M (.map (TAKES K) 5), .blk P5 97 #[.map (some M)], .blk Bn 22 #[.slice A n c], .obj D (.deferred (some [])), .obj (D + 1) o, .row 93 2 Ab nb cb (prs k.bl)]
/-- between two rounds -/
structure PJ (w : World) (zs0 : List Int) (N K M P5 Bn D : Nat) (o : Obj) (A : Option Addr) (n c : Nat) (zs : List Int) (W : World) : Prop where
  rd : RD .u8 w w.heap.size A n zs
  bd : BD 255 zs
  nc : n ≤ c
  cm : c ≤ maxLen
  ex : ∃ (k : KN) (Ab : Option Addr) (nb cb f : Nat), nb = k.bl.length ∧ zs.length ≤ f ∧ parseF f zs k = parseF zs0.length zs0 kn0 ∧ SP w W (PL N K M P5 Bn D k Ab nb cb A n c o)
/-- a round has found an error -/
def PX (w : World) (zs0 : List Int) (N D : Nat) (o : Obj) (W : World) : Prop :=
  parseF zs0.length zs0 kn0 = none ∧ SP w W [.blk N 32 (KNC knZ none 0 0), .blk (N + 1) 38 #[.int .i64 84], .obj D (.deferred (some [])), .obj (D + 1) o]

/-- what a known kind leaves -/
def TK (kind : Int) (zs : List Int) (k : KN) (w0 : World) (L : List IT) (K : Nat) (e : Ending) (w' : World) : Prop :=
  ∃ b k' A n c bl, e = .returned (.bool b) ∧ SP w0 w' ((L.set 2 (.blk K 32 (KNC k' A n c))).set 8 (.row 93 2 A n c (prs bl))) ∧ (b = true → take1 kind zs k = some k' ∧ bl = k'.bl ∧ n = bl.length) ∧ (b = false → take1 kind zs k = none)
theorem take1_bl {kind : Int} {c : List Int} {k k' : KN} (hk : kind ≠ 5) (h : take1 kind c k = some k') : k'.bl = k.bl := by
  unfold take1 at h
  rw [if_neg hk] at h
  repeat' (split at h)
  all_goals (first | (simp at h; done) | (simp only [Option.some.injEq] at h; subst h; rfl))
theorem findNot {K : Nat} {y : Int} (h2 : y ≠ 2) (h3 : y ≠ 3) (h4 : y ≠ 4) (h8 : y ≠ 8) (h5 : y ≠ 5) : Instr.findNow (.int .u8) (.int .u8 y) (TAKES K).toList 0 = some none := by
  have e : ∀ a : Int, y ≠ a → (y == a) = false := fun a h => by simp [h]
  simp [TAKES, Instr.findNow, Instr.sameNow, e _ h2, e _ h3, e _ h4, e _ h8, e _ h5]
theorem TOOK.tk {kind : Int} {zs : List Int} {k : KN} {w0 w' : World} {L : List IT} {K : Nat} {Ab : Option Addr} {nb cb : Nat} {e : Ending} (hk : kind ≠ 5) (hj : L[8]? = some (.row 93 2 Ab nb cb (prs k.bl))) (hnb : nb = k.bl.length)
    (h : TOOK kind zs k w0 L 2 K Ab nb cb e w') : TK kind zs k w0 L K e w' := by
  obtain ⟨b, k', rfl, X, h1, h2⟩ := h
  exact ⟨b, k', Ab, nb, cb, k.bl, rfl, X.same 8 (set_get_ne hj (by decide)), fun hb => ⟨h1 hb, (take1_bl hk (h1 hb)).symm, hnb⟩, h2⟩
theorem TOOK5.tk {zs : List Int} {k : KN} {w0 w' : World} {L : List IT} {K : Nat} {e : Ending} (h : TOOK5 zs k w0 L 2 8 K e w') : TK 5 zs k w0 L K e w' := by
  obtain ⟨b, k', A, n, c, rfl, hn, X, h1, h2⟩ := h
  exact ⟨b, k', A, n, c, k'.bl, rfl, X, fun hb => ⟨h1 hb, rfl, hn⟩, h2⟩
/-- what Parse gives -/
def PARSED (w : World) (zs : List Int) (e : Ending) (w' : World) : Prop :=
  (parseF zs.length zs kn0 = none ∧ e = .returned (.tuple #[.agg (KNC knZ none 0 0), .int .i64 84]) ∧ Below w.heap.size w w') ∨
  ∃ k A nb cb, parseF zs.length zs kn0 = some k ∧ nb = k.bl.length ∧ e = .returned (.tuple #[.agg (KNC k A nb cb), .int .i64 0]) ∧ SP w w' [.row 93 2 A nb cb (prs k.bl)]

set_option maxHeartbeats 20000000 in
set_option maxRecDepth 100000 in
theorem parse_any (A : Option Addr) (n c : Nat) (zs : List Int) (w : World) (R : RD .u8 w w.heap.size A n zs) (hz : BD 255 zs) (hnc : n ≤ c) (hc : c ≤ maxLen) (h40 : n ≤ 40) :
    Calls Try.prog 26 #[.slice A n c] w fun e w' => PARSED w zs e w' := by
  have o1 : ¬ (40 : Int) < (n : Int) := by omega
  have hmm := @run_makeMap Try.prog
  refine callsIn_wide.1 (callsIn_of_wp_marks (n := 2) Try.func26 rfl trivial ?_ rfl)
  simp only [Try.ntmps26, List.size_toArray, List.length_cons, List.length_nil, Nat.reduceAdd, Nat.reduceSub, Array.replicate_succ, Array.replicate_zero, List.push_toArray, List.append_toArray, List.nil_append, List.cons_append]
  refine wpIn_wide.2 ?_
  go_upto_region 4 with fail
  obtain ⟨N, hN⟩ : ∃ N, w.heap.size = N := ⟨_, rfl⟩
  have X3 := (((SP.start w).alloc' (N := N) 32 (KNC knZ none 0 0) hN).alloc' (N := N + 1) 38 #[.int .i64 0] (by simp [hN])).alloc' (N := N + 1 + 1) 32 (KNC kn0 none 0 0) (by simp [hN])
  have hs3 : (((w.alloc (.cells (KNC knZ none 0 0) 32)).alloc (.cells #[.int .i64 0] 38)).alloc (.cells (KNC kn0 none 0 0) 32)).heap.size = N + 1 + 1 + 1 := by simp [hN]
  rw [hN]
  change Code.wp _ _ _ _ (((w.alloc (.cells (KNC knZ none 0 0) 32)).alloc (.cells #[.int .i64 0] 38)).alloc (.cells (KNC kn0 none 0 0) 32))
  generalize (((w.alloc (.cells (KNC knZ none 0 0) 32)).alloc (.cells #[.int .i64 0] 38)).alloc (.cells (KNC kn0 none 0 0) 32)) = w3 at X3 hs3 ⊢
  obtain ⟨K, hK⟩ : ∃ K, K = N + 1 + 1 := ⟨_, rfl⟩
  rw [← hK] at X3 ⊢
  obtain ⟨M, hM⟩ : ∃ M, w3.heap.size = M := ⟨_, rfl⟩
  have H0 := Lib.hid (show SP w (w3.alloc (.map #[] 0)) [.blk N 32 (KNC knZ none 0 0), .blk (N + 1) 38 #[.int .i64 0], .blk K 32 (KNC kn0 none 0 0), .obj M (.map #[] 0)] by rw [← hM]; exact X3.allocO _)
  have HS3 := Lib.hid hs3
  have HK := Lib.hid hK
  have HN := Lib.hid hN
  clear X3 hs3 hK hN
  go_wp2_with (first
    | (refine wpList_insert_map rfl _ _ _ _ rfl Try.underlying97 Try.underlying5 #[{ key := .int .u8 2, val := .func (.func 53) #[] #[.pointer (some ⟨K, 0, none⟩)], born := 0 }, { key := .int .u8 3, val := .func (.func 54) #[] #[.pointer (some ⟨K, 0, none⟩)], born := 1 }, { key := .int .u8 4, val := .func (.func 55) #[] #[.pointer (some ⟨K, 0, none⟩)], born := 2 }, { key := .int .u8 8, val := .func (.func 56) #[] #[.pointer (some ⟨K, 0, none⟩)], born := 3 }] 4 (H4.out.obj 3 rfl) rfl 5 _ rfl rfl (by rfl) ?_
       refine nameL (fun m5 hw => ?_)
       have H5 := Lib.hid (show SP w m5 [.blk N 32 (KNC knZ none 0 0), .blk (N + 1) 38 #[.int .i64 0], .blk K 32 (KNC kn0 none 0 0), .obj M (.map #[{ key := .int .u8 2, val := .func (.func 53) #[] #[.pointer (some ⟨K, 0, none⟩)], born := 0 }, { key := .int .u8 3, val := .func (.func 54) #[] #[.pointer (some ⟨K, 0, none⟩)], born := 1 }, { key := .int .u8 4, val := .func (.func 55) #[] #[.pointer (some ⟨K, 0, none⟩)], born := 2 }, { key := .int .u8 8, val := .func (.func 56) #[] #[.pointer (some ⟨K, 0, none⟩)], born := 3 }, { key := .int .u8 5, val := .func (.func 57) #[] #[.pointer (some ⟨K, 0, none⟩)], born := 4 }] 5)] by rw [hw]; exact H4.out.turn 3 rfl _ (grownBy_putObj' _ _ _) (World.putObj_heap_same (H4.out.all 3 _ rfl |>.lt rfl).2))
       clear hw H4)
    | (refine wpList_insert_map rfl _ _ _ _ rfl Try.underlying97 Try.underlying5 #[{ key := .int .u8 2, val := .func (.func 53) #[] #[.pointer (some ⟨K, 0, none⟩)], born := 0 }, { key := .int .u8 3, val := .func (.func 54) #[] #[.pointer (some ⟨K, 0, none⟩)], born := 1 }, { key := .int .u8 4, val := .func (.func 55) #[] #[.pointer (some ⟨K, 0, none⟩)], born := 2 }] 3 (H3.out.obj 3 rfl) rfl 8 _ rfl rfl (by rfl) ?_
       refine nameL (fun m4 hw => ?_)
       have H4 := Lib.hid (show SP w m4 [.blk N 32 (KNC knZ none 0 0), .blk (N + 1) 38 #[.int .i64 0], .blk K 32 (KNC kn0 none 0 0), .obj M (.map #[{ key := .int .u8 2, val := .func (.func 53) #[] #[.pointer (some ⟨K, 0, none⟩)], born := 0 }, { key := .int .u8 3, val := .func (.func 54) #[] #[.pointer (some ⟨K, 0, none⟩)], born := 1 }, { key := .int .u8 4, val := .func (.func 55) #[] #[.pointer (some ⟨K, 0, none⟩)], born := 2 }, { key := .int .u8 8, val := .func (.func 56) #[] #[.pointer (some ⟨K, 0, none⟩)], born := 3 }] 4)] by rw [hw]; exact H3.out.turn 3 rfl _ (grownBy_putObj' _ _ _) (World.putObj_heap_same (H3.out.all 3 _ rfl |>.lt rfl).2))
       clear hw H3)
    | (refine wpList_insert_map rfl _ _ _ _ rfl Try.underlying97 Try.underlying5 #[{ key := .int .u8 2, val := .func (.func 53) #[] #[.pointer (some ⟨K, 0, none⟩)], born := 0 }, { key := .int .u8 3, val := .func (.func 54) #[] #[.pointer (some ⟨K, 0, none⟩)], born := 1 }] 2 (H2.out.obj 3 rfl) rfl 4 _ rfl rfl (by rfl) ?_
       refine nameL (fun m3 hw => ?_)
       have H3 := Lib.hid (show SP w m3 [.blk N 32 (KNC knZ none 0 0), .blk (N + 1) 38 #[.int .i64 0], .blk K 32 (KNC kn0 none 0 0), .obj M (.map #[{ key := .int .u8 2, val := .func (.func 53) #[] #[.pointer (some ⟨K, 0, none⟩)], born := 0 }, { key := .int .u8 3, val := .func (.func 54) #[] #[.pointer (some ⟨K, 0, none⟩)], born := 1 }, { key := .int .u8 4, val := .func (.func 55) #[] #[.pointer (some ⟨K, 0, none⟩)], born := 2 }] 3)] by rw [hw]; exact H2.out.turn 3 rfl _ (grownBy_putObj' _ _ _) (World.putObj_heap_same (H2.out.all 3 _ rfl |>.lt rfl).2))
       clear hw H2)
    | (refine wpList_insert_map rfl _ _ _ _ rfl Try.underlying97 Try.underlying5 #[{ key := .int .u8 2, val := .func (.func 53) #[] #[.pointer (some ⟨K, 0, none⟩)], born := 0 }] 1 (H1.out.obj 3 rfl) rfl 3 _ rfl rfl (by rfl) ?_
       refine nameL (fun m2 hw => ?_)
       have H2 := Lib.hid (show SP w m2 [.blk N 32 (KNC knZ none 0 0), .blk (N + 1) 38 #[.int .i64 0], .blk K 32 (KNC kn0 none 0 0), .obj M (.map #[{ key := .int .u8 2, val := .func (.func 53) #[] #[.pointer (some ⟨K, 0, none⟩)], born := 0 }, { key := .int .u8 3, val := .func (.func 54) #[] #[.pointer (some ⟨K, 0, none⟩)], born := 1 }] 2)] by rw [hw]; exact H1.out.turn 3 rfl _ (grownBy_putObj' _ _ _) (World.putObj_heap_same (H1.out.all 3 _ rfl |>.lt rfl).2))
       clear hw H1)
    | (refine wpList_insert_map rfl _ _ _ _ rfl Try.underlying97 Try.underlying5 #[] 0 (H0.out.obj 3 rfl) rfl 2 _ rfl rfl (by rfl) ?_
       refine nameL (fun m1 hw => ?_)
       have H1 := Lib.hid (show SP w m1 [.blk N 32 (KNC knZ none 0 0), .blk (N + 1) 38 #[.int .i64 0], .blk K 32 (KNC kn0 none 0 0), .obj M (.map #[{ key := .int .u8 2, val := .func (.func 53) #[] #[.pointer (some ⟨K, 0, none⟩)], born := 0 }] 1)] by rw [hw]; exact H0.out.turn 3 rfl _ (grownBy_putObj' _ _ _) (World.putObj_heap_same (H0.out.all 3 _ rfl |>.lt rfl).2))
       clear hw H0))
  have H7 := Lib.hid (show SP w (m5.alloc (.cells #[.map (some M)] 97)) [.blk N 32 (KNC knZ none 0 0), .blk (N + 1) 38 #[.int .i64 0], .blk K 32 (KNC kn0 none 0 0), .obj M (.map #[{ key := .int .u8 2, val := .func (.func 53) #[] #[.pointer (some ⟨K, 0, none⟩)], born := 0 }, { key := .int .u8 3, val := .func (.func 54) #[] #[.pointer (some ⟨K, 0, none⟩)], born := 1 }, { key := .int .u8 4, val := .func (.func 55) #[] #[.pointer (some ⟨K, 0, none⟩)], born := 2 }, { key := .int .u8 8, val := .func (.func 56) #[] #[.pointer (some ⟨K, 0, none⟩)], born := 3 }, { key := .int .u8 5, val := .func (.func 57) #[] #[.pointer (some ⟨K, 0, none⟩)], born := 4 }] 5), .blk m5.heap.size 97 #[.map (some M)]] from H5.out.alloc _ _)
  generalize m5.alloc (.cells #[.map (some M)] 97) = w7 at H7 ⊢
  generalize m5.heap.size = P5 at H7 ⊢
  clear H5
  refine (options_any A n c _).mono ?_
  rintro e w8 ⟨rfl, hw8⟩
  obtain ⟨Bn, hBn⟩ : ∃ Bn, w7.heap.size = Bn := ⟨_, rfl⟩
  have H8 := Lib.hid (show SP w w8 [.blk N 32 (KNC knZ none 0 0), .blk (N + 1) 38 #[.int .i64 0], .blk K 32 (KNC kn0 none 0 0), .obj M (.map #[{ key := .int .u8 2, val := .func (.func 53) #[] #[.pointer (some ⟨K, 0, none⟩)], born := 0 }, { key := .int .u8 3, val := .func (.func 54) #[] #[.pointer (some ⟨K, 0, none⟩)], born := 1 }, { key := .int .u8 4, val := .func (.func 55) #[] #[.pointer (some ⟨K, 0, none⟩)], born := 2 }, { key := .int .u8 8, val := .func (.func 56) #[] #[.pointer (some ⟨K, 0, none⟩)], born := 3 }, { key := .int .u8 5, val := .func (.func 57) #[] #[.pointer (some ⟨K, 0, none⟩)], born := 4 }] 5), .blk P5 97 #[.map (some M)], .blk Bn 22 #[.slice A n c]] by rw [hw8]; exact H7.out.alloc' _ _ hBn)
  rw [hBn]
  clear hw8 hBn H7 
  go_wp2_with fail
  obtain ⟨D, hD⟩ : ∃ D, w8.heap.size = D := ⟨_, rfl⟩
  refine (wpIn_wide (n := 2)).1 ?_
  refine wpIn_range_raw (gf := 69) (lb := #[.pointer (some ⟨Bn, 0, none⟩)]) rfl (fun h => by cases h) rfl trivial (enters_of Try.func69 (by kernel_rfl) rfl)
    (fun W => ∃ (r : Loop) (A : Option Addr) (n c : Nat) (zs' : List Int), PJ w zs N K M P5 Bn D (.loop r) A n c zs' W ∧ atEnd zs' = true) (fun W => ∃ r : Loop, PX w zs N D (.loop r) W) ?call ?done ?stop
  case call =>
    intro fn hfn W1 hW1 hbook
    rw [hD] at hbook ⊢
    generalize hrec : recOf fn _ _ _ _ D = rec at hbook ⊢
    have H9 := Lib.hid (show SP w W1 (PL N K M P5 Bn D kn0 none 0 0 A n c (.loop (rec .ready none))) by
      have h9 := ((H8.out.allocO (.deferred (some []))).allocO (.loop (rec .ready none))).pushRow 93 2
      rw [World.size_alloc, hD] at h9
      rw [hW1, hD, hrec]
      exact h9)
    clear hW1 H8
    refine (options1_in 1 (D + 1) Bn (by omega) (PJ w zs N K M P5 Bn D (.loop (rec .ready none))) (PX w zs N D (.loop (rec .done (some .ret)))) ?hJ ?hdr ?hbad ?hgood A n c zs W1 ⟨R, hz, hnc, hc, kn0, none, 0, 0, zs.length, rfl, Nat.le_refl _, rfl, H9.out⟩).mono ?_
    case hJ =>
      rintro A n c zs' W ⟨r1, r2, r3, r4, k, Ab, nb, cb, f, e1, e2, e3, X⟩
      exact ⟨X.cell 5 rfl 0 rfl, X.free 5 rfl 0, (r1.below X.bel).more X.bel.size, r2, r3, r4⟩
    case hdr =>
      rintro A n c zs' W q ⟨r1, r2, r3, r4, k, Ab, nb, cb, f, e1, e2, e3, X⟩
      exact ⟨r1, r2, r3, r4, k, Ab, nb, cb, f, e1, e2, e3, X.drewN q⟩
    case hbad =>
      rintro A n c zs' W ⟨r1, r2, r3, r4, k, Ab, nb, cb, f, e1, e2, e3, X⟩ ha ho
      subst hrec
      refine yield_of_round trivial ⟨X.obj 7 rfl, X.obj 6 rfl⟩ rfl ?a1 ?assign ?body
      case assign =>
        intro W0 K0 hK0
        gi_wp2
        exact hK0
      case body =>
        intro hbusy
        have HP := Lib.hid (e3.symm.trans (parseF_bad ha ho))
        have X2 := X.turn 7 rfl _ (grownBy_putObj' _ _ _) hbusy.loop
        clear hbook X
        generalize W.putObj (D + 1) _ = Wb at X2 hbusy ⊢
        generalize recOf fn _ _ _ _ D = rec at X2 hbusy ⊢
        have HX := Lib.hid X2
        have HB := Lib.hid hbusy
        clear X2 hbusy H9 e2 e3 r1
        have cN0 : Wb.cell? ⟨N, 0, none⟩ = some ((.int .i64 0 : Value)) := HX.out.cell 0 rfl 0 rfl
        have fN0 := HX.out.free 0 rfl 0
        have cN1 : Wb.cell? ⟨N, 1, none⟩ = some ((.int .i64 0 : Value)) := HX.out.cell 0 rfl 1 rfl
        have fN1 := HX.out.free 0 rfl 1
        have cN2 : Wb.cell? ⟨N, 2, none⟩ = some ((.bool false : Value)) := HX.out.cell 0 rfl 2 rfl
        have fN2 := HX.out.free 0 rfl 2
        have cN3 : Wb.cell? ⟨N, 3, none⟩ = some ((.bool false : Value)) := HX.out.cell 0 rfl 3 rfl
        have fN3 := HX.out.free 0 rfl 3
        have cN4 : Wb.cell? ⟨N, 4, none⟩ = some ((.int .u32 0 : Value)) := HX.out.cell 0 rfl 4 rfl
        have fN4 := HX.out.free 0 rfl 4
        have cN5 : Wb.cell? ⟨N, 5, none⟩ = some ((.int .u32 0 : Value)) := HX.out.cell 0 rfl 5 rfl
        have fN5 := HX.out.free 0 rfl 5
        have cN6 : Wb.cell? ⟨N, 6, none⟩ = some ((.slice none 0 0 : Value)) := HX.out.cell 0 rfl 6 rfl
        have fN6 := HX.out.free 0 rfl 6
        have cE : Wb.cell? ⟨N + 1, 0, none⟩ = some (.int .i64 0) := HX.out.cell 1 rfl 0 rfl
        have fE := HX.out.free 1 rfl 0
        gi_wp2
        have Y := ((((((((HX.out.setB 0 rfl 0 (.int .i64 0)).setB 0 rfl 1 (.int .i64 0)).setB 0 rfl 2 (.bool false)).setB 0 rfl 3 (.bool false)).setB 0 rfl 4 (.int .u32 0)).setB 0 rfl 5 (.int .u32 0)).setB 0 rfl 6 (.slice none 0 0)).setB 1 rfl 0 (.int .i64 84))
        refine ⟨⟨Y.obj 7 rfl, Y.obj 6 rfl⟩, rfl, HP.out, ?_⟩
        exact (Y.turn 7 rfl _ (grownBy_putObj' _ _ _) (World.putObj_heap_same (Y.all 7 _ rfl |>.lt rfl).2)).pick [0, 1, 6, 7] (by decide) rfl
    case hgood =>
      rintro A n c zs' W m ⟨r1, r2, r3, r4, k, Ab, nb, cb, f, e1, e2, e3, X⟩ ha ho
      obtain ⟨m1, m2, m3⟩ := optLen_le ho (atEnd_false ha).1
      have hl := r1.len
      have hmn : m ≤ n := by omega
      have fpos : ∃ f', f = f' + 1 := ⟨f - 1, by omega⟩
      obtain ⟨f', rfl⟩ := fpos
      subst hrec
      refine yield_of_round trivial ⟨X.obj 7 rfl, X.obj 6 rfl⟩ rfl ?a2 ?assign ?body
      case assign =>
        intro W0 K0 hK0
        gi_wp2
        exact hK0
      case body =>
        intro hbusy
        have X2 := X.turn 7 rfl _ (grownBy_putObj' _ _ _) hbusy.loop
        clear hbook X H9 hbusy
        generalize W.putObj (D + 1) _ = Wb at X2 ⊢
        generalize recOf fn _ _ _ _ D = rec at X2 ⊢
        have r5 : RD .u8 Wb Wb.heap.size A n zs' := (r1.below X2.bel).more X2.bel.size
        have HR := Lib.hid r1
        have HX := Lib.hid X2
        clear X2 r1
        obtain ⟨b, off, rfl, hlt, hcell⟩ := r5.2 (by omega)
        obtain ⟨y0, hy0⟩ : ∃ y, zs'[0]?.getD 0 = y := ⟨_, rfl⟩
        have x0 : Wb.cell? ⟨b, off, none⟩ = some (.int .u8 y0) := by
          have := hcell 0 (by omega)
          rwa [Nat.add_zero, hy0] at this
        rw [hy0] at m3
        have HS := Lib.hid e3
        have HL := Lib.hid e1
        have HM := Lib.hid (show ∀ k', take1 y0 ((zs'.take m).drop 2) k = some k' → parseF f' (zs'.drop m) k' = parseF zs.length zs kn0 from fun k' h => (parseF_more ha ho (hy0.symm ▸ h)).symm.trans e3)
        have HB := Lib.hid (show take1 y0 ((zs'.take m).drop 2) k = none → parseF zs.length zs kn0 = none from fun h => e3.symm.trans (parseF_take ha ho (hy0.symm ▸ h)))
        have HQ := Lib.hid (show (zs'.drop m).length ≤ f' by rw [List.length_drop]; omega)
        have cP : Wb.cell? ⟨P5, 0, none⟩ = some (.map (some M)) := HX.out.cell 4 rfl 0 rfl
        have HA := Lib.hid hcell
        clear hcell e1 e2 e3 ha ho hl
        obtain ⟨i0, hi, hz0, hz1, hz2⟩ := info_parts infoU8
        have hmx : Try.prog.follows .mixedOrders = true := by kernel_rfl
        have hcase : ∃ v is, (Instr.lookup 97 (.map (some M)) (.int .u8 y0) true).run Try.prog Wb.drew = .ok (.tuple #[v, .bool is]) Wb.drew ∧
            ((y0 = 2 ∧ v = .func (.func 53) #[] #[.pointer (some ⟨K, 0, none⟩)] ∧ is = true) ∨ (y0 = 3 ∧ v = .func (.func 54) #[] #[.pointer (some ⟨K, 0, none⟩)] ∧ is = true) ∨ (y0 = 4 ∧ v = .func (.func 55) #[] #[.pointer (some ⟨K, 0, none⟩)] ∧ is = true) ∨ (y0 = 8 ∧ v = .func (.func 56) #[] #[.pointer (some ⟨K, 0, none⟩)] ∧ is = true) ∨ (y0 = 5 ∧ v = .func (.func 57) #[] #[.pointer (some ⟨K, 0, none⟩)] ∧ is = true) ∨ (is = false ∧ y0 ≠ 2 ∧ y0 ≠ 3 ∧ y0 ≠ 4 ∧ y0 ≠ 8 ∧ y0 ≠ 5)) := by
          by_cases hq2 : y0 = 2
          · subst hq2
            exact ⟨_, _, run_lookup_map Try.underlying97 Try.underlying5 (w := Wb.drew) (r := M) (es := TAKES K) (clock := 5) (HX.out.obj 3 rfl) 2 (i := 0) rfl, .inl ⟨rfl, rfl, rfl⟩⟩
          by_cases hq3 : y0 = 3
          · subst hq3
            exact ⟨_, _, run_lookup_map Try.underlying97 Try.underlying5 (w := Wb.drew) (r := M) (es := TAKES K) (clock := 5) (HX.out.obj 3 rfl) 3 (i := 1) rfl, .inr <| .inl ⟨rfl, rfl, rfl⟩⟩
          by_cases hq4 : y0 = 4
          · subst hq4
            exact ⟨_, _, run_lookup_map Try.underlying97 Try.underlying5 (w := Wb.drew) (r := M) (es := TAKES K) (clock := 5) (HX.out.obj 3 rfl) 4 (i := 2) rfl, .inr <| .inr <| .inl ⟨rfl, rfl, rfl⟩⟩
          by_cases hq8 : y0 = 8
          · subst hq8
            exact ⟨_, _, run_lookup_map Try.underlying97 Try.underlying5 (w := Wb.drew) (r := M) (es := TAKES K) (clock := 5) (HX.out.obj 3 rfl) 8 (i := 3) rfl, .inr <| .inr <| .inr <| .inl ⟨rfl, rfl, rfl⟩⟩
          by_cases hq5 : y0 = 5
          · subst hq5
            exact ⟨_, _, run_lookup_map Try.underlying97 Try.underlying5 (w := Wb.drew) (r := M) (es := TAKES K) (clock := 5) (HX.out.obj 3 rfl) 5 (i := 4) rfl, .inr <| .inr <| .inr <| .inr <| .inl ⟨rfl, rfl, rfl⟩⟩
          exact ⟨_, _, run_lookup_map_not Try.underlying97 Try.underlying5 (w := Wb.drew) (r := M) (es := TAKES K) (clock := 5) (HX.out.obj 3 rfl) y0 (z := .nilFunc) (by kernel_rfl) (findNot hq2 hq3 hq4 hq8 hq5), .inr <| .inr <| .inr <| .inr <| .inr ⟨rfl, hq2, hq3, hq4, hq8, hq5⟩⟩
        obtain ⟨v, is, lk, hcase⟩ := hcase
        have HCS := Lib.hid hcase
        clear hcase
        have HR5 := Lib.hid r5
        clear r5
        gi_wp2
        gi_cut [8, 9] from 28 (fun v8 v9 W => v8 = v ∧ v9 = .bool is ∧ W = Wb.drew)
        case first =>
          rename_i J1 K1 hm1 hm2
          gi_region_with_o (fail)
          all_goals (refine hm2 _ _ (Met.intro (hm1 _ _ ?_)))
          all_goals (repeat apply Exists.intro)
          all_goals exact ⟨⟨rfl, rfl, rfl⟩, rfl⟩
        obtain ⟨rfl, rfl, rfl⟩ := hcut
        clear lk x0 cP
        have r5 := HR5.out
        rcases HCS.out with ⟨rfl, rfl, rfl⟩ | ⟨rfl, rfl, rfl⟩ | ⟨rfl, rfl, rfl⟩ | ⟨rfl, rfl, rfl⟩ | ⟨rfl, rfl, rfl⟩ | ⟨rfl, q2, q3, q4, q8, q5⟩
        · have hm2 : 2 ≤ m := by omega
          have sl := fun W => run_slice_lo (P := Try.prog) W Try.underlying22 hi hz1 (some ⟨b, off, none⟩) m c (2 : Int) 2 rfl hm2
          have R2 : RD .u8 Wb Wb.heap.size (cutA (some ⟨b, off, none⟩) c 2) (m - 2) ((zs'.take m).drop 2) := (r5.take hmn).cutA hm2 (by omega)
          have R0 : RD .u8 w w.heap.size (cutA (some ⟨b, off, none⟩) c 2) (m - 2) ((zs'.take m).drop 2) := (HR.out.take hmn).cutA hm2 (by omega)
          have B2 : BD 255 ((zs'.take m).drop 2) := (r2.take m).drop 2
          have HC := Lib.hid ((p1_any HX.out.drew rfl (cutA (some ⟨b, off, none⟩) c 2) (m - 2) (c - 2) _ R2 B2).mono fun e W' h => TOOK.tk (by decide) rfl HL.out h)
          clear r5 R2 R0 B2
          gi_wp2
          refine ⟨trivial, rfl, (CallsIn.inRound (D + 1) (callsIn_wide.2 HC.out)).mono ?_⟩
          rintro e W4 ⟨b1, k', A', n', c', bl, rfl, hX4, ht, hf⟩
          have HX4 := Lib.hid hX4
          clear hX4 HC
          cases b1 with
          | false =>
            have HP := Lib.hid (HB.out (hf rfl))
            clear ht hf
            have cN0 : W4.cell? ⟨N, 0, none⟩ = some ((.int .i64 0 : Value)) := HX4.out.cell 0 rfl 0 rfl
            have fN0 := HX4.out.free 0 rfl 0
            have cN1 : W4.cell? ⟨N, 1, none⟩ = some ((.int .i64 0 : Value)) := HX4.out.cell 0 rfl 1 rfl
            have fN1 := HX4.out.free 0 rfl 1
            have cN2 : W4.cell? ⟨N, 2, none⟩ = some ((.bool false : Value)) := HX4.out.cell 0 rfl 2 rfl
            have fN2 := HX4.out.free 0 rfl 2
            have cN3 : W4.cell? ⟨N, 3, none⟩ = some ((.bool false : Value)) := HX4.out.cell 0 rfl 3 rfl
            have fN3 := HX4.out.free 0 rfl 3
            have cN4 : W4.cell? ⟨N, 4, none⟩ = some ((.int .u32 0 : Value)) := HX4.out.cell 0 rfl 4 rfl
            have fN4 := HX4.out.free 0 rfl 4
            have cN5 : W4.cell? ⟨N, 5, none⟩ = some ((.int .u32 0 : Value)) := HX4.out.cell 0 rfl 5 rfl
            have fN5 := HX4.out.free 0 rfl 5
            have cN6 : W4.cell? ⟨N, 6, none⟩ = some ((.slice none 0 0 : Value)) := HX4.out.cell 0 rfl 6 rfl
            have fN6 := HX4.out.free 0 rfl 6
            have cE : W4.cell? ⟨N + 1, 0, none⟩ = some (.int .i64 0) := HX4.out.cell 1 rfl 0 rfl
            have fE := HX4.out.free 1 rfl 0
            gi_wp2
            have Y := ((((((((HX4.out.setB 0 rfl 0 (.int .i64 0)).setB 0 rfl 1 (.int .i64 0)).setB 0 rfl 2 (.bool false)).setB 0 rfl 3 (.bool false)).setB 0 rfl 4 (.int .u32 0)).setB 0 rfl 5 (.int .u32 0)).setB 0 rfl 6 (.slice none 0 0)).setB 1 rfl 0 (.int .i64 84))
            refine ⟨⟨Y.obj 7 rfl, Y.obj 6 rfl⟩, .inr ⟨rfl, HP.out, ?_⟩⟩
            exact (Y.turn 7 rfl _ (grownBy_putObj' _ _ _) (World.putObj_heap_same (Y.all 7 _ rfl |>.lt rfl).2)).pick [0, 1, 6, 7] (by decide) rfl
          | true =>
            have HT := Lib.hid (ht rfl)
            clear ht hf
            gi_wp2
            obtain ⟨ht1, rfl, hn'⟩ := HT.out
            have Y := HX4.out
            have Y2 := Y.turn 7 rfl (.loop (rec .ready none)) (grownBy_putObj' _ _ _) (World.putObj_heap_same (Y.all 7 _ rfl |>.lt rfl).2)
            exact ⟨⟨Y.obj 7 rfl, Y.obj 6 rfl⟩, .inl ⟨rfl, Y2.cell 5 rfl 0 rfl, Y2.free 5 rfl 0, HR.out.cutA hmn r3, r2.drop m, by omega, by omega, k', A', n', c', f', hn', HQ.out, HM.out k' ht1, Y2.setB 5 rfl 0 _⟩⟩
        · have hm2 : 2 ≤ m := by omega
          have sl := fun W => run_slice_lo (P := Try.prog) W Try.underlying22 hi hz1 (some ⟨b, off, none⟩) m c (2 : Int) 2 rfl hm2
          have R2 : RD .u8 Wb Wb.heap.size (cutA (some ⟨b, off, none⟩) c 2) (m - 2) ((zs'.take m).drop 2) := (r5.take hmn).cutA hm2 (by omega)
          have R0 : RD .u8 w w.heap.size (cutA (some ⟨b, off, none⟩) c 2) (m - 2) ((zs'.take m).drop 2) := (HR.out.take hmn).cutA hm2 (by omega)
          have B2 : BD 255 ((zs'.take m).drop 2) := (r2.take m).drop 2
          have HC := Lib.hid ((p2_any HX.out.drew rfl (cutA (some ⟨b, off, none⟩) c 2) (m - 2) (c - 2) _ R2 B2).mono fun e W' h => TOOK.tk (by decide) rfl HL.out h)
          clear r5 R2 R0 B2
          gi_wp2
          refine ⟨trivial, rfl, (CallsIn.inRound (D + 1) (callsIn_wide.2 HC.out)).mono ?_⟩
          rintro e W4 ⟨b1, k', A', n', c', bl, rfl, hX4, ht, hf⟩
          have HX4 := Lib.hid hX4
          clear hX4 HC
          cases b1 with
          | false =>
            have HP := Lib.hid (HB.out (hf rfl))
            clear ht hf
            have cN0 : W4.cell? ⟨N, 0, none⟩ = some ((.int .i64 0 : Value)) := HX4.out.cell 0 rfl 0 rfl
            have fN0 := HX4.out.free 0 rfl 0
            have cN1 : W4.cell? ⟨N, 1, none⟩ = some ((.int .i64 0 : Value)) := HX4.out.cell 0 rfl 1 rfl
            have fN1 := HX4.out.free 0 rfl 1
            have cN2 : W4.cell? ⟨N, 2, none⟩ = some ((.bool false : Value)) := HX4.out.cell 0 rfl 2 rfl
            have fN2 := HX4.out.free 0 rfl 2
            have cN3 : W4.cell? ⟨N, 3, none⟩ = some ((.bool false : Value)) := HX4.out.cell 0 rfl 3 rfl
            have fN3 := HX4.out.free 0 rfl 3
            have cN4 : W4.cell? ⟨N, 4, none⟩ = some ((.int .u32 0 : Value)) := HX4.out.cell 0 rfl 4 rfl
            have fN4 := HX4.out.free 0 rfl 4
            have cN5 : W4.cell? ⟨N, 5, none⟩ = some ((.int .u32 0 : Value)) := HX4.out.cell 0 rfl 5 rfl
            have fN5 := HX4.out.free 0 rfl 5
            have cN6 : W4.cell? ⟨N, 6, none⟩ = some ((.slice none 0 0 : Value)) := HX4.out.cell 0 rfl 6 rfl
            have fN6 := HX4.out.free 0 rfl 6
            have cE : W4.cell? ⟨N + 1, 0, none⟩ = some (.int .i64 0) := HX4.out.cell 1 rfl 0 rfl
            have fE := HX4.out.free 1 rfl 0
            gi_wp2
            have Y := ((((((((HX4.out.setB 0 rfl 0 (.int .i64 0)).setB 0 rfl 1 (.int .i64 0)).setB 0 rfl 2 (.bool false)).setB 0 rfl 3 (.bool false)).setB 0 rfl 4 (.int .u32 0)).setB 0 rfl 5 (.int .u32 0)).setB 0 rfl 6 (.slice none 0 0)).setB 1 rfl 0 (.int .i64 84))
            refine ⟨⟨Y.obj 7 rfl, Y.obj 6 rfl⟩, .inr ⟨rfl, HP.out, ?_⟩⟩
            exact (Y.turn 7 rfl _ (grownBy_putObj' _ _ _) (World.putObj_heap_same (Y.all 7 _ rfl |>.lt rfl).2)).pick [0, 1, 6, 7] (by decide) rfl
          | true =>
            have HT := Lib.hid (ht rfl)
            clear ht hf
            gi_wp2
            obtain ⟨ht1, rfl, hn'⟩ := HT.out
            have Y := HX4.out
            have Y2 := Y.turn 7 rfl (.loop (rec .ready none)) (grownBy_putObj' _ _ _) (World.putObj_heap_same (Y.all 7 _ rfl |>.lt rfl).2)
            exact ⟨⟨Y.obj 7 rfl, Y.obj 6 rfl⟩, .inl ⟨rfl, Y2.cell 5 rfl 0 rfl, Y2.free 5 rfl 0, HR.out.cutA hmn r3, r2.drop m, by omega, by omega, k', A', n', c', f', hn', HQ.out, HM.out k' ht1, Y2.setB 5 rfl 0 _⟩⟩
        · have hm2 : 2 ≤ m := by omega
          have sl := fun W => run_slice_lo (P := Try.prog) W Try.underlying22 hi hz1 (some ⟨b, off, none⟩) m c (2 : Int) 2 rfl hm2
          have R2 : RD .u8 Wb Wb.heap.size (cutA (some ⟨b, off, none⟩) c 2) (m - 2) ((zs'.take m).drop 2) := (r5.take hmn).cutA hm2 (by omega)
          have R0 : RD .u8 w w.heap.size (cutA (some ⟨b, off, none⟩) c 2) (m - 2) ((zs'.take m).drop 2) := (HR.out.take hmn).cutA hm2 (by omega)
          have B2 : BD 255 ((zs'.take m).drop 2) := (r2.take m).drop 2
          have HC := Lib.hid ((p3_any HX.out.drew rfl (cutA (some ⟨b, off, none⟩) c 2) (m - 2) (c - 2) _ R2.len).mono fun e W' h => TOOK.tk (by decide) rfl HL.out h)
          clear r5 R2 R0 B2
          gi_wp2
          refine ⟨trivial, rfl, (CallsIn.inRound (D + 1) (callsIn_wide.2 HC.out)).mono ?_⟩
          rintro e W4 ⟨b1, k', A', n', c', bl, rfl, hX4, ht, hf⟩
          have HX4 := Lib.hid hX4
          clear hX4 HC
          cases b1 with
          | false =>
            have HP := Lib.hid (HB.out (hf rfl))
            clear ht hf
            have cN0 : W4.cell? ⟨N, 0, none⟩ = some ((.int .i64 0 : Value)) := HX4.out.cell 0 rfl 0 rfl
            have fN0 := HX4.out.free 0 rfl 0
            have cN1 : W4.cell? ⟨N, 1, none⟩ = some ((.int .i64 0 : Value)) := HX4.out.cell 0 rfl 1 rfl
            have fN1 := HX4.out.free 0 rfl 1
            have cN2 : W4.cell? ⟨N, 2, none⟩ = some ((.bool false : Value)) := HX4.out.cell 0 rfl 2 rfl
            have fN2 := HX4.out.free 0 rfl 2
            have cN3 : W4.cell? ⟨N, 3, none⟩ = some ((.bool false : Value)) := HX4.out.cell 0 rfl 3 rfl
            have fN3 := HX4.out.free 0 rfl 3
            have cN4 : W4.cell? ⟨N, 4, none⟩ = some ((.int .u32 0 : Value)) := HX4.out.cell 0 rfl 4 rfl
            have fN4 := HX4.out.free 0 rfl 4
            have cN5 : W4.cell? ⟨N, 5, none⟩ = some ((.int .u32 0 : Value)) := HX4.out.cell 0 rfl 5 rfl
            have fN5 := HX4.out.free 0 rfl 5
            have cN6 : W4.cell? ⟨N, 6, none⟩ = some ((.slice none 0 0 : Value)) := HX4.out.cell 0 rfl 6 rfl
            have fN6 := HX4.out.free 0 rfl 6
            have cE : W4.cell? ⟨N + 1, 0, none⟩ = some (.int .i64 0) := HX4.out.cell 1 rfl 0 rfl
            have fE := HX4.out.free 1 rfl 0
            gi_wp2
            have Y := ((((((((HX4.out.setB 0 rfl 0 (.int .i64 0)).setB 0 rfl 1 (.int .i64 0)).setB 0 rfl 2 (.bool false)).setB 0 rfl 3 (.bool false)).setB 0 rfl 4 (.int .u32 0)).setB 0 rfl 5 (.int .u32 0)).setB 0 rfl 6 (.slice none 0 0)).setB 1 rfl 0 (.int .i64 84))
            refine ⟨⟨Y.obj 7 rfl, Y.obj 6 rfl⟩, .inr ⟨rfl, HP.out, ?_⟩⟩
            exact (Y.turn 7 rfl _ (grownBy_putObj' _ _ _) (World.putObj_heap_same (Y.all 7 _ rfl |>.lt rfl).2)).pick [0, 1, 6, 7] (by decide) rfl
          | true =>
            have HT := Lib.hid (ht rfl)
            clear ht hf
            gi_wp2
            obtain ⟨ht1, rfl, hn'⟩ := HT.out
            have Y := HX4.out
            have Y2 := Y.turn 7 rfl (.loop (rec .ready none)) (grownBy_putObj' _ _ _) (World.putObj_heap_same (Y.all 7 _ rfl |>.lt rfl).2)
            exact ⟨⟨Y.obj 7 rfl, Y.obj 6 rfl⟩, .inl ⟨rfl, Y2.cell 5 rfl 0 rfl, Y2.free 5 rfl 0, HR.out.cutA hmn r3, r2.drop m, by omega, by omega, k', A', n', c', f', hn', HQ.out, HM.out k' ht1, Y2.setB 5 rfl 0 _⟩⟩
        · have hm2 : 2 ≤ m := by omega
          have sl := fun W => run_slice_lo (P := Try.prog) W Try.underlying22 hi hz1 (some ⟨b, off, none⟩) m c (2 : Int) 2 rfl hm2
          have R2 : RD .u8 Wb Wb.heap.size (cutA (some ⟨b, off, none⟩) c 2) (m - 2) ((zs'.take m).drop 2) := (r5.take hmn).cutA hm2 (by omega)
          have R0 : RD .u8 w w.heap.size (cutA (some ⟨b, off, none⟩) c 2) (m - 2) ((zs'.take m).drop 2) := (HR.out.take hmn).cutA hm2 (by omega)
          have B2 : BD 255 ((zs'.take m).drop 2) := (r2.take m).drop 2
          have HC := Lib.hid ((p4_any HX.out.drew rfl (cutA (some ⟨b, off, none⟩) c 2) (m - 2) (c - 2) _ R2 B2 (by omega)).mono fun e W' h => TOOK.tk (by decide) rfl HL.out h)
          clear r5 R2 R0 B2
          gi_wp2
          refine ⟨trivial, rfl, (CallsIn.inRound (D + 1) (callsIn_wide.2 HC.out)).mono ?_⟩
          rintro e W4 ⟨b1, k', A', n', c', bl, rfl, hX4, ht, hf⟩
          have HX4 := Lib.hid hX4
          clear hX4 HC
          cases b1 with
          | false =>
            have HP := Lib.hid (HB.out (hf rfl))
            clear ht hf
            have cN0 : W4.cell? ⟨N, 0, none⟩ = some ((.int .i64 0 : Value)) := HX4.out.cell 0 rfl 0 rfl
            have fN0 := HX4.out.free 0 rfl 0
            have cN1 : W4.cell? ⟨N, 1, none⟩ = some ((.int .i64 0 : Value)) := HX4.out.cell 0 rfl 1 rfl
            have fN1 := HX4.out.free 0 rfl 1
            have cN2 : W4.cell? ⟨N, 2, none⟩ = some ((.bool false : Value)) := HX4.out.cell 0 rfl 2 rfl
            have fN2 := HX4.out.free 0 rfl 2
            have cN3 : W4.cell? ⟨N, 3, none⟩ = some ((.bool false : Value)) := HX4.out.cell 0 rfl 3 rfl
            have fN3 := HX4.out.free 0 rfl 3
            have cN4 : W4.cell? ⟨N, 4, none⟩ = some ((.int .u32 0 : Value)) := HX4.out.cell 0 rfl 4 rfl
            have fN4 := HX4.out.free 0 rfl 4
            have cN5 : W4.cell? ⟨N, 5, none⟩ = some ((.int .u32 0 : Value)) := HX4.out.cell 0 rfl 5 rfl
            have fN5 := HX4.out.free 0 rfl 5
            have cN6 : W4.cell? ⟨N, 6, none⟩ = some ((.slice none 0 0 : Value)) := HX4.out.cell 0 rfl 6 rfl
            have fN6 := HX4.out.free 0 rfl 6
            have cE : W4.cell? ⟨N + 1, 0, none⟩ = some (.int .i64 0) := HX4.out.cell 1 rfl 0 rfl
            have fE := HX4.out.free 1 rfl 0
            gi_wp2
            have Y := ((((((((HX4.out.setB 0 rfl 0 (.int .i64 0)).setB 0 rfl 1 (.int .i64 0)).setB 0 rfl 2 (.bool false)).setB 0 rfl 3 (.bool false)).setB 0 rfl 4 (.int .u32 0)).setB 0 rfl 5 (.int .u32 0)).setB 0 rfl 6 (.slice none 0 0)).setB 1 rfl 0 (.int .i64 84))
            refine ⟨⟨Y.obj 7 rfl, Y.obj 6 rfl⟩, .inr ⟨rfl, HP.out, ?_⟩⟩
            exact (Y.turn 7 rfl _ (grownBy_putObj' _ _ _) (World.putObj_heap_same (Y.all 7 _ rfl |>.lt rfl).2)).pick [0, 1, 6, 7] (by decide) rfl
          | true =>
            have HT := Lib.hid (ht rfl)
            clear ht hf
            gi_wp2
            obtain ⟨ht1, rfl, hn'⟩ := HT.out
            have Y := HX4.out
            have Y2 := Y.turn 7 rfl (.loop (rec .ready none)) (grownBy_putObj' _ _ _) (World.putObj_heap_same (Y.all 7 _ rfl |>.lt rfl).2)
            exact ⟨⟨Y.obj 7 rfl, Y.obj 6 rfl⟩, .inl ⟨rfl, Y2.cell 5 rfl 0 rfl, Y2.free 5 rfl 0, HR.out.cutA hmn r3, r2.drop m, by omega, by omega, k', A', n', c', f', hn', HQ.out, HM.out k' ht1, Y2.setB 5 rfl 0 _⟩⟩
        · have hm2 : 2 ≤ m := by omega
          have sl := fun W => run_slice_lo (P := Try.prog) W Try.underlying22 hi hz1 (some ⟨b, off, none⟩) m c (2 : Int) 2 rfl hm2
          have R2 : RD .u8 Wb Wb.heap.size (cutA (some ⟨b, off, none⟩) c 2) (m - 2) ((zs'.take m).drop 2) := (r5.take hmn).cutA hm2 (by omega)
          have R0 : RD .u8 w w.heap.size (cutA (some ⟨b, off, none⟩) c 2) (m - 2) ((zs'.take m).drop 2) := (HR.out.take hmn).cutA hm2 (by omega)
          have B2 : BD 255 ((zs'.take m).drop 2) := (r2.take m).drop 2
          have HC := Lib.hid ((p5_any HX.out.drew rfl rfl (by decide) HL.out (cutA (some ⟨b, off, none⟩) c 2) (m - 2) (c - 2) _ R0 B2 (by omega)).mono fun e W' h => TOOK5.tk h)
          clear r5 R2 R0 B2
          gi_wp2
          refine ⟨trivial, rfl, (CallsIn.inRound (D + 1) (callsIn_wide.2 HC.out)).mono ?_⟩
          rintro e W4 ⟨b1, k', A', n', c', bl, rfl, hX4, ht, hf⟩
          have HX4 := Lib.hid hX4
          clear hX4 HC
          cases b1 with
          | false =>
            have HP := Lib.hid (HB.out (hf rfl))
            clear ht hf
            have cN0 : W4.cell? ⟨N, 0, none⟩ = some ((.int .i64 0 : Value)) := HX4.out.cell 0 rfl 0 rfl
            have fN0 := HX4.out.free 0 rfl 0
            have cN1 : W4.cell? ⟨N, 1, none⟩ = some ((.int .i64 0 : Value)) := HX4.out.cell 0 rfl 1 rfl
            have fN1 := HX4.out.free 0 rfl 1
            have cN2 : W4.cell? ⟨N, 2, none⟩ = some ((.bool false : Value)) := HX4.out.cell 0 rfl 2 rfl
            have fN2 := HX4.out.free 0 rfl 2
            have cN3 : W4.cell? ⟨N, 3, none⟩ = some ((.bool false : Value)) := HX4.out.cell 0 rfl 3 rfl
            have fN3 := HX4.out.free 0 rfl 3
            have cN4 : W4.cell? ⟨N, 4, none⟩ = some ((.int .u32 0 : Value)) := HX4.out.cell 0 rfl 4 rfl
            have fN4 := HX4.out.free 0 rfl 4
            have cN5 : W4.cell? ⟨N, 5, none⟩ = some ((.int .u32 0 : Value)) := HX4.out.cell 0 rfl 5 rfl
            have fN5 := HX4.out.free 0 rfl 5
            have cN6 : W4.cell? ⟨N, 6, none⟩ = some ((.slice none 0 0 : Value)) := HX4.out.cell 0 rfl 6 rfl
            have fN6 := HX4.out.free 0 rfl 6
            have cE : W4.cell? ⟨N + 1, 0, none⟩ = some (.int .i64 0) := HX4.out.cell 1 rfl 0 rfl
            have fE := HX4.out.free 1 rfl 0
            gi_wp2
            have Y := ((((((((HX4.out.setB 0 rfl 0 (.int .i64 0)).setB 0 rfl 1 (.int .i64 0)).setB 0 rfl 2 (.bool false)).setB 0 rfl 3 (.bool false)).setB 0 rfl 4 (.int .u32 0)).setB 0 rfl 5 (.int .u32 0)).setB 0 rfl 6 (.slice none 0 0)).setB 1 rfl 0 (.int .i64 84))
            refine ⟨⟨Y.obj 7 rfl, Y.obj 6 rfl⟩, .inr ⟨rfl, HP.out, ?_⟩⟩
            exact (Y.turn 7 rfl _ (grownBy_putObj' _ _ _) (World.putObj_heap_same (Y.all 7 _ rfl |>.lt rfl).2)).pick [0, 1, 6, 7] (by decide) rfl
          | true =>
            have HT := Lib.hid (ht rfl)
            clear ht hf
            gi_wp2
            obtain ⟨ht1, rfl, hn'⟩ := HT.out
            have Y := HX4.out
            have Y2 := Y.turn 7 rfl (.loop (rec .ready none)) (grownBy_putObj' _ _ _) (World.putObj_heap_same (Y.all 7 _ rfl |>.lt rfl).2)
            exact ⟨⟨Y.obj 7 rfl, Y.obj 6 rfl⟩, .inl ⟨rfl, Y2.cell 5 rfl 0 rfl, Y2.free 5 rfl 0, HR.out.cutA hmn r3, r2.drop m, by omega, by omega, k', A', n', c', f', hn', HQ.out, HM.out k' ht1, Y2.setB 5 rfl 0 _⟩⟩
        · have ht1 : take1 y0 ((zs'.take m).drop 2) k = some k := by
            unfold take1
            rw [if_neg q2, if_neg q3, if_neg q4, if_neg q5, if_neg q8]
          have HT := Lib.hid ht1
          clear ht1 r5
          gi_wp2
          try (refine ⟨fun _ h => (by cases h), ?_⟩; gi_wp2)
          have Y := HX.out.drew
          have Y2 := Y.turn 7 rfl (.loop (rec .ready none)) (grownBy_putObj' _ _ _) (World.putObj_heap_same (Y.all 7 _ rfl |>.lt rfl).2)
          exact ⟨⟨Y.obj 7 rfl, Y.obj 6 rfl⟩, .inl ⟨rfl, Y2.cell 5 rfl 0 rfl, Y2.free 5 rfl 0, HR.out.cutA hmn r3, r2.drop m, by omega, by omega, k, Ab, nb, cb, f', HL.out, HQ.out, HM.out k HT.out, Y2.setB 5 rfl 0 _⟩⟩
    rintro e W2 ⟨hv, ⟨A, n, c, zs', hp, hae⟩ | hp⟩
    · obtain ⟨r1, r2, r3, r4, k, Ab, nb, cb, f, e1, e2, e3, X⟩ := hp
      exact ⟨hv, .inl ⟨⟨X.obj 7 rfl, X.obj 6 rfl⟩, _, A, n, c, zs', ⟨r1, r2, r3, r4, k, Ab, nb, cb, f, e1, e2, e3, X⟩, hae⟩⟩
    · exact ⟨hv, .inr ⟨⟨hp.2.obj 3 rfl, hp.2.obj 2 rfl⟩, _, hp⟩⟩
  case done =>
    rintro W2 r r' hl2 hdf ⟨r0, A', n', c', zs', hp, hae⟩
    rw [hD] at hl2 hdf ⊢
    obtain ⟨r1, r2, r3, r4, k, Ab, nb, cb, f, e1, e2, e3, X⟩ := hp
    rw [parseF_end hae] at e3
    have X2 := X.turn 7 rfl (.loop r') (grownBy_putObj' _ _ _) (World.putObj_heap_same (X.all 7 _ rfl |>.lt rfl).2)
    generalize W2.putObj (D + 1) (.loop r') = W3 at X2 ⊢
    have HX := Lib.hid X2
    have HE := Lib.hid e3
    have HL := Lib.hid e1
    clear X X2 hl2 hdf r1 r2 r3 r4 e1 e2 e3 H8
    have cN0 : W3.cell? ⟨N, 0, none⟩ = some ((.int .i64 0 : Value)) := HX.out.cell 0 rfl 0 rfl
    have fN0 := HX.out.free 0 rfl 0
    have cN1 : W3.cell? ⟨N, 1, none⟩ = some ((.int .i64 0 : Value)) := HX.out.cell 0 rfl 1 rfl
    have fN1 := HX.out.free 0 rfl 1
    have cN2 : W3.cell? ⟨N, 2, none⟩ = some ((.bool false : Value)) := HX.out.cell 0 rfl 2 rfl
    have fN2 := HX.out.free 0 rfl 2
    have cN3 : W3.cell? ⟨N, 3, none⟩ = some ((.bool false : Value)) := HX.out.cell 0 rfl 3 rfl
    have fN3 := HX.out.free 0 rfl 3
    have cN4 : W3.cell? ⟨N, 4, none⟩ = some ((.int .u32 0 : Value)) := HX.out.cell 0 rfl 4 rfl
    have fN4 := HX.out.free 0 rfl 4
    have cN5 : W3.cell? ⟨N, 5, none⟩ = some ((.int .u32 0 : Value)) := HX.out.cell 0 rfl 5 rfl
    have fN5 := HX.out.free 0 rfl 5
    have cN6 : W3.cell? ⟨N, 6, none⟩ = some ((.slice none 0 0 : Value)) := HX.out.cell 0 rfl 6 rfl
    have fN6 := HX.out.free 0 rfl 6
    have cE : W3.cell? ⟨N + 1, 0, none⟩ = some (.int .i64 0) := HX.out.cell 1 rfl 0 rfl
    have fE := HX.out.free 1 rfl 0
    have cK0 : W3.cell? ⟨K, 0, none⟩ = some ((.int .i64 k.mss : Value)) := HX.out.cell 2 rfl 0 rfl
    have cK1 : W3.cell? ⟨K, 1, none⟩ = some ((.int .i64 k.sc : Value)) := HX.out.cell 2 rfl 1 rfl
    have cK2 : W3.cell? ⟨K, 2, none⟩ = some ((.bool k.sel : Value)) := HX.out.cell 2 rfl 2 rfl
    have cK3 : W3.cell? ⟨K, 3, none⟩ = some ((.bool k.st : Value)) := HX.out.cell 2 rfl 3 rfl
    have cK4 : W3.cell? ⟨K, 4, none⟩ = some ((.int .u32 k.ts : Value)) := HX.out.cell 2 rfl 4 rfl
    have cK5 : W3.cell? ⟨K, 5, none⟩ = some ((.int .u32 k.ec : Value)) := HX.out.cell 2 rfl 5 rfl
    have cK6 : W3.cell? ⟨K, 6, none⟩ = some ((.slice Ab nb cb : Value)) := HX.out.cell 2 rfl 6 rfl
    go_wp2_with fail
    have Y := ((((((((HX.out.setB 0 rfl 0 (.int .i64 k.mss)).setB 0 rfl 1 (.int .i64 k.sc)).setB 0 rfl 2 (.bool k.sel)).setB 0 rfl 3 (.bool k.st)).setB 0 rfl 4 (.int .u32 k.ts)).setB 0 rfl 5 (.int .u32 k.ec)).setB 0 rfl 6 (.slice Ab nb cb)).setB 1 rfl 0 (.int .i64 0))
    refine ⟨by simp, .inl ⟨D, _, rfl, run_takeDeferred (Y.obj 6 rfl), ?_⟩⟩
    have Z := Y.turn 6 rfl (.deferred none) (grownBy_putObj' _ _ _) (World.putObj_heap_same (Y.all 6 _ rfl |>.lt rfl).2)
    exact ⟨_, results_cells rfl _ _ N (N + 1) 32 (KNC k Ab nb cb) _ _ rfl rfl (Z.blk 0 rfl) Try.underlying32 rfl (by kernel_rfl) Try.underlying38 (Z.cell 1 rfl 0 rfl), .inr ⟨k, Ab, nb, cb, HE.out.symm, HL.out, rfl, Z.pick [8] (by decide) rfl⟩⟩
  case stop =>
    rintro W2 r r' hl2 hdf ⟨r0, hp⟩
    rw [hD] at hl2 hdf ⊢
    have X2 := hp.2.turn 3 rfl (.loop r') (grownBy_putObj' _ _ _) (World.putObj_heap_same (hp.2.all 3 _ rfl |>.lt rfl).2)
    refine ⟨by simp, .inl ⟨D, _, rfl, run_takeDeferred (X2.obj 2 rfl), ?_⟩⟩
    have Z := X2.turn 2 rfl (.deferred none) (grownBy_putObj' _ _ _) (World.putObj_heap_same (X2.all 2 _ rfl |>.lt rfl).2)
    exact ⟨_, results_cells rfl _ _ N (N + 1) 32 (KNC knZ none 0 0) _ _ rfl rfl (Z.blk 0 rfl) Try.underlying32 rfl (by kernel_rfl) Try.underlying38 (Z.cell 1 rfl 0 rfl), .inl ⟨hp.1, rfl, Z.bel⟩⟩
end Go.Proofs.Ythdpcblmmjocmaa
