/- bafflelaw09.Made: a header that can be written, and data. -/
import Derived.Test.YtnocbpagdoihmaaUdpL
import Derived.Test.YtnocbpagdoihmaaWAwake9
import Derived.Test.YtnocbpagdoihmaaRow
import Derived.Test.YtnocbpagdoihmaaReg
namespace Go.Proofs.Ytnocbpagdoihmaa
open Go.RowKit
set_option linter.unusedVariables false
attribute [local go_sem ↓] Go.wp_at_zero Go.wp_at_succ

/-- a datagram: what it is made of -/
def sm6 (fr tp : Int) (ck : Bool) (s d : Int) (x : Value) : Array Value := #[.int .u16 fr, .int .u16 tp, .bool ck, .int .u32 s, .int .u32 d, x]
def uh3 (sp dp : Int) (ck : Bool) : Array Value := #[.int .u16 sp, .int .u16 dp, .bool ck]
def max1 (x : Int) : Int := if x < 1 then 1 else x
theorem max1_bd {x : Int} (h : 0 ≤ x ∧ x ≤ 65535) : 1 ≤ max1 x ∧ max1 x ≤ 65535 := by unfold max1; split <;> omega
def Made9P (fr tp : Int) (ck : Bool) (w : World) (e : Ending) (w' : World) : Prop :=
  ∃ A n c data, e = .returned (.tuple #[.agg (uh3 fr (max1 tp) ck), .slice A n c]) ∧ OWN .u8 5 w' w.heap.size A n c data ∧ BD 255 data ∧ n ≤ 100 ∧ Below w.heap.size w w'

theorem results_cell_tmp1' {P : Program} {fn : Func} {p u1 : Tmp} {ty : TypeId} (h : fn.results = #[.cell p ty, .tmp u1]) (tmps : Array Value) (w : World) (g : Nat) (t : TypeId) (cs : Array Value) (fr : Nat × Nat) (d : TypeDesc)
    (hp : tmps.getD p undef = .pointer (some ⟨g, 0, none⟩)) (hg : w.heap[g]? = some (.cells cs t fr))
    (hu : P.underlying ty = some d) (hd : (match d with | .struct _ | .array _ _ => true | _ => false) = true) (hi : (P.info? ty).map (·.size) = some cs.size) :
    (results fn tmps).run P w = .ok (.tuple #[.agg cs, tmps.getD u1 undef]) w := by
  have hp' : tmps[p]?.getD undef = .pointer (some ⟨g, 0, none⟩) := by simpa using hp
  simp [results, h, hp', asAddr, run_loadVar_row w g t ty cs fr d hg hu hd hi]

set_option maxHeartbeats 8000000 in
set_option maxRecDepth 100000 in
theorem made9_any (fr tp : Int) (ck : Bool) (s d : Int) (A : Option Addr) (n c : Nat) (zs : List Int) (w : World) (h : RD .u8 w w.heap.size A n zs) (hz : BD 255 zs) (hn : n ≤ c) (hc : c ≤ maxLen) (ht : 0 ≤ tp ∧ tp ≤ 65535) :
    Calls Try.prog 16 #[.agg (sm6 fr tp ck s d (.slice A n c))] w (Made9P fr tp ck w) := by
  obtain ⟨i0, hi, hz0, hz1, hz2⟩ := info_parts infoU8
  have S0 := ((SP.start w).alloc 37 (sm6 fr tp ck s d (.slice A n c))).alloc 28 uhd0
  have S1 : SP w ((w.alloc (.cells (sm6 fr tp ck s d (.slice A n c)) 37)).alloc (.cells uhd0 28)) [.blk w.heap.size 37 (sm6 fr tp ck s d (.slice A n c)), .blk (w.heap.size + 1) 28 uhd0] := by simpa using S0
  clear S0
  obtain ⟨mm, hmm, hm2, hm3⟩ : ∃ mm : Nat, (if (100 : Int) < (n : Int) then (100 : Int) else (n : Int)) = (mm : Int) ∧ mm ≤ n ∧ mm ≤ 100 := by
    by_cases h : n ≤ 100
    · exact ⟨n, if_neg (by omega), Nat.le_refl _, h⟩
    · exact ⟨100, if_pos (by omega), by omega, Nat.le_refl _⟩
  obtain ⟨mt, hmt⟩ : ∃ mt, mt = max1 tp := ⟨_, rfl⟩
  have hmt2 : (if tp < 1 then (1 : Int) else tp) = mt := hmt.symm
  have HMT := Lib.hid hmt
  have R := Lib.hid h
  have p1 : (0 : Int) ≤ (mm : Int) := by omega
  have p2 : (mm : Int) ≤ (c : Int) := by omega
  clear h hmt
  go_enter Try.func16, Try.ntmps16
  unfold sm6
  go_upto_region 1 with fail
  rw [show (w.alloc (.cells #[.int .u16 fr, .int .u16 tp, .bool ck, .int .u32 s, .int .u32 d, .slice A n c] 37)).alloc (.cells #[.int .u16 0, .int .u16 0, .bool false] 28) = (w.alloc (.cells (sm6 fr tp ck s d (.slice A n c)) 37)).alloc (.cells uhd0 28) from rfl]
  generalize hw1 : (w.alloc (.cells (sm6 fr tp ck s d (.slice A n c)) 37)).alloc (.cells uhd0 28) = w1 at S1 ⊢
  clear hw1
  have f0 : w1.cell? ⟨w.heap.size, 0, none⟩ = some (.int .u16 fr) := S1.cell 0 rfl 0 rfl
  have f1 : w1.cell? ⟨w.heap.size, 1, none⟩ = some (.int .u16 tp) := S1.cell 0 rfl 1 rfl
  have f2 : w1.cell? ⟨w.heap.size, 2, none⟩ = some (.bool ck) := S1.cell 0 rfl 2 rfl
  have f5 : w1.cell? ⟨w.heap.size, 5, none⟩ = some (.slice A n c) := S1.cell 0 rfl 5 rfl
  have g0 : w1.cell? ⟨w.heap.size + 1, 0, none⟩ = some (.int .u16 0) := S1.cell 1 rfl 0 rfl
  have g1 : w1.cell? ⟨w.heap.size + 1, 1, none⟩ = some (.int .u16 0) := S1.cell 1 rfl 1 rfl
  have g2 : w1.cell? ⟨w.heap.size + 1, 2, none⟩ = some (.bool false) := S1.cell 1 rfl 2 rfl
  have z0 := S1.free 1 rfl 0
  have z1 := S1.free 1 rfl 1
  have z2 := S1.free 1 rfl 2
  have hlt1 : w.heap.size < w1.heap.size := (S1.blk 0 rfl).lt
  have hlt2 : w.heap.size + 1 < w1.heap.size := (S1.blk 1 rfl).lt
  have S1H := Lib.hid S1
  clear S1
  refine wp_region_noPanic ?_
  refine wp_region_held_drew (S := fun W' => W'.cell? ⟨w.heap.size, 0, none⟩ = some (.int .u16 fr) ∧ W'.cell? ⟨w.heap.size, 1, none⟩ = some (.int .u16 tp) ∧ W'.cell? ⟨w.heap.size, 2, none⟩ = some (.bool ck) ∧ W'.cell? ⟨w.heap.size, 5, none⟩ = some (.slice A n c)) (by kernel_rfl) (by go_keep) (fun hHeld => ?_)
  refine' take_lit (i := 0) (v := _) rfl (by kernel_rfl) (by kernel_rfl) (by kernel_rfl) (fun _ _ _ h => h) (Or.inl ⟨by rfl, ?yy1⟩) (by assumption) ?rr1
  case yy1 => intro w' hSw; (try dsimp only at hSw); go_simp; try (with_reducible rfl)
  try simp only [Act.put, List.setIfInBounds_toArray, List.set_cons_zero, List.set_cons_succ]
  refine' take_lit (i := 1) (v := _) rfl (by kernel_rfl) (by kernel_rfl) (by kernel_rfl) (fun _ _ _ h => h) (Or.inl ⟨by rfl, ?yy2⟩) (by assumption) ?rr2
  case yy2 => intro w' hSw; (try dsimp only at hSw); go_simp; try (with_reducible rfl)
  try simp only [Act.put, List.setIfInBounds_toArray, List.set_cons_zero, List.set_cons_succ]
  refine' take_lit (i := 2) (v := _) rfl (by kernel_rfl) (by kernel_rfl) (by kernel_rfl) (fun _ _ _ h => h) (Or.inl ⟨by rfl, ?yy3⟩) (by assumption) ?rr3
  case yy3 => intro w' hSw; (try dsimp only at hSw); go_simp; try (with_reducible rfl)
  try simp only [Act.put, List.setIfInBounds_toArray, List.set_cons_zero, List.set_cons_succ]
  refine' take_lit (i := 3) (v := _) rfl (by kernel_rfl) (by kernel_rfl) (by kernel_rfl) (fun _ _ _ h => h) (Or.inl ⟨by rfl, ?yy4⟩) (by assumption) ?rr4
  case yy4 => intro w' hSw; (try dsimp only at hSw); go_simp; try (with_reducible rfl)
  try simp only [Act.put, List.setIfInBounds_toArray, List.set_cons_zero, List.set_cons_succ]
  refine' take_lit (i := 4) (v := _) rfl (by kernel_rfl) (by kernel_rfl) (by kernel_rfl) (fun _ _ _ h => h) (Or.inl ⟨by rfl, ?yy5⟩) (by assumption) ?rr5
  case yy5 => intro w' hSw; (try dsimp only at hSw); go_simp; try (with_reducible rfl)
  try simp only [Act.put, List.setIfInBounds_toArray, List.set_cons_zero, List.set_cons_succ]
  refine' take_lit (i := 5) (v := _) rfl (by kernel_rfl) (by kernel_rfl) (by kernel_rfl) (fun _ _ _ h => h) (Or.inl ⟨by rfl, ?yy6⟩) (by assumption) ?rr6
  case yy6 => intro w' hSw; (try dsimp only at hSw); go_simp; try (with_reducible rfl)
  try simp only [Act.put, List.setIfInBounds_toArray, List.set_cons_zero, List.set_cons_succ]
  refine' take_lit (i := 6) (v := _) rfl (by kernel_rfl) (by kernel_rfl) (by kernel_rfl) (fun _ _ _ h => h) (Or.inl ⟨by rfl, ?yy7⟩) (by assumption) ?rr7
  case yy7 => intro w' hSw; (try dsimp only at hSw); go_simp; try (with_reducible rfl)
  try simp only [Act.put, List.setIfInBounds_toArray, List.set_cons_zero, List.set_cons_succ]
  refine' take_lit (i := 7) (v := _) rfl (by kernel_rfl) (by kernel_rfl) (by kernel_rfl) (fun _ _ _ h => h) (Or.inl ⟨by rfl, ?yy8⟩) (by assumption) ?rr8
  case yy8 => intro w' hSw; (try dsimp only at hSw); go_simp; try (with_reducible rfl)
  try simp only [Act.put, List.setIfInBounds_toArray, List.set_cons_zero, List.set_cons_succ]
  refine' take_lit (i := 9) (v := _) rfl (by kernel_rfl) (by kernel_rfl) (by kernel_rfl) (fun _ _ _ h => h) (Or.inl ⟨by rfl, ?yy9⟩) (by assumption) ?rr9
  case yy9 => intro w' hSw; (try dsimp only at hSw); go_simp; try (with_reducible rfl)
  try simp only [Act.put, List.setIfInBounds_toArray, List.set_cons_zero, List.set_cons_succ]
  refine' take_lit (i := 10) (v := _) rfl (by kernel_rfl) (by kernel_rfl) (by kernel_rfl) (fun _ _ _ h => h) (Or.inl ⟨by rfl, ?yy10⟩) (by assumption) ?rr10
  case yy10 => intro w' hSw; (try dsimp only at hSw); go_simp; try (with_reducible rfl)
  try simp only [Act.put, List.setIfInBounds_toArray, List.set_cons_zero, List.set_cons_succ]
  refine' take_lit (i := 11) (v := _) rfl (by kernel_rfl) (by kernel_rfl) (by kernel_rfl) (fun _ _ _ h => h) (Or.inl ⟨by rfl, ?yy11⟩) (by assumption) ?rr11
  case yy11 => intro w' hSw; (try dsimp only at hSw); go_simp; try (with_reducible rfl)
  try simp only [Act.put, List.setIfInBounds_toArray, List.set_cons_zero, List.set_cons_succ]
  refine' take_lit (i := 12) (v := _) rfl (by kernel_rfl) (by kernel_rfl) (by kernel_rfl) (fun _ _ _ h => h) (Or.inl ⟨by rfl, ?yy12⟩) (by assumption) ?rr12
  case yy12 => intro w' hSw; (try dsimp only at hSw); go_simp; try (with_reducible rfl)
  try simp only [Act.put, List.setIfInBounds_toArray, List.set_cons_zero, List.set_cons_succ]
  refine' take_lit (i := 13) (v := _) rfl (by kernel_rfl) (by kernel_rfl) (by kernel_rfl) (fun _ _ _ h => h) (Or.inl ⟨by rfl, ?yy13⟩) (by assumption) ?rr13
  case yy13 => intro w' hSw; (try dsimp only at hSw); go_simp; try (with_reducible rfl)
  try simp only [Act.put, List.setIfInBounds_toArray, List.set_cons_zero, List.set_cons_succ]
  refine' take_lit (i := 14) (v := _) rfl (by kernel_rfl) (by kernel_rfl) (by kernel_rfl) (fun _ _ _ h => h) (Or.inl ⟨by rfl, ?yy14⟩) (by assumption) ?rr14
  case yy14 => intro w' hSw; (try dsimp only at hSw); go_simp; try (with_reducible rfl)
  try simp only [Act.put, List.setIfInBounds_toArray, List.set_cons_zero, List.set_cons_succ]
  refine' take_lit (i := 15) (v := _) rfl (by kernel_rfl) (by kernel_rfl) (by kernel_rfl) (fun _ _ _ h => h) (Or.inl ⟨by rfl, ?yy15⟩) (by assumption) ?rr15
  case yy15 => intro w' hSw; (try dsimp only at hSw); go_simp; try (with_reducible rfl)
  try simp only [Act.put, List.setIfInBounds_toArray, List.set_cons_zero, List.set_cons_succ]
  have Sd := S1H.out.drew
  have Ta := Lib.hid (Sd.allocI' .u8 5 [] (Nat.zero_le _) (N := w1.heap.size) (by simp))
  clear Sd
  refine wpAnyH_ready (rs := [8]) (by kernel_rfl) (by simp) ?_
  refine cons_lit rfl (fun K hK => ?ss8x16) AllReadyH.nil
  case ss8x16 =>
    go_simp
    refine hK.out _ _ (by exact ⟨Ta.out.cell 0 rfl 0 rfl, Ta.out.cell 0 rfl 1 rfl, Ta.out.cell 0 rfl 2 rfl, Ta.out.cell 0 rfl 5 rfl⟩) (fun hHeld => ?_)
    clear hK K
    try simp only [Act.put, List.setIfInBounds_toArray, List.set_cons_zero, List.set_cons_succ]
    refine wpAnyH_ready (rs := [16]) (by kernel_rfl) (by simp) ?_
    refine cons_lit rfl (fun K hK => ?ss16x17) AllReadyH.nil
    case ss16x17 =>
      refine step_append_rd _ (by rfl) _ _ 22 (by rfl) .u8 w.heap.size 5 i0 1 Try.underlying22 hi hz0 hz1 hz2 (some ⟨w1.heap.size, 0, none⟩) 0 0 [] (by rfl) (Ta.out.own 2 rfl) w.heap.size A mm c (zs.take mm) (by rfl) ((R.out.below Ta.out.bel).take hm2) (by simp only [maxLen]; omega) (by omega) Ta.out.size ?_
      intro A9 c9 w9 happ
      have U := Lib.hid (Ta.out.app 2 rfl happ)
      clear happ
      have c0 := U.out.cell 1 rfl 0 rfl
      have c1 := U.out.cell 1 rfl 1 rfl
      have c2 := U.out.cell 1 rfl 2 rfl
      have d0 := U.out.free 1 rfl 0
      have d1 := U.out.free 1 rfl 1
      have d2 := U.out.free 1 rfl 2
      refine hK.out _ _ (by exact ⟨U.out.cell 0 rfl 0 rfl, U.out.cell 0 rfl 1 rfl, U.out.cell 0 rfl 2 rfl, U.out.cell 0 rfl 5 rfl⟩) (fun hHeld => ?_)
      clear hK K
      try simp only [Act.put, List.setIfInBounds_toArray, List.set_cons_zero, List.set_cons_succ]
      refine wpAnyH_ready (rs := [17]) (by kernel_rfl) (by simp) ?_
      refine cons_lit rfl (fun K hK => ?ss17x18) AllReadyH.nil
      case ss17x18 =>
        go_simp
        have V := Lib.hid (((U.out.setB 1 rfl 0 (.int .u16 fr)).setB 1 rfl 1 (.int .u16 mt)).setB 1 rfl 2 (.bool ck))
        refine hK.out _ _ (by exact ⟨V.out.cell 0 rfl 0 rfl, V.out.cell 0 rfl 1 rfl, V.out.cell 0 rfl 2 rfl, V.out.cell 0 rfl 5 rfl⟩) (fun hHeld => ?_)
        clear hK K
        try simp only [Act.put, List.setIfInBounds_toArray, List.set_cons_zero, List.set_cons_succ]
        refine' take_lit (i := 18) (v := _) rfl (by kernel_rfl) (by kernel_rfl) (by kernel_rfl) (fun _ _ _ h => h) (Or.inl ⟨by rfl, ?yy19⟩) (by assumption) ?rr19
        case yy19 => intro w' hSw; (try dsimp only at hSw); go_simp; try (with_reducible rfl)
        try simp only [Act.put, List.setIfInBounds_toArray, List.set_cons_zero, List.set_cons_succ]
        refine wpAnyH_done (by kernel_rfl) ?_ _
        refine NoPanic.normal ?_
        have Z := Lib.hid V.out
        go_wp2_with fail
        refine bodyPost_ret (results_cell_tmp1' rfl _ _ (w.heap.size + 1) 28 _ _ _ rfl (Z.out.blk 1 rfl) Try.underlying28 rfl (by kernel_rfl)) rfl ⟨A9, mm, c9, zs.take mm, ?_, (by have := Z.out.own 2 rfl; rwa [Nat.zero_add] at this), hz.take mm, hm3, Z.out.bel⟩
        rw [← HMT.out]; rfl
end Go.Proofs.Ytnocbpagdoihmaa
