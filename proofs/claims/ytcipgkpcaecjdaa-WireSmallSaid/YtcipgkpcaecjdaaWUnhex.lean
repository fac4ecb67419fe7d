import Derived.Test.YtcipgkpcaecjdaaWDigit
import Derived.Test.YtcipgkpcaecjdaaWCopy
import Derived.Recover
import Derived.Defers
import Derived.Deep.RegionHeld3
import Derived.Deep.DeepCutAuto
/- wire.Unhex: what it returns. (Printed by gen_unhex.py.) -/
namespace Go.Proofs.Ytcipgkpcaecjdaa
open Go.RowKit
set_option linter.unusedVariables false
set_option linter.unusedSimpArgs false

/-- Q, but at a panic for every good frame -/
def PanicAt (Good : Act → Prop) (Q : Exit → Act → World → Prop) : Exit → Act → World → Prop
  | .panic c, a, w => Good a ∧ ∀ a', Good a' → Q (.panic c) a' w
  | e, a, w => Q e a w
theorem PanicAt.imp {Good : Act → Prop} {Q : Exit → Act → World → Prop} : ∀ (e : Exit) (a : Act) (w : World), PanicAt Good Q e a w → Q e a w := fun e a w h => by
  cases e <;> first | exact h | exact h.2 _ h.1
theorem PanicAt.normal {Good : Act → Prop} {Q : Exit → Act → World → Prop} {a : Act} {w : World} (h : Q .normal a w) : PanicAt Good Q .normal a w := h
theorem nameU {K : Act → World → Prop} {a : Act} {W : World} (h : ∀ W', W' = W → K a W') : K a W := h W rfl
/-- the frames in which the results lie at O and E and the closure is deferred -/
def GoodU (O E : Nat) (a : Act) : Prop := a.tmps[2]? = some (.pointer (some ⟨O, 0, none⟩)) ∧ a.tmps[3]? = some (.pointer (some ⟨E, 0, none⟩)) ∧ a.defers = [{ target := .fn (.func 47) #[.pointer (some ⟨O, 0, none⟩), .pointer (some ⟨E, 0, none⟩)], args := #[] }]
theorem good_put {O E : Nat} {a : Act} {d : Option Tmp} {v : Value} (hd : d ≠ some 2 ∧ d ≠ some 3) (h : GoodU O E (a.put d v)) : GoodU O E a := by
  cases d with
  | none => exact h
  | some d =>
    obtain ⟨h1, h2, h3⟩ := h
    have d2 : d ≠ 2 := fun e => hd.1 (by rw [e])
    have d3 : d ≠ 3 := fun e => hd.2 (by rw [e])
    refine ⟨?_, ?_, h3⟩
    · rw [← h1]; simp [Act.put, d2]
    · rw [← h2]; simp [Act.put, d3]

theorem uh_results (tmps : Array Value) (w : World) (O E : Nat) (A : Option Addr) (n c : Nat) (er : Int) (h2 : tmps[2]? = some (.pointer (some ⟨O, 0, none⟩))) (h3 : tmps[3]? = some (.pointer (some ⟨E, 0, none⟩)))
    (cO : w.cell? ⟨O, 0, none⟩ = some (.slice A n c)) (cE : w.cell? ⟨E, 0, none⟩ = some (.int .i64 er)) :
    (results Try.f15 tmps).run Try.prog w = .ok (.tuple #[.slice A n c, .int .i64 er]) w := by
  simp [results, Try.results15, h2, h3, go_sem, cO, cE]

theorem uhc_panicking (O E : Nat) (x y : Value) (u : TypeId) (pv : Value) (older : List PanicEntry) (w : World) (hne : O ≠ E) (hc : w.cell? ⟨O, 0, none⟩ = some x) (hd : w.cell? ⟨E, 0, none⟩ = some y) (hz : w.frozen? ⟨O, 0, none⟩ = false) (hy : w.frozen? ⟨E, 0, none⟩ = false) :
    CallsD Try.prog 47 #[.pointer (some ⟨O, 0, none⟩), .pointer (some ⟨E, 0, none⟩)] (.panicking ({ v := .iface u pv, recovered := false } :: older)) w fun e u' w' =>
      e = .returned (.tuple #[]) ∧ u' = .panicking ({ v := .iface u pv, recovered := true } :: older) ∧ w' = (w.setCell ⟨O, 0, none⟩ (.slice none 0 0)).setCell ⟨E, 0, none⟩ (.int .i64 10) := by
  have hd' : (w.setCell ⟨O, 0, none⟩ (.slice none 0 0)).cell? ⟨E, 0, none⟩ = some y := by
    rw [World.cell?_setCell_other]
    · exact hd
    · intro h; cases h; exact hne rfl
  refine callsD_of_wpS Try.func47 rfl fun c₀ cs hu => ?_
  apply wpS_seq
  apply wpS_region
  simp [wpOpsS, go_sem, recoverD, hu, Try.ntmps47, Exit.thenS]
  refine wpS_cond (t := true) (by simp [Act.eval, Array.replicate]) ?_
  simp only [if_true]
  apply wpS_region
  simp [wpOpsS, go_sem, hc, hz, hy, hd', bodyPostS, results, Try.results47]

theorem uhc_idle (O E : Nat) (w : World) :
    CallsD Try.prog 47 #[.pointer (some ⟨O, 0, none⟩), .pointer (some ⟨E, 0, none⟩)] .returning w fun e u' w' => e = .returned (.tuple #[]) ∧ u' = .returning ∧ w' = w := by
  refine callsD_of_wpS Try.func47 rfl fun c₀ cs hu => ?_
  apply wpS_seq
  apply wpS_region
  simp [wpOpsS, go_sem, recoverD, hu, Try.ntmps47, Exit.thenS]
  refine wpS_cond (t := false) (by simp [Act.eval, Array.replicate]) ?_
  simp only [Bool.false_eq_true, if_false]
  refine wpS_of_wp (wp_skip ?_)
  cases c₀
  simp_all [bodyPostS, results, Try.results47]

/-- what Unhex leaves -/
def UHP (w : World) (s : ByteArray) (e : Ending) (w' : World) : Prop := ∃ A n c, e = .returned (.tuple #[.slice A n c, .int .i64 (UNH s).2]) ∧ OWN .u8 5 w' w.heap.size A n c (UNH s).1 ∧ Below w.heap.size w w'

/-- the way out by a panic -/
theorem uh_panic (w w1 : World) (s : ByteArray) (O E : Nat) (x y : Value) (hU : UNH s = ([], 10)) (L : List IT) (X : SP w w1 (.blk O 22 #[x] :: .blk E 26 #[y] :: L)) (a' : Act) (hg : GoodU O E a') :
    bodyPostD Try.prog Try.f15 (UHP w s) (.panic badDigit) a' w1 := by
  obtain ⟨h2, h3, hd⟩ := hg
  have hne : O ≠ E := fun h => by have := X.ne 0 1 rfl rfl (by decide) (g := O) rfl; exact this (by rw [h]; rfl)
  have hY := (X.setB 0 rfl 0 (.slice none 0 0)).setB 1 rfl 0 (.int .i64 10)
  show Leaves Try.prog Try.f15 a'.tmps _ a'.defers (.panicking badDigit) w1
  rw [hd]
  refine leaves_cons (f := 47) (args := #[.pointer (some ⟨O, 0, none⟩), .pointer (some ⟨E, 0, none⟩)]) (by simp) (by simp [go_sem]) ?_
  refine (uhc_panicking O E x y 26 (.int .i64 10) [] w1 hne (X.cell 0 rfl 0 rfl) (X.cell 1 rfl 0 rfl) (X.free 0 rfl 0) (X.free 1 rfl 0)).mono ?_
  rintro e u' w'' ⟨rfl, rfl, rfl⟩
  refine ⟨_, uh_results a'.tmps _ O E none 0 0 10 h2 h3 (hY.cell 0 rfl 0 rfl) (hY.cell 1 rfl 0 rfl), none, 0, 0, by rw [hU], by rw [hU]; exact OWN.nil, hY.bel⟩
/-- the way out by a return, the closure deferred -/
theorem uh_ret (w w1 : World) (s : ByteArray) (O E : Nat) (A : Option Addr) (n c : Nat) (zs : List Int) (er : Int) (hU : UNH s = (zs, er)) (X : SP w w1 [.blk O 22 #[.slice A n c], .blk E 26 #[.int .i64 er], .own .u8 5 A n c zs]) (tmps : Array Value) (h2 : tmps[2]? = some (.pointer (some ⟨O, 0, none⟩))) (h3 : tmps[3]? = some (.pointer (some ⟨E, 0, none⟩))) :
    Leaves Try.prog Try.f15 tmps (UHP w s) [] .returning w1 :=
  ⟨_, uh_results tmps w1 O E A n c er h2 h3 (X.cell 0 rfl 0 rfl) (X.cell 1 rfl 0 rfl), A, n, c, by rw [hU], by rw [hU]; exact X.own 2 rfl, X.bel⟩

set_option maxHeartbeats 4000000 in
set_option maxRecDepth 100000 in
theorem unhex_any (s : ByteArray) (w : World) (hs : s.size ≤ 9223372036854775807) : Calls Try.prog 15 #[.string s] w (UHP w s) := by
  obtain ⟨i0, hi, hz0, hz1, hz2⟩ := info_parts infoU8
  have hmf : ∀ (fn : Fn) (first cap : Array Value) (w : World), (Instr.makeFunc fn first cap).run Try.prog w = .ok (.func fn first cap) w := fun _ _ _ _ => rfl
  have X0 := Lib.hid (((SP.start w).alloc' 22 #[.slice none 0 0] (N := w.heap.size) rfl).alloc' 26 #[.int .i64 0] (N := w.heap.size + 1) (by simp))
  obtain ⟨O, hO⟩ : ∃ O, O = w.heap.size := ⟨_, rfl⟩
  obtain ⟨E, hE⟩ : ∃ E, E = w.heap.size + 1 := ⟨_, rfl⟩
  rw [← hE, ← hO] at X0
  go_enter_defers Try.func15, Try.ntmps15
  go_upto_region 1 with fail
  rw [← hE, ← hO]
  generalize (w.alloc (.cells #[.slice none 0 0] 22)).alloc (.cells #[.int .i64 0] 26) = w1 at X0 ⊢
  replace X0 := Lib.hid (show SP w w1 [.blk O 22 #[.slice none 0 0], .blk E 26 #[.int .i64 0]] from X0.out)
  clear hO hE
  have c0 : w1.cell? ⟨O, 0, none⟩ = some (.slice none 0 0) := X0.out.cell 0 rfl 0 rfl
  have c1 : w1.cell? ⟨E, 0, none⟩ = some (.int .i64 0) := X0.out.cell 1 rfl 0 rfl
  have d0 : w1.frozen? ⟨O, 0, none⟩ = false := X0.out.free 0 rfl 0
  have d1 : w1.frozen? ⟨E, 0, none⟩ = false := X0.out.free 1 rfl 0
  by_cases hbig : 262144 < s.size
  · have t1 : (262144 : Int) < (s.size : Int) := by omega
    have hU : UNH s = ([], 3) := by unfold UNH; rw [if_pos hbig]
    have HU := Lib.hid hU
    have X1 := Lib.hid (((X0.out.setB 0 rfl 0 (.slice none 0 0)).setB 1 rfl 0 (.int .i64 3)).pushOwn (k := .u8) (e := 5) (Below.refl _ _) OWN.nil)
    have f1 : (w1.setCell ⟨O, 0, none⟩ (.slice none 0 0)).cell? ⟨E, 0, none⟩ = some (.int .i64 0) := (X0.out.setB 0 rfl 0 (.slice none 0 0)).cell 1 rfl 0 rfl
    clear hU hbig
    go_wp2_with fail
    exact uh_ret w _ s O E none 0 0 [] 3 HU.out X1.out _ rfl rfl
  have t1 : ¬ (262144 : Int) < (s.size : Int) := by omega
  obtain ⟨md, hmd⟩ : ∃ md : Nat, s.size % 2 = md := ⟨_, rfl⟩
  have t2 : (s.size : Int).tmod 2 = (md : Int) := by rw [Int.tmod_eq_emod_of_nonneg (by omega)]; omega
  by_cases hodd : md = 1
  · subst hodd
    have hU : UNH s = ([], 10) := by unfold UNH; rw [if_neg hbig, unL_odd _ _ (Nat.le_refl _) (by rw [SB_len]; exact hmd)]
    have HU := Lib.hid hU
    have X1 := Lib.hid (((X0.out.setB 0 rfl 0 (.slice none 0 0)).setB 1 rfl 0 (.int .i64 10)).pushOwn (k := .u8) (e := 5) (Below.refl _ _) OWN.nil)
    have f1 : (w1.setCell ⟨O, 0, none⟩ (.slice none 0 0)).cell? ⟨E, 0, none⟩ = some (.int .i64 0) := (X0.out.setB 0 rfl 0 (.slice none 0 0)).cell 1 rfl 0 rfl
    clear hU hbig hmd
    go_wp2_with fail
    exact uh_ret w _ s O E none 0 0 [] 10 HU.out X1.out _ rfl rfl
  obtain rfl : md = 0 := by omega
  have HM := Lib.hid hmd
  have HBG := Lib.hid hbig
  clear hmd hbig hodd c0 c1 d0 d1
  go_upto_region 7 with fail
  go_loopw [4] (fun s4 wr => ∃ (k j : Nat) (A : Option Addr) (c : Nat) (acc : List Int), j = 2 * k ∧ j ≤ s.size ∧ s4 = .int .i64 (j : Int) ∧ Hid (unL ((SB s).take j) = some acc ∧ SP w wr [.blk O 22 #[.slice A k c], .blk E 26 #[.int .i64 0], .own .u8 5 A k c acc])) (fun s4 _ => s.size - (intOf s4).toNat)
  case atStart => exact ⟨0, 0, none, 0, [], rfl, by omega, rfl, Lib.hid ⟨rfl, X0.out.pushOwn (Below.refl _ _) OWN.nil⟩⟩
  case round =>
    obtain ⟨k, j, A, c, acc, hj, hk, rfl, HX⟩ := hrel
    obtain ⟨wo, rfl⟩ : ∃ wo : World, wo = wr := ⟨_, rfl⟩
    clear X0
    have HJ := Lib.hid hj
    have hj2 : j % 2 = 0 := by omega
    have HJ2 := Lib.hid hj2
    have hkb : k ≤ 131072 := by have := HBG.out; omega
    clear hj hj2
    by_cases hlt : j < s.size
    case neg =>
      have t3 : ¬ (j : Int) < (s.size : Int) := by omega
      have hU : UNH s = (acc, 0) := by
        have h1 := HX.out.1
        rw [List.take_of_length_le (by rw [SB_len]; omega)] at h1
        unfold UNH
        rw [if_neg HBG.out, h1]
      have HU := Lib.hid hU
      have X := Lib.hid HX.out.2
      have c0 : wo.cell? ⟨O, 0, none⟩ = some (.slice A k c) := X.out.cell 0 rfl 0 rfl
      have c1 : wo.cell? ⟨E, 0, none⟩ = some (.int .i64 0) := X.out.cell 1 rfl 0 rfl
      have d0 : wo.frozen? ⟨O, 0, none⟩ = false := X.out.free 0 rfl 0
      have d1 : wo.frozen? ⟨E, 0, none⟩ = false := X.out.free 1 rfl 0
      have X1 := Lib.hid (show SP w ((wo.setCell ⟨O, 0, none⟩ (.slice A k c)).setCell ⟨E, 0, none⟩ (.int .i64 0)) [.blk O 22 #[.slice A k c], .blk E 26 #[.int .i64 0], .own .u8 5 A k c acc] from (X.out.setB 0 rfl 0 (.slice A k c)).setB 1 rfl 0 (.int .i64 0))
      have f1 : (wo.setCell ⟨O, 0, none⟩ (.slice A k c)).cell? ⟨E, 0, none⟩ = some (.int .i64 0) := (X.out.setB 0 rfl 0 (.slice A k c)).cell 1 rfl 0 rfl
      clear hU HX hlt
      go_wp2_with fail
      refine leaves_cons (f := 47) (args := #[.pointer (some ⟨O, 0, none⟩), .pointer (some ⟨E, 0, none⟩)]) (by simp) (by simp [go_sem]) ?_
      refine (uhc_idle O E _).mono ?_
      rintro e u' w2 ⟨rfl, rfl, rfl⟩
      exact uh_ret w _ s O E A k c acc 0 HU.out X1.out _ rfl rfl
    have hlt2 : j + 1 < s.size := by have := HM.out; have := HJ2.out; omega
    have t3 : (j : Int) < (s.size : Int) := by omega
    have e0 : IntKind.i64.wrap ((j : Int) + 1) = (j : Int) + 1 := IntWalk.i64_in _ (by omega)
    have e9 : IntKind.i64.wrap ((j : Int) + 2) = (j : Int) + 2 := IntWalk.i64_in _ (by omega)
    have i1 := str_idx s j (by omega)
    have i2 : ∀ W : World, (Instr.index 9 (.string s) (.int .i64 ((j : Int) + 1))).run Try.prog W = .ok (.int .u8 ((SB s)[j + 1]?.getD 0)) W := str_idx s (j + 1) (by omega)
    have hsb : BD 255 (SB s) := UB_bd s.data.toList
    have ha := hsb.get (by omega) j
    have hb := hsb.get (by omega) (j + 1)
    have HT := Lib.hid (show ∃ r, SB s = (SB s).take j ++ (SB s)[j]?.getD 0 :: (SB s)[j + 1]?.getD 0 :: r by
      refine ⟨(SB s).drop (j + 2), ?_⟩
      have l1 : j < (SB s).length := by rw [SB_len]; omega
      have l2 : j + 1 < (SB s).length := by rw [SB_len]; omega
      rw [List.getElem?_eq_getElem l1, List.getElem?_eq_getElem l2]
      simp only [Option.getD_some]
      rw [← List.drop_eq_getElem_cons l2, ← List.drop_eq_getElem_cons l1, List.take_append_drop])
    obtain ⟨a, hae⟩ : ∃ a, (SB s)[j]?.getD 0 = a := ⟨_, rfl⟩
    obtain ⟨b, hbe⟩ : ∃ b, (SB s)[j + 1]?.getD 0 = b := ⟨_, rfl⟩
    rw [hae] at i1 ha HT
    rw [hbe] at i2 hb HT
    have HX1 := Lib.hid HX.out.1
    have X := Lib.hid HX.out.2
    clear HX hae hbe hsb
    have HBAD := Lib.hid (show (dg a < 0 ∨ dg b < 0) → UNH s = ([], 10) from fun hab => by
      obtain ⟨r, hr⟩ := HT.out
      unfold UNH
      rw [if_neg HBG.out]
      have := unL_bad acc ((SB s).take j) r a b _ (Nat.le_refl _) HX1.out hab
      rw [← hr] at this
      rw [this])
    have HMORE := Lib.hid (show 0 ≤ dg a → 0 ≤ dg b → unL ((SB s).take (j + 2)) = some (acc ++ [16 * dg a + dg b]) from fun h1 h2 => by
      obtain ⟨r, hr⟩ := HT.out
      have := unL_more acc ((SB s).take j) a b _ (Nat.le_refl _) HX1.out h1 h2
      have lj : ((SB s).take j).length = j := by rw [List.length_take, SB_len]; omega
      have h3 : (SB s).take (j + 2) = (SB s).take j ++ [a, b] := by
        conv => lhs; rw [hr]
        rw [List.take_append, lj, show j + 2 - j = 2 by omega, List.take_of_length_le (l := (SB s).take j) (by omega)]
        rfl
      rw [h3]; exact this)
    clear HT HX1 HBG HM
    have hx := X.out.drew
    have cO : wo.drew.cell? ⟨O, 0, none⟩ = some (.slice A k c) := hx.cell 0 rfl 0 rfl
    clear hx cO
    go_upto_region 9 with fail
    by_cases hda : dg a < 0
    · have WHY := Lib.hid (HBAD.out (.inl hda))
      refine Code.wp_mono (PanicAt.imp (Good := GoodU O E)) ?_
      refine wp_region_held_drew (S := fun _ => True) (by kernel_rfl) (by trivial) (fun hHeld => ?_)
      have XD := Lib.hid X.out.drew
      clear X
      generalize wo.drew = v0 at XD hHeld ⊢
      refine' take_lit (i := 1) (v := _) rfl (by kernel_rfl) (by kernel_rfl) (by kernel_rfl) (fun _ _ _ h => ⟨good_put (by decide) h.1, h.2⟩) (Or.inl ⟨by rfl, ?yy1⟩) (by assumption) ?rr1
      case yy1 => intro w' hSw; (try dsimp only at hSw); go_simp; try (with_reducible rfl)
      (try simp only [Act.put]); (try simp only [List.setIfInBounds_toArray, List.set_cons_zero, List.set_cons_succ])
      refine' take_lit (i := 2) (v := _) rfl (by kernel_rfl) (by kernel_rfl) (by kernel_rfl) (fun _ _ _ h => ⟨good_put (by decide) h.1, h.2⟩) (Or.inl ⟨by rfl, ?yy2⟩) (by assumption) ?rr2
      case yy2 => intro w' hSw; (try dsimp only at hSw); go_simp; try (with_reducible rfl)
      (try simp only [Act.put]); (try simp only [List.setIfInBounds_toArray, List.set_cons_zero, List.set_cons_succ])
      refine' take_lit (i := 3) (v := _) rfl (by kernel_rfl) (by kernel_rfl) (by kernel_rfl) (fun _ _ _ h => ⟨good_put (by decide) h.1, h.2⟩) (Or.inl ⟨by rfl, ?yy3⟩) (by assumption) ?rr3
      case yy3 => intro w' hSw; (try dsimp only at hSw); go_simp; try (with_reducible rfl)
      (try simp only [Act.put]); (try simp only [List.setIfInBounds_toArray, List.set_cons_zero, List.set_cons_succ])
      refine' take_lit (i := 6) (v := _) rfl (by kernel_rfl) (by kernel_rfl) (by kernel_rfl) (fun _ _ _ h => ⟨good_put (by decide) h.1, h.2⟩) (Or.inl ⟨by rfl, ?yy4⟩) (by assumption) ?rr4
      case yy4 => intro w' hSw; (try dsimp only at hSw); go_simp; try (with_reducible rfl)
      (try simp only [Act.put]); (try simp only [List.setIfInBounds_toArray, List.set_cons_zero, List.set_cons_succ])
      refine' take_lit (i := 7) (v := _) rfl (by kernel_rfl) (by kernel_rfl) (by kernel_rfl) (fun _ _ _ h => ⟨good_put (by decide) h.1, h.2⟩) (Or.inl ⟨by rfl, ?yy5⟩) (by assumption) ?rr5
      case yy5 => intro w' hSw; (try dsimp only at hSw); go_simp; try (with_reducible rfl)
      (try simp only [Act.put]); (try simp only [List.setIfInBounds_toArray, List.set_cons_zero, List.set_cons_succ])
      refine' take_lit (i := 8) (v := _) rfl (by kernel_rfl) (by kernel_rfl) (by kernel_rfl) (fun _ _ _ h => ⟨good_put (by decide) h.1, h.2⟩) (Or.inl ⟨by rfl, ?yy6⟩) (by assumption) ?rr6
      case yy6 => intro w' hSw; (try dsimp only at hSw); go_simp; try (with_reducible rfl)
      (try simp only [Act.put]); (try simp only [List.setIfInBounds_toArray, List.set_cons_zero, List.set_cons_succ])
      refine' take_lit (i := 9) (v := _) rfl (by kernel_rfl) (by kernel_rfl) (by kernel_rfl) (fun _ _ _ h => ⟨good_put (by decide) h.1, h.2⟩) (Or.inl ⟨by rfl, ?yy7⟩) (by assumption) ?rr7
      case yy7 => intro w' hSw; (try dsimp only at hSw); go_simp; try (with_reducible rfl)
      (try simp only [Act.put]); (try simp only [List.setIfInBounds_toArray, List.set_cons_zero, List.set_cons_succ])
      refine wpAnyH_ready (rs := [0, 4]) (by kernel_rfl) (by simp) ?_
      refine cons_lit rfl (fun K hK => ?ss0x8) (cons_lit rfl (fun K hK => ?ss4x8) AllReadyH.nil)
      case ss0x8 =>
        have q0 : v0.cell? ⟨O, 0, none⟩ = some (.slice A k c) := XD.out.cell 0 rfl 0 rfl
        go_simp
        clear q0
        refine hK.out _ _ (by trivial) (fun hHeld => ?_)
        clear hK K
        (try simp only [Act.put]); (try simp only [List.setIfInBounds_toArray, List.set_cons_zero, List.set_cons_succ])
        refine wpAnyH_ready (rs := [4]) (by kernel_rfl) (by simp) ?_
        refine cons_lit rfl (fun K hK => ?ss4x9) AllReadyH.nil
        case ss4x9 =>
          go_simp
          refine (digit_bad a _ ha hda).mono ?_
          rintro e w' ⟨rfl, rfl⟩
          exact ⟨⟨rfl, rfl, rfl⟩, fun a' hg => uh_panic w _ s O E _ _ WHY.out _ XD.out a' hg⟩
      case ss4x8 =>
        go_simp
        refine (digit_bad a _ ha hda).mono ?_
        rintro e w' ⟨rfl, rfl⟩
        exact ⟨⟨rfl, rfl, rfl⟩, fun a' hg => uh_panic w _ s O E _ _ WHY.out _ XD.out a' hg⟩
    by_cases hdb : dg b < 0
    · have WHY := Lib.hid (HBAD.out (.inr hdb))
      replace hda : 0 ≤ dg a := by omega
      have b1 := dg_bd a
      obtain ⟨da, hda2⟩ : ∃ da, dg a = da := ⟨_, rfl⟩
      have HDA := Lib.hid hda2
      have e1 : IntKind.u8.wrap (da * 16) = da * 16 := u8_in _ (by omega) (by omega)
      refine Code.wp_mono (PanicAt.imp (Good := GoodU O E)) ?_
      refine wp_region_held_drew (S := fun _ => True) (by kernel_rfl) (by trivial) (fun hHeld => ?_)
      have XD := Lib.hid X.out.drew
      clear X
      generalize wo.drew = v0 at XD hHeld ⊢
      refine' take_lit (i := 1) (v := _) rfl (by kernel_rfl) (by kernel_rfl) (by kernel_rfl) (fun _ _ _ h => ⟨good_put (by decide) h.1, h.2⟩) (Or.inl ⟨by rfl, ?yy10⟩) (by assumption) ?rr10
      case yy10 => intro w' hSw; (try dsimp only at hSw); go_simp; try (with_reducible rfl)
      (try simp only [Act.put]); (try simp only [List.setIfInBounds_toArray, List.set_cons_zero, List.set_cons_succ])
      refine' take_lit (i := 2) (v := _) rfl (by kernel_rfl) (by kernel_rfl) (by kernel_rfl) (fun _ _ _ h => ⟨good_put (by decide) h.1, h.2⟩) (Or.inl ⟨by rfl, ?yy11⟩) (by assumption) ?rr11
      case yy11 => intro w' hSw; (try dsimp only at hSw); go_simp; try (with_reducible rfl)
      (try simp only [Act.put]); (try simp only [List.setIfInBounds_toArray, List.set_cons_zero, List.set_cons_succ])
      refine' take_lit (i := 3) (v := _) rfl (by kernel_rfl) (by kernel_rfl) (by kernel_rfl) (fun _ _ _ h => ⟨good_put (by decide) h.1, h.2⟩) (Or.inl ⟨by rfl, ?yy12⟩) (by assumption) ?rr12
      case yy12 => intro w' hSw; (try dsimp only at hSw); go_simp; try (with_reducible rfl)
      (try simp only [Act.put]); (try simp only [List.setIfInBounds_toArray, List.set_cons_zero, List.set_cons_succ])
      refine' take_lit (i := 6) (v := _) rfl (by kernel_rfl) (by kernel_rfl) (by kernel_rfl) (fun _ _ _ h => ⟨good_put (by decide) h.1, h.2⟩) (Or.inl ⟨by rfl, ?yy13⟩) (by assumption) ?rr13
      case yy13 => intro w' hSw; (try dsimp only at hSw); go_simp; try (with_reducible rfl)
      (try simp only [Act.put]); (try simp only [List.setIfInBounds_toArray, List.set_cons_zero, List.set_cons_succ])
      refine' take_lit (i := 7) (v := _) rfl (by kernel_rfl) (by kernel_rfl) (by kernel_rfl) (fun _ _ _ h => ⟨good_put (by decide) h.1, h.2⟩) (Or.inl ⟨by rfl, ?yy14⟩) (by assumption) ?rr14
      case yy14 => intro w' hSw; (try dsimp only at hSw); go_simp; try (with_reducible rfl)
      (try simp only [Act.put]); (try simp only [List.setIfInBounds_toArray, List.set_cons_zero, List.set_cons_succ])
      refine' take_lit (i := 8) (v := _) rfl (by kernel_rfl) (by kernel_rfl) (by kernel_rfl) (fun _ _ _ h => ⟨good_put (by decide) h.1, h.2⟩) (Or.inl ⟨by rfl, ?yy15⟩) (by assumption) ?rr15
      case yy15 => intro w' hSw; (try dsimp only at hSw); go_simp; try (with_reducible rfl)
      (try simp only [Act.put]); (try simp only [List.setIfInBounds_toArray, List.set_cons_zero, List.set_cons_succ])
      refine' take_lit (i := 9) (v := _) rfl (by kernel_rfl) (by kernel_rfl) (by kernel_rfl) (fun _ _ _ h => ⟨good_put (by decide) h.1, h.2⟩) (Or.inl ⟨by rfl, ?yy16⟩) (by assumption) ?rr16
      case yy16 => intro w' hSw; (try dsimp only at hSw); go_simp; try (with_reducible rfl)
      (try simp only [Act.put]); (try simp only [List.setIfInBounds_toArray, List.set_cons_zero, List.set_cons_succ])
      refine wpAnyH_ready (rs := [0, 4]) (by kernel_rfl) (by simp) ?_
      refine cons_lit rfl (fun K hK => ?ss0x17) (cons_lit rfl (fun K hK => ?ss4x17) AllReadyH.nil)
      case ss0x17 =>
        have q0 : v0.cell? ⟨O, 0, none⟩ = some (.slice A k c) := XD.out.cell 0 rfl 0 rfl
        go_simp
        clear q0
        refine hK.out _ _ (by trivial) (fun hHeld => ?_)
        clear hK K
        (try simp only [Act.put]); (try simp only [List.setIfInBounds_toArray, List.set_cons_zero, List.set_cons_succ])
        refine wpAnyH_ready (rs := [4]) (by kernel_rfl) (by simp) ?_
        refine cons_lit rfl (fun K hK => ?ss4x18) AllReadyH.nil
        case ss4x18 =>
          go_simp
          refine (digit_good a _ ha hda).mono ?_
          rintro e v0 ⟨rfl, rfl⟩
          try simp only [Oper.upon_returned]
          rw [HDA.out]
          refine hK.out _ _ (by trivial) (fun hHeld => ?_)
          clear hK K
          (try simp only [Act.put]); (try simp only [List.setIfInBounds_toArray, List.set_cons_zero, List.set_cons_succ])
          refine' take_lit (i := 5) (v := _) rfl (by kernel_rfl) (by kernel_rfl) (by kernel_rfl) (fun _ _ _ h => ⟨good_put (by decide) h.1, h.2⟩) (Or.inl ⟨by rfl, ?yy19⟩) (by assumption) ?rr19
          case yy19 => intro w' hSw; (try dsimp only at hSw); go_simp; try (with_reducible rfl)
          (try simp only [Act.put]); (try simp only [List.setIfInBounds_toArray, List.set_cons_zero, List.set_cons_succ])
          refine wpAnyH_ready (rs := [10]) (by kernel_rfl) (by simp) ?_
          refine cons_lit rfl (fun K hK => ?ss10x20) AllReadyH.nil
          case ss10x20 =>
            go_simp
            refine (digit_bad b _ hb hdb).mono ?_
            rintro e w' ⟨rfl, rfl⟩
            exact ⟨⟨rfl, rfl, rfl⟩, fun a' hg => uh_panic w _ s O E _ _ WHY.out _ XD.out a' hg⟩
      case ss4x17 =>
        go_simp
        refine (digit_good a _ ha hda).mono ?_
        rintro e v0 ⟨rfl, rfl⟩
        try simp only [Oper.upon_returned]
        rw [HDA.out]
        refine hK.out _ _ (by trivial) (fun hHeld => ?_)
        clear hK K
        (try simp only [Act.put]); (try simp only [List.setIfInBounds_toArray, List.set_cons_zero, List.set_cons_succ])
        refine' take_lit (i := 5) (v := _) rfl (by kernel_rfl) (by kernel_rfl) (by kernel_rfl) (fun _ _ _ h => ⟨good_put (by decide) h.1, h.2⟩) (Or.inl ⟨by rfl, ?yy21⟩) (by assumption) ?rr21
        case yy21 => intro w' hSw; (try dsimp only at hSw); go_simp; try (with_reducible rfl)
        (try simp only [Act.put]); (try simp only [List.setIfInBounds_toArray, List.set_cons_zero, List.set_cons_succ])
        refine wpAnyH_ready (rs := [0, 10]) (by kernel_rfl) (by simp) ?_
        refine cons_lit rfl (fun K hK => ?ss0x22) (cons_lit rfl (fun K hK => ?ss10x22) AllReadyH.nil)
        case ss0x22 =>
          have q0 : v0.cell? ⟨O, 0, none⟩ = some (.slice A k c) := XD.out.cell 0 rfl 0 rfl
          go_simp
          clear q0
          refine hK.out _ _ (by trivial) (fun hHeld => ?_)
          clear hK K
          (try simp only [Act.put]); (try simp only [List.setIfInBounds_toArray, List.set_cons_zero, List.set_cons_succ])
          refine wpAnyH_ready (rs := [10]) (by kernel_rfl) (by simp) ?_
          refine cons_lit rfl (fun K hK => ?ss10x23) AllReadyH.nil
          case ss10x23 =>
            go_simp
            refine (digit_bad b _ hb hdb).mono ?_
            rintro e w' ⟨rfl, rfl⟩
            exact ⟨⟨rfl, rfl, rfl⟩, fun a' hg => uh_panic w _ s O E _ _ WHY.out _ XD.out a' hg⟩
        case ss10x22 =>
          go_simp
          refine (digit_bad b _ hb hdb).mono ?_
          rintro e w' ⟨rfl, rfl⟩
          exact ⟨⟨rfl, rfl, rfl⟩, fun a' hg => uh_panic w _ s O E _ _ WHY.out _ XD.out a' hg⟩
    replace hda : 0 ≤ dg a := by omega
    replace hdb : 0 ≤ dg b := by omega
    have HY := Lib.hid (HMORE.out hda hdb)
    have b1 := dg_bd a
    have b2 := dg_bd b
    obtain ⟨da, hda2⟩ : ∃ da, dg a = da := ⟨_, rfl⟩
    obtain ⟨db, hdb2⟩ : ∃ db, dg b = db := ⟨_, rfl⟩
    rw [hda2, hdb2] at HY
    have HDA := Lib.hid hda2
    have HDB := Lib.hid hdb2
    have e1 : IntKind.u8.wrap (da * 16) = da * 16 := u8_in _ (by omega) (by omega)
    obtain ⟨y, hy⟩ : ∃ y, 16 * da + db = y := ⟨_, rfl⟩
    have e2 : bits .or .u8 (da * 16) db = y := by
      rw [← hy, show 16 * da = da * 16 by omega]
      exact bits_join .u8 8 (by decide) (fun n h0 h1 => u8_in _ (by omega) (by omega)) 4 (da * 16) db (by omega) (by omega) (by omega) (by omega) (by omega) (by omega)
    rw [hy] at HY
    clear hy HBAD HMORE
    refine wp_region_noPanic ?_
    refine wp_region_held_drew (S := fun _ => True) (by kernel_rfl) (by trivial) (fun hHeld => ?_)
    have XD := Lib.hid X.out.drew
    clear X
    generalize wo.drew = v0 at XD hHeld ⊢
    refine' take_lit (i := 1) (v := _) rfl (by kernel_rfl) (by kernel_rfl) (by kernel_rfl) (fun _ _ _ h => h) (Or.inl ⟨by rfl, ?yy24⟩) (by assumption) ?rr24
    case yy24 => intro w' hSw; (try dsimp only at hSw); go_simp; try (with_reducible rfl)
    (try simp only [Act.put]); (try simp only [List.setIfInBounds_toArray, List.set_cons_zero, List.set_cons_succ])
    refine' take_lit (i := 2) (v := _) rfl (by kernel_rfl) (by kernel_rfl) (by kernel_rfl) (fun _ _ _ h => h) (Or.inl ⟨by rfl, ?yy25⟩) (by assumption) ?rr25
    case yy25 => intro w' hSw; (try dsimp only at hSw); go_simp; try (with_reducible rfl)
    (try simp only [Act.put]); (try simp only [List.setIfInBounds_toArray, List.set_cons_zero, List.set_cons_succ])
    refine' take_lit (i := 3) (v := _) rfl (by kernel_rfl) (by kernel_rfl) (by kernel_rfl) (fun _ _ _ h => h) (Or.inl ⟨by rfl, ?yy26⟩) (by assumption) ?rr26
    case yy26 => intro w' hSw; (try dsimp only at hSw); go_simp; try (with_reducible rfl)
    (try simp only [Act.put]); (try simp only [List.setIfInBounds_toArray, List.set_cons_zero, List.set_cons_succ])
    refine' take_lit (i := 6) (v := _) rfl (by kernel_rfl) (by kernel_rfl) (by kernel_rfl) (fun _ _ _ h => h) (Or.inl ⟨by rfl, ?yy27⟩) (by assumption) ?rr27
    case yy27 => intro w' hSw; (try dsimp only at hSw); go_simp; try (with_reducible rfl)
    (try simp only [Act.put]); (try simp only [List.setIfInBounds_toArray, List.set_cons_zero, List.set_cons_succ])
    refine' take_lit (i := 7) (v := _) rfl (by kernel_rfl) (by kernel_rfl) (by kernel_rfl) (fun _ _ _ h => h) (Or.inl ⟨by rfl, ?yy28⟩) (by assumption) ?rr28
    case yy28 => intro w' hSw; (try dsimp only at hSw); go_simp; try (with_reducible rfl)
    (try simp only [Act.put]); (try simp only [List.setIfInBounds_toArray, List.set_cons_zero, List.set_cons_succ])
    refine' take_lit (i := 8) (v := _) rfl (by kernel_rfl) (by kernel_rfl) (by kernel_rfl) (fun _ _ _ h => h) (Or.inl ⟨by rfl, ?yy29⟩) (by assumption) ?rr29
    case yy29 => intro w' hSw; (try dsimp only at hSw); go_simp; try (with_reducible rfl)
    (try simp only [Act.put]); (try simp only [List.setIfInBounds_toArray, List.set_cons_zero, List.set_cons_succ])
    refine' take_lit (i := 9) (v := _) rfl (by kernel_rfl) (by kernel_rfl) (by kernel_rfl) (fun _ _ _ h => h) (Or.inl ⟨by rfl, ?yy30⟩) (by assumption) ?rr30
    case yy30 => intro w' hSw; (try dsimp only at hSw); go_simp; try (with_reducible rfl)
    (try simp only [Act.put]); (try simp only [List.setIfInBounds_toArray, List.set_cons_zero, List.set_cons_succ])
    refine wpAnyH_ready (rs := [0, 4]) (by kernel_rfl) (by simp) ?_
    refine cons_lit rfl (fun K hK => ?ss0x31) (cons_lit rfl (fun K hK => ?ss4x31) AllReadyH.nil)
    case ss0x31 =>
      have q0 : v0.cell? ⟨O, 0, none⟩ = some (.slice A k c) := XD.out.cell 0 rfl 0 rfl
      go_simp
      clear q0
      refine hK.out _ _ (by trivial) (fun hHeld => ?_)
      clear hK K
      (try simp only [Act.put]); (try simp only [List.setIfInBounds_toArray, List.set_cons_zero, List.set_cons_succ])
      refine wpAnyH_ready (rs := [4]) (by kernel_rfl) (by simp) ?_
      refine cons_lit rfl (fun K hK => ?ss4x32) AllReadyH.nil
      case ss4x32 =>
        go_simp
        refine (digit_good a _ ha hda).mono ?_
        rintro e v0 ⟨rfl, rfl⟩
        try simp only [Oper.upon_returned]
        rw [HDA.out]
        refine hK.out _ _ (by trivial) (fun hHeld => ?_)
        clear hK K
        (try simp only [Act.put]); (try simp only [List.setIfInBounds_toArray, List.set_cons_zero, List.set_cons_succ])
        refine' take_lit (i := 5) (v := _) rfl (by kernel_rfl) (by kernel_rfl) (by kernel_rfl) (fun _ _ _ h => h) (Or.inl ⟨by rfl, ?yy33⟩) (by assumption) ?rr33
        case yy33 => intro w' hSw; (try dsimp only at hSw); go_simp; try (with_reducible rfl)
        (try simp only [Act.put]); (try simp only [List.setIfInBounds_toArray, List.set_cons_zero, List.set_cons_succ])
        refine wpAnyH_ready (rs := [10]) (by kernel_rfl) (by simp) ?_
        refine cons_lit rfl (fun K hK => ?ss10x34) AllReadyH.nil
        case ss10x34 =>
          go_simp
          refine (digit_good b _ hb hdb).mono ?_
          rintro e v0 ⟨rfl, rfl⟩
          try simp only [Oper.upon_returned]
          rw [HDB.out]
          refine hK.out _ _ (by trivial) (fun hHeld => ?_)
          clear hK K
          (try simp only [Act.put]); (try simp only [List.setIfInBounds_toArray, List.set_cons_zero, List.set_cons_succ])
          refine' take_lit (i := 11) (v := _) rfl (by kernel_rfl) (by kernel_rfl) (by kernel_rfl) (fun _ _ _ h => h) (Or.inl ⟨by rfl, ?yy35⟩) (by assumption) ?rr35
          case yy35 => intro w' hSw; (try dsimp only at hSw); go_simp; try (with_reducible rfl)
          (try simp only [Act.put]); (try simp only [List.setIfInBounds_toArray, List.set_cons_zero, List.set_cons_succ])
          refine wpAnyH_ready (rs := [12]) (by kernel_rfl) (by simp) ?_
          refine cons_lit rfl (fun K hK => ?ss12x36) AllReadyH.nil
          case ss12x36 =>
            go_simp
            obtain ⟨gl, hgl⟩ : ∃ g, g = v0.heap.size := ⟨_, rfl⟩
            rw [← hgl]
            refine nameU (fun v1 hv1 => ?_)
            have X1 := Lib.hid (show SP w v1 [.blk O 22 #[.slice A k c], .blk E 26 #[.int .i64 0], .own .u8 5 A k c acc, .own .u8 5 (some ⟨gl, 0, none⟩) 1 1 [y]] by rw [hv1, hgl]; exact XD.out.allocI .u8 5 [y] (by simp [maxLen]))
            clear hv1 hgl
            refine hK.out _ _ (by trivial) (fun hHeld => ?_)
            clear hK K
            (try simp only [Act.put]); (try simp only [List.setIfInBounds_toArray, List.set_cons_zero, List.set_cons_succ])
            refine wpAnyH_ready (rs := [13]) (by kernel_rfl) (by simp) ?_
            refine cons_lit rfl (fun K hK => ?ss13x37) AllReadyH.nil
            case ss13x37 =>
              refine step_append_rd _ (by rfl) _ _ 22 (by rfl) .u8 w.heap.size 5 i0 1 Try.underlying22 hi hz0 hz1 hz2 A k c acc (by rfl) (by exact X1.out.own 2 rfl) _ (some ⟨gl, 0, none⟩) 1 1 [y] (by rfl) (by exact X1.out.rd 3 rfl) (by simp only [maxLen]; omega) (by omega) (by exact X1.out.size) ?_
              intro A2 c2 v2 happ
              have X2 := Lib.hid (X1.out.app 2 rfl happ)
              clear happ
              refine hK.out _ _ (by trivial) (fun hHeld => ?_)
              clear hK K
              (try simp only [Act.put]); (try simp only [List.setIfInBounds_toArray, List.set_cons_zero, List.set_cons_succ])
              refine wpAnyH_ready (rs := [14]) (by kernel_rfl) (by simp) ?_
              refine cons_lit rfl (fun K hK => ?ss14x38) AllReadyH.nil
              case ss14x38 =>
                have q1 : v2.cell? ⟨O, 0, none⟩ = some (.slice A k c) := X2.out.cell 0 rfl 0 rfl
                have q2 : v2.frozen? ⟨O, 0, none⟩ = false := X2.out.free 0 rfl 0
                go_simp
                refine nameU (fun v3 hv3 => ?_)
                have X3 := Lib.hid (show SP w v3 [.blk O 22 #[.slice A2 (k + 1) c2], .blk E 26 #[.int .i64 0], .own .u8 5 A2 (k + 1) c2 (acc ++ [y])] by rw [hv3]; exact (X2.out.setB 0 rfl 0 (.slice A2 (k + 1) c2)).pick [0, 1, 2] (by decide) rfl)
                clear q1 q2 hv3
                refine hK.out _ _ (by trivial) (fun hHeld => ?_)
                clear hK K
                (try simp only [Act.put]); (try simp only [List.setIfInBounds_toArray, List.set_cons_zero, List.set_cons_succ])
                refine wpAnyH_done (by kernel_rfl) ?_ _
                refine NoPanic.normal ?_
                have HW := Lib.hid (And.intro HJ.out HY.out)
                go_wp2_with fail
                go_roundw
                case rel => exact ⟨k + 1, j + 2, A2, c2, acc ++ [y], by have := HJ.out; omega, by omega, by go_num, Lib.hid ⟨HY.out, X3.out⟩⟩
                case measure => simp [intOf]; omega
    case ss4x31 =>
      go_simp
      refine (digit_good a _ ha hda).mono ?_
      rintro e v0 ⟨rfl, rfl⟩
      try simp only [Oper.upon_returned]
      rw [HDA.out]
      refine hK.out _ _ (by trivial) (fun hHeld => ?_)
      clear hK K
      (try simp only [Act.put]); (try simp only [List.setIfInBounds_toArray, List.set_cons_zero, List.set_cons_succ])
      refine' take_lit (i := 5) (v := _) rfl (by kernel_rfl) (by kernel_rfl) (by kernel_rfl) (fun _ _ _ h => h) (Or.inl ⟨by rfl, ?yy39⟩) (by assumption) ?rr39
      case yy39 => intro w' hSw; (try dsimp only at hSw); go_simp; try (with_reducible rfl)
      (try simp only [Act.put]); (try simp only [List.setIfInBounds_toArray, List.set_cons_zero, List.set_cons_succ])
      refine wpAnyH_ready (rs := [0, 10]) (by kernel_rfl) (by simp) ?_
      refine cons_lit rfl (fun K hK => ?ss0x40) (cons_lit rfl (fun K hK => ?ss10x40) AllReadyH.nil)
      case ss0x40 =>
        have q0 : v0.cell? ⟨O, 0, none⟩ = some (.slice A k c) := XD.out.cell 0 rfl 0 rfl
        go_simp
        clear q0
        refine hK.out _ _ (by trivial) (fun hHeld => ?_)
        clear hK K
        (try simp only [Act.put]); (try simp only [List.setIfInBounds_toArray, List.set_cons_zero, List.set_cons_succ])
        refine wpAnyH_ready (rs := [10]) (by kernel_rfl) (by simp) ?_
        refine cons_lit rfl (fun K hK => ?ss10x41) AllReadyH.nil
        case ss10x41 =>
          go_simp
          refine (digit_good b _ hb hdb).mono ?_
          rintro e v0 ⟨rfl, rfl⟩
          try simp only [Oper.upon_returned]
          rw [HDB.out]
          refine hK.out _ _ (by trivial) (fun hHeld => ?_)
          clear hK K
          (try simp only [Act.put]); (try simp only [List.setIfInBounds_toArray, List.set_cons_zero, List.set_cons_succ])
          refine' take_lit (i := 11) (v := _) rfl (by kernel_rfl) (by kernel_rfl) (by kernel_rfl) (fun _ _ _ h => h) (Or.inl ⟨by rfl, ?yy42⟩) (by assumption) ?rr42
          case yy42 => intro w' hSw; (try dsimp only at hSw); go_simp; try (with_reducible rfl)
          (try simp only [Act.put]); (try simp only [List.setIfInBounds_toArray, List.set_cons_zero, List.set_cons_succ])
          refine wpAnyH_ready (rs := [12]) (by kernel_rfl) (by simp) ?_
          refine cons_lit rfl (fun K hK => ?ss12x43) AllReadyH.nil
          case ss12x43 =>
            go_simp
            obtain ⟨gl, hgl⟩ : ∃ g, g = v0.heap.size := ⟨_, rfl⟩
            rw [← hgl]
            refine nameU (fun v1 hv1 => ?_)
            have X1 := Lib.hid (show SP w v1 [.blk O 22 #[.slice A k c], .blk E 26 #[.int .i64 0], .own .u8 5 A k c acc, .own .u8 5 (some ⟨gl, 0, none⟩) 1 1 [y]] by rw [hv1, hgl]; exact XD.out.allocI .u8 5 [y] (by simp [maxLen]))
            clear hv1 hgl
            refine hK.out _ _ (by trivial) (fun hHeld => ?_)
            clear hK K
            (try simp only [Act.put]); (try simp only [List.setIfInBounds_toArray, List.set_cons_zero, List.set_cons_succ])
            refine wpAnyH_ready (rs := [13]) (by kernel_rfl) (by simp) ?_
            refine cons_lit rfl (fun K hK => ?ss13x44) AllReadyH.nil
            case ss13x44 =>
              refine step_append_rd _ (by rfl) _ _ 22 (by rfl) .u8 w.heap.size 5 i0 1 Try.underlying22 hi hz0 hz1 hz2 A k c acc (by rfl) (by exact X1.out.own 2 rfl) _ (some ⟨gl, 0, none⟩) 1 1 [y] (by rfl) (by exact X1.out.rd 3 rfl) (by simp only [maxLen]; omega) (by omega) (by exact X1.out.size) ?_
              intro A2 c2 v2 happ
              have X2 := Lib.hid (X1.out.app 2 rfl happ)
              clear happ
              refine hK.out _ _ (by trivial) (fun hHeld => ?_)
              clear hK K
              (try simp only [Act.put]); (try simp only [List.setIfInBounds_toArray, List.set_cons_zero, List.set_cons_succ])
              refine wpAnyH_ready (rs := [14]) (by kernel_rfl) (by simp) ?_
              refine cons_lit rfl (fun K hK => ?ss14x45) AllReadyH.nil
              case ss14x45 =>
                have q1 : v2.cell? ⟨O, 0, none⟩ = some (.slice A k c) := X2.out.cell 0 rfl 0 rfl
                have q2 : v2.frozen? ⟨O, 0, none⟩ = false := X2.out.free 0 rfl 0
                go_simp
                refine nameU (fun v3 hv3 => ?_)
                have X3 := Lib.hid (show SP w v3 [.blk O 22 #[.slice A2 (k + 1) c2], .blk E 26 #[.int .i64 0], .own .u8 5 A2 (k + 1) c2 (acc ++ [y])] by rw [hv3]; exact (X2.out.setB 0 rfl 0 (.slice A2 (k + 1) c2)).pick [0, 1, 2] (by decide) rfl)
                clear q1 q2 hv3
                refine hK.out _ _ (by trivial) (fun hHeld => ?_)
                clear hK K
                (try simp only [Act.put]); (try simp only [List.setIfInBounds_toArray, List.set_cons_zero, List.set_cons_succ])
                refine wpAnyH_done (by kernel_rfl) ?_ _
                refine NoPanic.normal ?_
                have HW := Lib.hid (And.intro HJ.out HY.out)
                go_wp2_with fail
                go_roundw
                case rel => exact ⟨k + 1, j + 2, A2, c2, acc ++ [y], by have := HJ.out; omega, by omega, by go_num, Lib.hid ⟨HY.out, X3.out⟩⟩
                case measure => simp [intOf]; omega
      case ss10x40 =>
        go_simp
        refine (digit_good b _ hb hdb).mono ?_
        rintro e v0 ⟨rfl, rfl⟩
        try simp only [Oper.upon_returned]
        rw [HDB.out]
        refine hK.out _ _ (by trivial) (fun hHeld => ?_)
        clear hK K
        (try simp only [Act.put]); (try simp only [List.setIfInBounds_toArray, List.set_cons_zero, List.set_cons_succ])
        refine' take_lit (i := 11) (v := _) rfl (by kernel_rfl) (by kernel_rfl) (by kernel_rfl) (fun _ _ _ h => h) (Or.inl ⟨by rfl, ?yy46⟩) (by assumption) ?rr46
        case yy46 => intro w' hSw; (try dsimp only at hSw); go_simp; try (with_reducible rfl)
        (try simp only [Act.put]); (try simp only [List.setIfInBounds_toArray, List.set_cons_zero, List.set_cons_succ])
        refine wpAnyH_ready (rs := [0, 12]) (by kernel_rfl) (by simp) ?_
        refine cons_lit rfl (fun K hK => ?ss0x47) (cons_lit rfl (fun K hK => ?ss12x47) AllReadyH.nil)
        case ss0x47 =>
          have q0 : v0.cell? ⟨O, 0, none⟩ = some (.slice A k c) := XD.out.cell 0 rfl 0 rfl
          go_simp
          clear q0
          refine hK.out _ _ (by trivial) (fun hHeld => ?_)
          clear hK K
          (try simp only [Act.put]); (try simp only [List.setIfInBounds_toArray, List.set_cons_zero, List.set_cons_succ])
          refine wpAnyH_ready (rs := [12]) (by kernel_rfl) (by simp) ?_
          refine cons_lit rfl (fun K hK => ?ss12x48) AllReadyH.nil
          case ss12x48 =>
            go_simp
            obtain ⟨gl, hgl⟩ : ∃ g, g = v0.heap.size := ⟨_, rfl⟩
            rw [← hgl]
            refine nameU (fun v1 hv1 => ?_)
            have X1 := Lib.hid (show SP w v1 [.blk O 22 #[.slice A k c], .blk E 26 #[.int .i64 0], .own .u8 5 A k c acc, .own .u8 5 (some ⟨gl, 0, none⟩) 1 1 [y]] by rw [hv1, hgl]; exact XD.out.allocI .u8 5 [y] (by simp [maxLen]))
            clear hv1 hgl
            refine hK.out _ _ (by trivial) (fun hHeld => ?_)
            clear hK K
            (try simp only [Act.put]); (try simp only [List.setIfInBounds_toArray, List.set_cons_zero, List.set_cons_succ])
            refine wpAnyH_ready (rs := [13]) (by kernel_rfl) (by simp) ?_
            refine cons_lit rfl (fun K hK => ?ss13x49) AllReadyH.nil
            case ss13x49 =>
              refine step_append_rd _ (by rfl) _ _ 22 (by rfl) .u8 w.heap.size 5 i0 1 Try.underlying22 hi hz0 hz1 hz2 A k c acc (by rfl) (by exact X1.out.own 2 rfl) _ (some ⟨gl, 0, none⟩) 1 1 [y] (by rfl) (by exact X1.out.rd 3 rfl) (by simp only [maxLen]; omega) (by omega) (by exact X1.out.size) ?_
              intro A2 c2 v2 happ
              have X2 := Lib.hid (X1.out.app 2 rfl happ)
              clear happ
              refine hK.out _ _ (by trivial) (fun hHeld => ?_)
              clear hK K
              (try simp only [Act.put]); (try simp only [List.setIfInBounds_toArray, List.set_cons_zero, List.set_cons_succ])
              refine wpAnyH_ready (rs := [14]) (by kernel_rfl) (by simp) ?_
              refine cons_lit rfl (fun K hK => ?ss14x50) AllReadyH.nil
              case ss14x50 =>
                have q1 : v2.cell? ⟨O, 0, none⟩ = some (.slice A k c) := X2.out.cell 0 rfl 0 rfl
                have q2 : v2.frozen? ⟨O, 0, none⟩ = false := X2.out.free 0 rfl 0
                go_simp
                refine nameU (fun v3 hv3 => ?_)
                have X3 := Lib.hid (show SP w v3 [.blk O 22 #[.slice A2 (k + 1) c2], .blk E 26 #[.int .i64 0], .own .u8 5 A2 (k + 1) c2 (acc ++ [y])] by rw [hv3]; exact (X2.out.setB 0 rfl 0 (.slice A2 (k + 1) c2)).pick [0, 1, 2] (by decide) rfl)
                clear q1 q2 hv3
                refine hK.out _ _ (by trivial) (fun hHeld => ?_)
                clear hK K
                (try simp only [Act.put]); (try simp only [List.setIfInBounds_toArray, List.set_cons_zero, List.set_cons_succ])
                refine wpAnyH_done (by kernel_rfl) ?_ _
                refine NoPanic.normal ?_
                have HW := Lib.hid (And.intro HJ.out HY.out)
                go_wp2_with fail
                go_roundw
                case rel => exact ⟨k + 1, j + 2, A2, c2, acc ++ [y], by have := HJ.out; omega, by omega, by go_num, Lib.hid ⟨HY.out, X3.out⟩⟩
                case measure => simp [intOf]; omega
        case ss12x47 =>
          go_simp
          obtain ⟨gl, hgl⟩ : ∃ g, g = v0.heap.size := ⟨_, rfl⟩
          rw [← hgl]
          refine nameU (fun v1 hv1 => ?_)
          have X1 := Lib.hid (show SP w v1 [.blk O 22 #[.slice A k c], .blk E 26 #[.int .i64 0], .own .u8 5 A k c acc, .own .u8 5 (some ⟨gl, 0, none⟩) 1 1 [y]] by rw [hv1, hgl]; exact XD.out.allocI .u8 5 [y] (by simp [maxLen]))
          clear hv1 hgl
          refine hK.out _ _ (by trivial) (fun hHeld => ?_)
          clear hK K
          (try simp only [Act.put]); (try simp only [List.setIfInBounds_toArray, List.set_cons_zero, List.set_cons_succ])
          refine wpAnyH_ready (rs := [0]) (by kernel_rfl) (by simp) ?_
          refine cons_lit rfl (fun K hK => ?ss0x51) AllReadyH.nil
          case ss0x51 =>
            have q0 : v1.cell? ⟨O, 0, none⟩ = some (.slice A k c) := X1.out.cell 0 rfl 0 rfl
            go_simp
            clear q0
            refine hK.out _ _ (by trivial) (fun hHeld => ?_)
            clear hK K
            (try simp only [Act.put]); (try simp only [List.setIfInBounds_toArray, List.set_cons_zero, List.set_cons_succ])
            refine wpAnyH_ready (rs := [13]) (by kernel_rfl) (by simp) ?_
            refine cons_lit rfl (fun K hK => ?ss13x52) AllReadyH.nil
            case ss13x52 =>
              refine step_append_rd _ (by rfl) _ _ 22 (by rfl) .u8 w.heap.size 5 i0 1 Try.underlying22 hi hz0 hz1 hz2 A k c acc (by rfl) (by exact X1.out.own 2 rfl) _ (some ⟨gl, 0, none⟩) 1 1 [y] (by rfl) (by exact X1.out.rd 3 rfl) (by simp only [maxLen]; omega) (by omega) (by exact X1.out.size) ?_
              intro A2 c2 v2 happ
              have X2 := Lib.hid (X1.out.app 2 rfl happ)
              clear happ
              refine hK.out _ _ (by trivial) (fun hHeld => ?_)
              clear hK K
              (try simp only [Act.put]); (try simp only [List.setIfInBounds_toArray, List.set_cons_zero, List.set_cons_succ])
              refine wpAnyH_ready (rs := [14]) (by kernel_rfl) (by simp) ?_
              refine cons_lit rfl (fun K hK => ?ss14x53) AllReadyH.nil
              case ss14x53 =>
                have q1 : v2.cell? ⟨O, 0, none⟩ = some (.slice A k c) := X2.out.cell 0 rfl 0 rfl
                have q2 : v2.frozen? ⟨O, 0, none⟩ = false := X2.out.free 0 rfl 0
                go_simp
                refine nameU (fun v3 hv3 => ?_)
                have X3 := Lib.hid (show SP w v3 [.blk O 22 #[.slice A2 (k + 1) c2], .blk E 26 #[.int .i64 0], .own .u8 5 A2 (k + 1) c2 (acc ++ [y])] by rw [hv3]; exact (X2.out.setB 0 rfl 0 (.slice A2 (k + 1) c2)).pick [0, 1, 2] (by decide) rfl)
                clear q1 q2 hv3
                refine hK.out _ _ (by trivial) (fun hHeld => ?_)
                clear hK K
                (try simp only [Act.put]); (try simp only [List.setIfInBounds_toArray, List.set_cons_zero, List.set_cons_succ])
                refine wpAnyH_done (by kernel_rfl) ?_ _
                refine NoPanic.normal ?_
                have HW := Lib.hid (And.intro HJ.out HY.out)
                go_wp2_with fail
                go_roundw
                case rel => exact ⟨k + 1, j + 2, A2, c2, acc ++ [y], by have := HJ.out; omega, by omega, by go_num, Lib.hid ⟨HY.out, X3.out⟩⟩
                case measure => simp [intOf]; omega
end Go.Proofs.Ytcipgkpcaecjdaa
