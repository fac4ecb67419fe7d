/- Functions of package slices at bytes: Equal, IndexFunc and ContainsFunc at 'not 0', Grow of nil, Concat. -/
import Derived.Test.YtdepibljeopcgaaDoorWBase
import Derived.RangeFuncBound
import Derived.Deep.DeepCutAuto
namespace Go.Proofs.YtdepibljeopcgaaDoor
open Go.RowKit
set_option linter.unusedVariables false


theorem someNZ_step (zs : List Int) (k : Nat) (hk : k < zs.length) (h : someNZ (zs.take k) = false) (hz : zs[k]?.getD 0 = 0) : someNZ (zs.take (k + 1)) = false := by
  rw [List.take_succ_eq_append_getElem hk]
  simp [hk] at hz
  simp only [someNZ, List.any_append, List.any_cons, List.any_nil] at h ⊢
  simp [h, hz]
theorem someNZ_here (zs : List Int) (k : Nat) (hk : k < zs.length) (hz : ¬ zs[k]?.getD 0 = 0) : someNZ zs = true := by
  simp only [someNZ, List.any_eq_true]
  simp [hk] at hz
  exact ⟨zs[k], List.getElem_mem hk, by simp [hz]⟩


/-- append of zeros to nil -/
theorem run_append_zeros {P : Program} (w : World) (t u ty e : TypeId) (i : TypeInfo) (ht : P.underlying t = some (.slice e)) (hu : P.underlying u = some (.int .i64)) (hi : P.info? e = some i) (hz : i.zero = some (.int .u8 0)) (hs : i.size = 1) (hb : i.bytes = 1)
    (n : Nat) (h0 : 0 < n) (hn : n ≤ 140737488355328) :
    (Builtin.append_ #[t, u] ty #[.slice none 0 0, .int .i64 (n : Int)]).run P w =
      .ok (.slice (some ⟨w.heap.size, 0, none⟩) n (grownCap w n 0 e)) (w.drew.alloc (.cells (Builtin.zeroCells #[.int .u8 0] n ++ Builtin.zeroCells #[.int .u8 0] (grownCap w n 0 e - n)) e)) := by
  have hn0 : n ≠ 0 := by omega
  have h63' : ¬ (9223372036854775807 < (n : Int)) := by omega
  have h48' : ¬ (281474976710656 < Builtin.nextslicecap n 0) := by rw [nextslicecap_zero h0]; omega
  have e1 : IntKind.i64.wrap (n : Int) = n := IntWalk.i64_in _ (by omega)
  have e2 : ¬ (281474976710656 < (n : Int)) := by omega
  have e3 : ¬ ((n : Int) < 0) := by omega
  simp [Builtin.append_, run_underlying ht, run_underlying hu, sizeOf, typeInfo, zeroValue, hi, hz, hs, hb, Builtin.lenOf, Builtin.firstCells, hn0, h63', h48', e1, e2, e3, Question.forced, newRow, grownCap, asInt, asIntOf]
  rfl

theorem zeroCells_one (n : Nat) : Builtin.zeroCells #[Value.int .u8 0] n = ((List.replicate n (0 : Int)).map (Value.int .u8)).toArray := by
  apply Array.ext'
  apply List.ext_getElem
  · simp [Builtin.zeroCells]
  · intro j h1 h2
    simp [Builtin.zeroCells, Nat.mod_one]

theorem wpList_append_zeros {P : Program} (w : World) {ops : Array Oper} {rest : List Oper} {o : Oper} {a : Act} {Q : Exit → Act → World → Prop} (hgd : o.guard = none) (s x : Operand) (t u : TypeId)
    (ho : o.op = .call { callee := .builtin .append, args := #[s, x], argTypes := #[t, u] })
    (e : TypeId) (i : TypeInfo) (ht : P.underlying t = some (.slice e)) (hu : P.underlying u = some (.int .i64)) (hi : P.info? e = some i) (hz : i.zero = some (.int .u8 0)) (hs : i.size = 1) (hb : i.bytes = 1)
    (n : Nat) (h0 : 0 < n) (hn : n ≤ 140737488355328) (hs' : a.eval s = .slice none 0 0) (hx : a.eval x = .int .i64 (n : Int))
    (h : ∀ c' w', n ≤ c' → OWN .u8 e w' w.heap.size (some ⟨w.heap.size, 0, none⟩) n c' (List.replicate n 0) → Below w.heap.size w w' → wpList P ops Q rest (a.put o.dst (.slice (some ⟨w.heap.size, 0, none⟩) n c')) w') : wpList P ops Q (o :: rest) a w := by
  refine wpList_plain hgd fun K hK => ?_
  have hrun := run_append_zeros (P := P) w t u o.type e i ht hu hi hz hs hb n h0 hn
  unfold Oper.wp execOp
  simp only [ho, resolve, invoke, builtin, Sem.run_bind, Sem.run_pure, Result.andThen_ok, List.map_toArray, List.map_cons, List.map_nil, hs', hx, hrun]
  have hge := grownCap_ge w n 0 e
  have hcm := grownCap_le_maxLen w n 0 e (by simp only [maxLen]; omega)
  refine hK _ _ (h _ _ hge ?_ ((Below.refl _ w).drew.alloc (Nat.le_refl _) _))
  refine ⟨by simp, .inr ⟨w.heap.size, _, _, rfl, Nat.le_refl _, heap_alloc_new w.drew _, hge, hcm, ?_, ?_⟩⟩
  · rw [zeroCells_one, zeroCells_one]; simp; omega
  · rw [zeroCells_one, zeroCells_one]; simp

/-- what Grow of nil leaves -/
def Grown0 (w : World) (n : Nat) (e : Ending) (w' : World) : Prop :=
  ∃ A c, e = .returned (.slice A 0 c) ∧ n ≤ c ∧ OWN .u8 5 w' w.heap.size A 0 c [] ∧ Below w.heap.size w w'

set_option maxHeartbeats 400000 in
set_option maxRecDepth 100000 in
theorem grow_nil (q : Int) (n : Nat) (hq : q = n) (w : World) (hn : n ≤ 140737488355328) :
    Calls Tryd.prog 29 #[.slice none 0 0, .int .i64 q] w (Grown0 w n) := by
  subst hq
  obtain ⟨i0, hi, hz0, hz1, hz2⟩ := info_parts infoU8
  rcases Nat.eq_zero_or_pos n with h0 | h0
  · subst h0
    go_enter Tryd.func29, Tryd.ntmps29
    go_wp2_with fail
    go_ret
    exact ⟨none, 0, rfl, Nat.le_refl _, OWN.nil, Below.refl _ _⟩
  · have H0 := Lib.hid h0
    have h1 : (1 : Int) ≤ (n : Int) := by omega
    clear h0
    go_enter Tryd.func29, Tryd.ntmps29
    go_wp2_with (at_builtin; refine wpList_append_zeros _ rfl _ _ _ _ rfl 5 i0 Tryd.underlying24 Tryd.underlying3 hi hz0 hz1 hz2 n H0.out hn rfl rfl ?_; intro c' w' hc' hown hbel)
    go_ret
    exact ⟨_, c', rfl, hc', hown.cut (Nat.zero_le _), hbel⟩

/-- a slice of bytes, and what it reads as -/
structure SL where
  A : Option Addr
  n : Nat
  c : Nat
  zs : List Int
def SL.val (s : SL) : Value := .slice s.A s.n s.c
def SL.rd (w : World) (B : Nat) (s : SL) : Prop := RD .u8 w B s.A s.n s.zs
def SL.len : List SL → Nat
  | [] => 0
  | s :: l => s.n + SL.len l
def SL.all : List SL → List Int
  | [] => []
  | s :: l => s.zs ++ SL.all l
theorem SL.len_append (l m : List SL) : SL.len (l ++ m) = SL.len l + SL.len m := by
  induction l with
  | nil => simp [SL.len]
  | cons s l ih => simp [SL.len, ih]; omega
theorem SL.all_append (l m : List SL) : SL.all (l ++ m) = SL.all l ++ SL.all m := by
  induction l with
  | nil => simp [SL.all]
  | cons s l ih => simp [SL.all, ih]
theorem SL.len_take_le (l : List SL) (k : Nat) : SL.len (l.take k) ≤ SL.len l := by
  have : SL.len l = SL.len (l.take k) + SL.len (l.drop k) := by rw [← SL.len_append, List.take_append_drop]
  omega
theorem SL.len_succ (l : List SL) (k : Nat) (hk : k < l.length) : SL.len (l.take (k + 1)) = SL.len (l.take k) + l[k].n := by
  rw [List.take_succ_eq_append_getElem hk, SL.len_append]; simp [SL.len]
theorem SL.all_succ (l : List SL) (k : Nat) (hk : k < l.length) : SL.all (l.take (k + 1)) = SL.all (l.take k) ++ l[k].zs := by
  rw [List.take_succ_eq_append_getElem hk, SL.all_append]; simp [SL.all]
theorem SL.all_len {w : World} {B : Nat} : ∀ (l : List SL), (∀ s ∈ l, s.rd w B) → (SL.all l).length = SL.len l
  | [], _ => rfl
  | s :: l, h => by
    have h1 : s.zs.length = s.n := (h s (by simp)).1
    simp [SL.all, SL.len, h1, SL.all_len l (fun x hx => h x (by simp [hx]))]

/-- the slice '.slice A n _' holds the values vs; its cells lie below block B -/
def RV (w : World) (B : Nat) (A : Option Addr) (n : Nat) (vs : List Value) : Prop :=
  vs.length = n ∧ (0 < n → ∃ b off, A = some ⟨b, off, none⟩ ∧ b < B ∧ ∀ i (hi : i < vs.length), w.cell? ⟨b, off + i, none⟩ = some vs[i])
theorem RV.keep {w w' : World} {B : Nat} {A : Option Addr} {n : Nat} {vs : List Value} (h : RV w B A n vs) (hk : ∀ p : Addr, p.block < B → w'.cell? p = w.cell? p) : RV w' B A n vs :=
  ⟨h.1, fun hn => by
    obtain ⟨b, off, e, hb, hc⟩ := h.2 hn
    exact ⟨b, off, e, hb, fun i hi => (hk _ hb).trans (hc i hi)⟩⟩
theorem RV.below {w w' : World} {B : Nat} {A : Option Addr} {n : Nat} {vs : List Value} (h : RV w B A n vs) (hb : Below B w w') : RV w' B A n vs := h.keep fun _ hp => hb.cell hp
theorem RV.new (w : World) (t : TypeId) (vs : List Value) : RV (w.alloc (.cells vs.toArray t)) (w.alloc (.cells vs.toArray t)).heap.size (some ⟨w.heap.size, 0, none⟩) vs.length vs :=
  ⟨rfl, fun _ => ⟨w.heap.size, 0, rfl, by simp, fun i hi => by rw [World.cell?_alloc_new]; simp [hi]⟩⟩

theorem RV.new' (w : World) (t : TypeId) (vs : List Value) {g B n : Nat} (hg : w.heap.size = g) (hB : g < B) (hn : vs.length = n) : RV (w.alloc (.cells vs.toArray t)) B (some ⟨g, 0, none⟩) n vs := by
  subst hg
  exact ⟨hn, fun _ => ⟨w.heap.size, 0, rfl, hB, fun i hi => by rw [World.cell?_alloc_new]; simp [hi]⟩⟩

set_option maxHeartbeats 2000000 in
set_option maxRecDepth 100000 in
theorem concat_any (A : Option Addr) (L c : Nat) (S : List SL) (w : World) (h : RV w w.heap.size A L (S.map SL.val)) (hs : ∀ s ∈ S, s.rd w w.heap.size) (hn : SL.len S ≤ 140737488355328) (hL : L ≤ 140737488355328) :
    Calls Tryd.prog 17 #[.slice A L c] w (Fresh w (SL.all S)) := by
  obtain ⟨i0, hi, hz0, hz1, hz2⟩ := info_parts infoU8
  have HL := Lib.hid (show S.length = L by have := h.1; simpa using this)
  have HA := Lib.hid (SL.all_len S hs)
  have HS := Lib.hid hs
  clear hs
  go_enter Tryd.func17, Tryd.ntmps17
  go_wp2_with fail
  go_loop [3, 11] (fun s i => ∃ k : Nat, k ≤ L ∧ i = .int .i64 k ∧ s = .int .i64 (SL.len (S.take k) : Nat)) (fun _ i => L - (intOf i).toNat)
  case atStart => exact ⟨0, Nat.zero_le _, rfl, rfl⟩
  case round =>
    obtain ⟨k, hk, rfl, rfl⟩ := hrel
    have hle := SL.len_take_le S k
    by_cases hlt : k < L
    · obtain ⟨b, off, rfl, hB, hc⟩ := h.2 (by omega)
      have hkl : k < S.length := by rw [HL.out]; exact hlt
      have hcell := hc k (by simpa using hkl)
      clear hc
      rw [List.getElem_map] at hcell
      have hs1 := SL.len_succ S k hkl
      have hs2 := SL.len_take_le S (k + 1)
      rw [hs1] at hs2
      have H1 := Lib.hid hs1
      unfold SL.val at hcell
      generalize S[k] = s at hcell hs2 H1
      obtain ⟨sA, sn, sc, szs⟩ := s
      dsimp only at hcell hs2 H1
      clear hs1 hkl
      go_wp2_with fail
      go_round
      case rel => exact ⟨k + 1, by omega, by go_num, by rw [H1.out]; go_num⟩
      case measure => simp [intOf]; omega
    · have H1 := Lib.hid (show S.take k = S from List.take_of_length_le (by rw [HL.out]; omega))
      go_wp2_with fail
      rw [H1.out]
      refine (grow_nil _ (SL.len S) rfl w hn).mono ?_
      rintro e w1 ⟨A1, c1, rfl, hc1, own1, hb1⟩
      clear H1 hle hk hlt
      go_wp2_with fail
      go_loopw [6, 27] (fun v i wr => ∃ (k : Nat) (A' : Option Addr) (c' : Nat), k ≤ L ∧ i = .int .i64 k ∧ v = .slice A' (SL.len (S.take k)) c' ∧ OWN .u8 5 wr w.heap.size A' (SL.len (S.take k)) c' (SL.all (S.take k)) ∧ Below w.heap.size w wr) (fun _ i _ => L - (intOf i).toNat)
      case atStart => exact ⟨0, A1, c1, Nat.zero_le _, rfl, rfl, own1, hb1⟩
      case round =>
        obtain ⟨k, A', c', hk, rfl, rfl, own, hb⟩ := hrel
        clear own1 hb1 hc1
        have hle := SL.len_take_le S k
        by_cases hlt : k < L
        · have hkl : k < S.length := by rw [HL.out]; exact hlt
          have hrs := (HS.out S[k] (List.getElem_mem hkl)).below hb
          obtain ⟨b, off, rfl, hB, hc⟩ := (h.below hb).2 (by omega)
          have hcell := hc k (by simpa using hkl)
          clear hc
          rw [List.getElem_map] at hcell
          have hs1 := SL.len_succ S k hkl
          have ha1 := SL.all_succ S k hkl
          have hs2 := SL.len_take_le S (k + 1)
          rw [hs1] at hs2
          have H1 := Lib.hid hs1
          have H2 := Lib.hid ha1
          unfold SL.val at hcell
          unfold SL.rd at hrs
          generalize S[k] = s at hcell hs2 H1 H2 hrs
          obtain ⟨sA, sn, sc, szs⟩ := s
          dsimp only at hcell hs2 H1 H2 hrs
          clear hs1 hkl ha1
          generalize hq : SL.len (S.take k) = q at own hle hs2 H1 ⊢
          generalize ha : SL.all (S.take k) = zz at own H2
          have HQ := Lib.hid hq
          clear hq ha
          go_wp2_with (at_builtin; refine wpList_append_rd _ rfl _ _ _ rfl .u8 w.heap.size 5 i0 1 Tryd.underlying24 hi hz0 hz1 hz2 A' q c' zz rfl own w.heap.size sA sn sc szs rfl hrs (by simp only [maxLen]; omega) (by omega) hb.size ?_; intro A2 c2 w2 happ)
          have hb2 : Below w.heap.size w w2 := hb.trans (happ.keepBelow (fun g hg => by
            rcases own.cases with ⟨rfl, _⟩ | ⟨g', rfl, hg', _⟩
            · simp at hg
            · simp at hg; subst hg; exact hg') hb.size)
          have own2 := happ.own
          go_roundw
          case rel => exact ⟨k + 1, A2, c2, by omega, by go_num, by rw [H1.out], by rw [H1.out, H2.out]; exact own2, hb2⟩
          case measure => simp [intOf]; omega
        · have H1 := Lib.hid (show S.take k = S from List.take_of_length_le (by rw [HL.out]; omega))
          go_wp2_with fail
          go_ret
          rw [H1.out] at own
          exact ⟨A', _, c', by rw [H1.out]; rfl, own, hb⟩

theorem concat2_any (A : Option Addr) (c : Nat) (A1 : Option Addr) (n1 c1 : Nat) (z1 : List Int) (A2 : Option Addr) (n2 c2 : Nat) (z2 : List Int) (w : World) (h : RV w w.heap.size A 2 [.slice A1 n1 c1, .slice A2 n2 c2])
    (h1 : RD .u8 w w.heap.size A1 n1 z1) (h2 : RD .u8 w w.heap.size A2 n2 z2) (hn : n1 + n2 ≤ 140737488355328) :
    Calls Tryd.prog 17 #[.slice A 2 c] w (Fresh w (z1 ++ z2)) := by
  have := concat_any A 2 c [⟨A1, n1, c1, z1⟩, ⟨A2, n2, c2, z2⟩] w h (fun s hs => by
    simp at hs
    rcases hs with rfl | rfl
    · exact h1
    · exact h2) (by simp [SL.len]; omega) (by omega)
  simpa [SL.all] using this

theorem concat3_any (A : Option Addr) (c : Nat) (A1 : Option Addr) (n1 c1 : Nat) (z1 : List Int) (A2 : Option Addr) (n2 c2 : Nat) (z2 : List Int) (A3 : Option Addr) (n3 c3 : Nat) (z3 : List Int) (w : World)
    (h : RV w w.heap.size A 3 [.slice A1 n1 c1, .slice A2 n2 c2, .slice A3 n3 c3])
    (h1 : RD .u8 w w.heap.size A1 n1 z1) (h2 : RD .u8 w w.heap.size A2 n2 z2) (h3 : RD .u8 w w.heap.size A3 n3 z3) (hn : n1 + n2 + n3 ≤ 140737488355328) :
    Calls Tryd.prog 17 #[.slice A 3 c] w (Fresh w (z1 ++ (z2 ++ z3))) := by
  have := concat_any A 3 c [⟨A1, n1, c1, z1⟩, ⟨A2, n2, c2, z2⟩, ⟨A3, n3, c3, z3⟩] w h (fun s hs => by
    simp at hs
    rcases hs with rfl | rfl | rfl
    · exact h1
    · exact h2
    · exact h3) (by simp [SL.len]; omega) (by omega)
  simpa [SL.all] using this
end Go.Proofs.YtdepibljeopcgaaDoor
