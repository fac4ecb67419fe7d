import Derived.Test.YtcipgkpcaecjdaaWRdr
import Derived.Test.YtcipgkpcaecjdaaWOwnZ
import Derived.Deep.RegionHeld3
/- wire.Writer: what its methods do. (Printed by gen_wrr.py.) -/
namespace Go.Proofs.Ytcipgkpcaecjdaa
open Go.RowKit
set_option linter.unusedVariables false
set_option linter.unusedSimpArgs false

theorem nameV {K : Act → World → Prop} {a : Act} {W : World} (h : ∀ W', W' = W → K a W') : K a W := h W rfl
theorem set_self {α : Type} {L : List α} {i : Nat} {x : α} (h : L[i]? = some x) : L.set i x = L := by
  apply List.ext_getElem?
  intro k
  by_cases hk : i = k
  · subst hk
    rw [List.getElem?_set_self (List.getElem?_eq_some_iff.1 h).1, h]
  · rw [List.getElem?_set_ne hk]

theorem run_append_zeros_ownO {P : Program} (w : World) (t u ty e : TypeId) (i : TypeInfo) (ku : IntKind) (ht : P.underlying t = some (.slice e)) (hu : P.underlying u = some (.int ku)) (hi : P.info? e = some i) (hz : i.zero = some (.int .u8 0)) (hs : i.size = 1) (hb : i.bytes = 1)
    (base n c m : Nat) (A : Option Addr) (zs : List Int) (own : OWN .u8 e w base A n c zs) (hbase : base ≤ w.heap.size) (hn : n + m ≤ 140737488355328) :
    ∃ A' c' w', (Builtin.append_ #[t, u] ty #[.slice A n c, .int ku (m : Int)]).run P w = .ok (.slice A' (n + m) c') w' ∧ APP .u8 e w w' base A A' n (n + m) c c' zs (zs ++ List.replicate m 0) := by
  rcases own.cases with ⟨rfl, rfl, rfl, rfl⟩ | ⟨g, rfl, _, _, _, _⟩
  · by_cases hm : m = 0
    · subst hm
      refine ⟨none, 0, w, ?_, ⟨OWN.nil, ⟨rfl, rfl, rfl, Nat.le_refl _, fun _ _ _ => rfl⟩, .inl ⟨rfl, rfl⟩, OWN.nil⟩⟩
      have ew : IntKind.i64.wrap 0 = 0 := IntWalk.i64_in 0 (by omega)
      simp [Builtin.append_, run_underlying ht, run_underlying hu, sizeOf, typeInfo, zeroValue, hi, hz, hs, hb, Builtin.lenOf, asInt, asIntOf, ew]
    · have hn0 : m ≠ 0 := hm
      have h63' : ¬ (9223372036854775807 < (m : Int)) := by omega
      have h48' : ¬ (281474976710656 < Builtin.nextslicecap m 0) := by
        have := growslice_fits (need := m) (old := 0) (bytes := 1) (by omega) (by omega)
        omega
      have e1 : IntKind.i64.wrap (m : Int) = m := IntWalk.i64_in _ (by omega)
      have e2 : ¬ (281474976710656 < (m : Int)) := by omega
      have e3 : ¬ ((m : Int) < 0) := by omega
      have hge := grownCap_ge w m 0 e
      have hcm := grownCap_le_maxLen w m 0 e (by simp only [maxLen]; omega)
      refine ⟨some ⟨w.heap.size, 0, none⟩, grownCap w m 0 e, w.drew.alloc (.cells (Builtin.zeroCells #[.int .u8 0] m ++ Builtin.zeroCells #[.int .u8 0] (grownCap w m 0 e - m)) e), ?_, ⟨?_, ?_, .inr ⟨by omega, rfl⟩, OWN.nil⟩⟩
      · simp [Builtin.append_, run_underlying ht, run_underlying hu, sizeOf, typeInfo, zeroValue, hi, hz, hs, hb, Builtin.lenOf, Builtin.firstCells, hn0, h63', h48', e1, e2, e3, Question.forced, newRow, grownCap, asInt, asIntOf]
        rfl
      · rw [Nat.zero_add, List.nil_append]
        refine OWN.of_block (heap_alloc_new w.drew _) ?_ ?_ hge hcm hbase
        · rw [zeroCells_one', zeroCells_one']; simp; omega
        · rw [zeroCells_one', zeroCells_one']
          simp only [Array.toList_append]
          rw [List.take_left' (by simp)]
          try simp
      · exact ⟨rfl, rfl, rfl, by simp, fun k hk _ => (heap_alloc_old w.drew _ hk)⟩
  · exact run_append_zeros_own w t u ty e i ku ht hu hi hz hs hb base g n c m zs own hbase hn
theorem wpList_append_zeros_ownO {P : Program} (w : World) {ops : Array Oper} {rest : List Oper} {o : Oper} {a : Act} {Q : Exit → Act → World → Prop} (hgd : o.guard = none) (s x : Operand) (t u : TypeId)
    (ho : o.op = .call { callee := .builtin .append, args := #[s, x], argTypes := #[t, u] })
    (e : TypeId) (i : TypeInfo) (ku : IntKind) (ht : P.underlying t = some (.slice e)) (hu : P.underlying u = some (.int ku)) (hi : P.info? e = some i) (hz : i.zero = some (.int .u8 0)) (hs : i.size = 1) (hb : i.bytes = 1)
    (base n c m : Nat) (A : Option Addr) (q : Int) (hq : q = m) (zs : List Int) (hs' : a.eval s = .slice A n c) (hx : a.eval x = .int ku q) (own : OWN .u8 e w base A n c zs) (hbase : base ≤ w.heap.size) (hn : n + m ≤ 140737488355328)
    (h : ∀ A' c' w', APP .u8 e w w' base A A' n (n + m) c c' zs (zs ++ List.replicate m 0) → wpList P ops Q rest (a.put o.dst (.slice A' (n + m) c')) w') : wpList P ops Q (o :: rest) a w := by
  subst hq
  refine wpList_plain hgd fun K hK => ?_
  obtain ⟨A', c', w', hrun, h2⟩ := run_append_zeros_ownO (P := P) w t u o.type e i ku ht hu hi hz hs hb base n c m A zs own hbase hn
  unfold Oper.wp execOp
  simp only [ho, resolve, invoke, builtin, Sem.run_bind, Sem.run_pure, Result.andThen_ok, List.map_toArray, List.map_cons, List.map_nil, hs', hx, hrun]
  exact hK _ _ (h A' c' w' h2)

/-- a writer's cells -/
def wcells (W lim : Nat) (B : Option Addr) (n c : Nat) (f : Bool) : Array Value := #[.pointer (some ⟨W, 0, none⟩), .int .i64 (lim : Int), .slice B n c, .bool f]
def wrOk (lim n : Nat) (f : Bool) (m : Int) : Bool := !f && (decide (0 ≤ m) && decide (m ≤ (lim : Int) - (n : Int)))
/-- what a writer has behind bytes -/
def wrB (lim : Nat) (zs : List Int) (f : Bool) (bs : List Int) : List Int := if wrOk lim zs.length f (bs.length : Int) = true then zs ++ bs else zs
def wrZ (lim : Nat) (zs : List Int) (f : Bool) (m : Int) : List Int := if wrOk lim zs.length f m = true then zs ++ List.replicate m.toNat 0 else zs
def stOk (n : Nat) (p : Int) : Bool := decide (0 ≤ p) && decide (p ≤ (n : Int) - 2)
/-- what a writer has behind Set16, and whether it has failed -/
def stB (zs : List Int) (f : Bool) (p v : Int) : List Int := if f = false ∧ stOk zs.length p = true then (zs.set p.toNat (v / 256)).set (p.toNat + 1) (v % 256) else zs
def stF (n : Nat) (f : Bool) (p : Int) : Bool := f || !stOk n p
theorem wrB_len {lim : Nat} {zs : List Int} (h : zs.length ≤ lim) (f : Bool) (bs : List Int) : (wrB lim zs f bs).length ≤ lim ∧ zs.length ≤ (wrB lim zs f bs).length := by
  unfold wrB wrOk; split
  · rename_i hh
    simp only [Bool.and_eq_true, decide_eq_true_eq] at hh
    rw [List.length_append]; omega
  · omega
theorem wrZ_len {lim : Nat} {zs : List Int} (h : zs.length ≤ lim) (f : Bool) (m : Int) : (wrZ lim zs f m).length ≤ lim ∧ zs.length ≤ (wrZ lim zs f m).length := by
  unfold wrZ wrOk; split
  · rename_i hh
    simp only [Bool.and_eq_true, decide_eq_true_eq] at hh
    rw [List.length_append, List.length_replicate]; omega
  · omega
theorem stB_len (zs : List Int) (f : Bool) (p v : Int) : (stB zs f p v).length = zs.length := by unfold stB; split <;> simp
theorem wrB_bd {lim : Nat} {zs bs : List Int} (h : BD 255 zs) (hb : BD 255 bs) (f : Bool) : BD 255 (wrB lim zs f bs) := by
  unfold wrB; split
  · exact h.append hb
  · exact h
theorem zer_bd (n : Nat) : BD 255 (List.replicate n (0 : Int)) := fun x hx => by have := List.eq_of_mem_replicate hx; omega
theorem wrZ_bd {lim : Nat} {zs : List Int} (h : BD 255 zs) (f : Bool) (m : Int) : BD 255 (wrZ lim zs f m) := by
  unfold wrZ; split
  · exact h.append (zer_bd _)
  · exact h
theorem bd_set1 {zs : List Int} (h : BD 255 zs) (k : Nat) {y : Int} (hy : 0 ≤ y ∧ y ≤ 255) : BD 255 (zs.set k y) := fun z hz => by
  rcases List.mem_or_eq_of_mem_set hz with hz | rfl
  · exact h z hz
  · exact hy
theorem stB_bd {zs : List Int} (h : BD 255 zs) (f : Bool) (p v : Int) (hv : 0 ≤ v ∧ v ≤ 65535) : BD 255 (stB zs f p v) := by
  unfold stB; split
  · exact bd_set1 (bd_set1 h _ (by omega)) _ (by omega)
  · exact h
def by16 (v : Int) : List Int := [v / 256, v % 256]
def by32 (v : Int) : List Int := [v / 16777216, v / 65536 % 256, v / 256 % 256, v % 256]

theorem wready_any (w : World) (W : Nat) (h : w.cell? ⟨W, 0, none⟩ = some (.pointer (some ⟨W, 0, none⟩))) : Calls Try.prog 59 #[.pointer (some ⟨W, 0, none⟩)] w fun e w' => e = .returned (.bool true) ∧ w' = w := by
  obtain ⟨j, hj, _⟩ := Option.map_eq_some_iff.1 (show (Try.prog.info? 71).map (·.size) = some 4 by kernel_rfl)
  have k0 : (binOp .eql 39 (.pointer (some ⟨W, 0, none⟩)) (.pointer (some ⟨W, 0, none⟩))).run Try.prog w = .ok (.bool true) w := run_eql_ptr_same w _ Try.underlying39 hj
  go_enter Try.func59, Try.ntmps59
  go_wp2_with fail
  go_ret
  exact ⟨rfl, rfl⟩

section
variable {w0 w : World} {L : List IT} {i j W lim : Nat} {B : Option Addr} {n c : Nat} {f : Bool} {zs : List Int}

set_option maxHeartbeats 2000000 in
set_option maxRecDepth 100000 in
theorem room_any (H : SP w0 w L) (hi : L[i]? = some (.blk W 71 (wcells W lim B n c f))) (hn : n ≤ lim) (hl : lim ≤ 131072) (m : Int) (hm : -9223372036854775808 ≤ m ∧ m ≤ 9223372036854775807) :
    Calls Try.prog 63 #[.pointer (some ⟨W, 0, none⟩), .int .i64 m] w fun e w' => e = .returned (.bool (wrOk lim n f m)) ∧ ((wrOk lim n f m = true ∧ ∃ k, w' = w.drewN k) ∨ (wrOk lim n f m = false ∧ SP w0 w' (L.set i (.blk W 71 (wcells W lim B n c true))))) := by
  have HH := Lib.hid H
  have x0 : w.cell? ⟨W, 0, none⟩ = some (.pointer (some ⟨W, 0, none⟩)) := H.cell i hi 0 rfl
  have x1 : w.cell? ⟨W, 1, none⟩ = some (.int .i64 (lim : Int)) := H.cell i hi 1 rfl
  have x2 : w.cell? ⟨W, 2, none⟩ = some (.slice B n c) := H.cell i hi 2 rfl
  have x3 : w.cell? ⟨W, 3, none⟩ = some (.bool f) := H.cell i hi 3 rfl
  have d2 : w.frozen? ⟨W, 2, none⟩ = false := H.free i hi 2
  have d3 : w.frozen? ⟨W, 3, none⟩ = false := H.free i hi 3
  have HRDY := Lib.hid (fun W' h => wready_any W' W h)
  have e0 : IntKind.i64.wrap ((lim : Int) - (n : Int)) = (lim : Int) - (n : Int) := IntWalk.i64_in _ (by omega)
  obtain ⟨q, hq⟩ : ∃ q, (lim : Int) - (n : Int) = q := ⟨_, rfl⟩
  have HS := Lib.hid (show ∀ a, SP w0 ((w.setCell ⟨W, 3, none⟩ (.bool true)).drewN a) (L.set i (.blk W 71 (wcells W lim B n c true))) from fun a => (HH.out.setB i hi 3 (.bool true)).drewN a)
  have HS2 := Lib.hid (show f = true → ∀ a, SP w0 (w.drewN a) (L.set i (.blk W 71 (wcells W lim B n c true))) from fun h a => by
    subst h
    rw [set_self hi]
    exact HH.out.drewN a)
  clear H
  rw [hq] at e0
  have y3 : (w.setCell ⟨W, 3, none⟩ (.bool true)).cell? ⟨W, 3, none⟩ = some (.bool true) := (HS.out 0).cell i (by rw [List.getElem?_set_self (List.getElem?_eq_some_iff.1 hi).1]) 3 rfl
  by_cases h0 : m < 0
  · have HO := Lib.hid (show wrOk lim n f m = false by unfold wrOk; rw [show decide (0 ≤ m) = false by simpa using h0]; simp)
    rw [HO.out]
    go_enter Try.func63, Try.ntmps63
    go_wp2_with (go_at_call 59; refine (HRDY.out _ x0).mono ?_; rintro e w2 ⟨rfl, rfl⟩)
    go_quiet (fail)
    go_wp2_with fail
    go_ret
    exact ⟨rfl, .inr ⟨by trivial, HS.out _⟩⟩
  by_cases h1 : q < m
  · have HO := Lib.hid (show wrOk lim n f m = false by unfold wrOk; rw [hq, show decide (m ≤ q) = false by simpa using h1]; simp)
    rw [HO.out]
    go_enter Try.func63, Try.ntmps63
    go_wp2_with (go_at_call 59; refine (HRDY.out _ x0).mono ?_; rintro e w2 ⟨rfl, rfl⟩)
    go_quiet (fail)
    go_wp2_with fail
    go_ret
    exact ⟨rfl, .inr ⟨by trivial, HS.out _⟩⟩
  have HO := Lib.hid (show wrOk lim n f m = !f by unfold wrOk; rw [hq, show decide (m ≤ q) = true by simp; omega, show decide (0 ≤ m) = true by simp; omega]; simp)
  rw [HO.out]
  cases f
  case true =>
    go_enter Try.func63, Try.ntmps63
    go_wp2_with (go_at_call 59; refine (HRDY.out _ x0).mono ?_; rintro e w2 ⟨rfl, rfl⟩)
    go_quiet (fail)
    go_wp2_with fail
    go_ret
    exact ⟨rfl, .inr ⟨by trivial, HS2.out (by trivial) _⟩⟩
  case false =>
    go_enter Try.func63, Try.ntmps63
    go_wp2_with (go_at_call 59; refine (HRDY.out _ x0).mono ?_; rintro e w2 ⟨rfl, rfl⟩)
    go_quiet (fail)
    go_wp2_with fail
    go_ret
    exact ⟨rfl, .inl ⟨by trivial, _, rfl⟩⟩

set_option maxHeartbeats 1000000 in
set_option maxRecDepth 100000 in
theorem wBytes_any (H : SP w0 w L) (hi : L[i]? = some (.blk W 71 (wcells W lim B n c f))) (hj : L[j]? = some (.own .u8 5 B n c zs)) (hij : i ≠ j) (hn : n ≤ lim) (hl : lim ≤ 131072) (A : Option Addr) (m cm : Nat) (bs : List Int) (h : RD .u8 w w.heap.size A m bs) (hm : m ≤ 9223372036854775807) :
    Calls Try.prog 34 #[.pointer (some ⟨W, 0, none⟩), .slice A m cm] w fun e w' => e = .returned (.tuple #[]) ∧ ∃ B' n' c', SP w0 w' ((L.set j (.own .u8 5 B' n' c' (wrB lim zs f bs))).set i (.blk W 71 (wcells W lim B' n' c' (!wrOk lim n f (m : Int))))) := by
  obtain ⟨i0, hi', hz0, hz1, hz2⟩ := info_parts infoU8
  have hbl := h.len
  have hzl := (H.own j hj).len
  have HH := Lib.hid H
  have x2 : w.cell? ⟨W, 2, none⟩ = some (.slice B n c) := H.cell i hi 2 rfl
  have d2 : w.frozen? ⟨W, 2, none⟩ = false := H.free i hi 2
  have HROOM := Lib.hid (room_any H hi hn hl (m : Int) (by omega))
  have HB := Lib.hid (show wrB lim zs f bs = if wrOk lim n f (m : Int) = true then zs ++ bs else zs by unfold wrB; rw [hzl, hbl])
  have HR := Lib.hid h
  obtain ⟨ok, hok⟩ : ∃ ok, wrOk lim n f (m : Int) = ok := ⟨_, rfl⟩
  have HOK := Lib.hid hok
  rw [hok] at HROOM HB ⊢
  clear H h
  go_enter Try.func34, Try.ntmps34
  go_wp2_with fail
  refine HROOM.out.mono ?_
  rintro e w1 ⟨rfl, hw⟩
  cases ok
  case false =>
    obtain ⟨hx, _⟩ | ⟨_, hS⟩ := hw
    · cases hx
    have HS := Lib.hid hS
    clear hS
    go_wp2_with fail
    go_end0
    refine ⟨rfl, B, n, c, ?_⟩
    rw [HB.out, if_neg (by simp), set_self hj]
    exact HS.out
  case true =>
    have hmn : n + m ≤ 131072 := by
      have := HOK.out
      unfold wrOk at this
      simp only [Bool.and_eq_true, decide_eq_true_eq] at this
      omega
    have hw' : ∃ k, w1 = w.drewN k := by
      rcases hw with ⟨_, h⟩ | ⟨hx, _⟩
      · exact h
      · cases hx
    obtain ⟨k, rfl⟩ := hw'
    clear hw
    have Y := Lib.hid (HH.out.drewN k)
    have RY := Lib.hid (HR.out.drewN k)
    have AFT := Lib.hid (show ∀ B' c' w', SP w0 w' (L.set j (.own .u8 5 B' (n + m) c' (zs ++ bs))) → w'.cell? ⟨W, 2, none⟩ = some (.slice B n c) ∧ w'.frozen? ⟨W, 2, none⟩ = false ∧ SP w0 (w'.setCell ⟨W, 2, none⟩ (.slice B' (n + m) c')) ((L.set j (.own .u8 5 B' (n + m) c' (zs ++ bs))).set i (.blk W 71 (wcells W lim B' (n + m) c' f))) from fun B' c' w' X => by
      have hi2 : (L.set j (.own .u8 5 B' (n + m) c' (zs ++ bs)))[i]? = some (.blk W 71 (wcells W lim B n c f)) := by rw [List.getElem?_set_ne (fun h => hij h.symm)]; exact hi
      exact ⟨X.cell i hi2 2 rfl, X.free i hi2 2, X.setB i hi2 2 (.slice B' (n + m) c')⟩)
    have HF := Lib.hid (show f = false by
      have := HOK.out
      unfold wrOk at this
      simp only [Bool.and_eq_true, Bool.not_eq_true'] at this
      exact this.1)
    go_wp2_with (at_builtin; refine wpList_append_rd _ rfl _ _ _ rfl .u8 w0.heap.size 5 i0 1 Try.underlying22 hi' hz0 hz1 hz2 B n c zs rfl (Y.out.own j hj) _ A m cm bs rfl RY.out (by simp only [maxLen]; omega) (by omega) Y.out.size ?_; intro A9 c9 w9 happ; have X9 := Lib.hid (AFT.out A9 c9 w9 (Y.out.app j hj happ)); have u1 := X9.out.1; have u2 := X9.out.2.1; clear happ)
    go_end0
    refine ⟨rfl, A9, n + m, c9, ?_⟩
    rw [HB.out, if_pos (by trivial)]
    have := X9.out.2.2
    rw [HF.out] at this
    exact this

set_option maxHeartbeats 1000000 in
set_option maxRecDepth 100000 in
theorem wZeros_any (H : SP w0 w L) (hi : L[i]? = some (.blk W 71 (wcells W lim B n c f))) (hj : L[j]? = some (.own .u8 5 B n c zs)) (hij : i ≠ j) (hn : n ≤ lim) (hl : lim ≤ 131072) (m : Int) (hm : -9223372036854775808 ≤ m ∧ m ≤ 9223372036854775807) :
    Calls Try.prog 29 #[.pointer (some ⟨W, 0, none⟩), .int .i64 m] w fun e w' => e = .returned (.tuple #[]) ∧ ∃ B' n' c', SP w0 w' ((L.set j (.own .u8 5 B' n' c' (wrZ lim zs f m))).set i (.blk W 71 (wcells W lim B' n' c' (!wrOk lim n f m)))) := by
  obtain ⟨i0, hi', hz0, hz1, hz2⟩ := info_parts infoU8
  have hzl := (H.own j hj).len
  have HH := Lib.hid H
  have x2 : w.cell? ⟨W, 2, none⟩ = some (.slice B n c) := H.cell i hi 2 rfl
  have d2 : w.frozen? ⟨W, 2, none⟩ = false := H.free i hi 2
  have HROOM := Lib.hid (room_any H hi hn hl m hm)
  have HB := Lib.hid (show wrZ lim zs f m = if wrOk lim n f m = true then zs ++ List.replicate m.toNat 0 else zs by unfold wrZ; rw [hzl])
  obtain ⟨ok, hok⟩ : ∃ ok, wrOk lim n f m = ok := ⟨_, rfl⟩
  have HOK := Lib.hid hok
  rw [hok] at HROOM HB ⊢
  clear H
  go_enter Try.func29, Try.ntmps29
  go_wp2_with fail
  refine HROOM.out.mono ?_
  rintro e w1 ⟨rfl, hw⟩
  cases ok
  case false =>
    obtain ⟨hx, _⟩ | ⟨_, hS⟩ := hw
    · cases hx
    have HS := Lib.hid hS
    clear hS
    go_wp2_with fail
    go_end0
    refine ⟨rfl, B, n, c, ?_⟩
    rw [HB.out, if_neg (by simp), set_self hj]
    exact HS.out
  case true =>
    have hmn : 0 ≤ m ∧ n + m ≤ 131072 := by
      have := HOK.out
      unfold wrOk at this
      simp only [Bool.and_eq_true, decide_eq_true_eq] at this
      omega
    obtain ⟨a, rfl⟩ := Int.eq_ofNat_of_zero_le hmn.1
    have hw' : ∃ k, w1 = w.drewN k := by
      rcases hw with ⟨_, h⟩ | ⟨hx, _⟩
      · exact h
      · cases hx
    obtain ⟨k, rfl⟩ := hw'
    clear hw
    have Y := Lib.hid (HH.out.drewN k)
    have AFT := Lib.hid (show ∀ B' c' w', SP w0 w' (L.set j (.own .u8 5 B' (n + a) c' (zs ++ List.replicate a 0))) → w'.cell? ⟨W, 2, none⟩ = some (.slice B n c) ∧ w'.frozen? ⟨W, 2, none⟩ = false ∧ SP w0 (w'.setCell ⟨W, 2, none⟩ (.slice B' (n + a) c')) ((L.set j (.own .u8 5 B' (n + a) c' (zs ++ List.replicate a 0))).set i (.blk W 71 (wcells W lim B' (n + a) c' f))) from fun B' c' w' X => by
      have hi2 : (L.set j (.own .u8 5 B' (n + a) c' (zs ++ List.replicate a 0)))[i]? = some (.blk W 71 (wcells W lim B n c f)) := by rw [List.getElem?_set_ne (fun h => hij h.symm)]; exact hi
      exact ⟨X.cell i hi2 2 rfl, X.free i hi2 2, X.setB i hi2 2 (.slice B' (n + a) c')⟩)
    have HF := Lib.hid (show f = false by
      have := HOK.out
      unfold wrOk at this
      simp only [Bool.and_eq_true, Bool.not_eq_true'] at this
      exact this.1)
    go_wp2_with (at_builtin; refine wpList_append_zeros_ownO _ rfl _ _ _ _ rfl 5 i0 .i64 Try.underlying22 Try.underlying3 hi' hz0 hz1 hz2 w0.heap.size n c a B _ rfl zs rfl rfl (Y.out.own j hj) Y.out.size (by omega) ?_; intro A9 c9 w9 happ; have X9 := Lib.hid (AFT.out A9 c9 w9 (Y.out.app j hj happ)); have u1 := X9.out.1; have u2 := X9.out.2.1; clear happ)
    go_end0
    refine ⟨rfl, A9, n + a, c9, ?_⟩
    rw [HB.out, if_pos (by trivial)]
    have := X9.out.2.2
    rw [HF.out] at this
    exact this

set_option maxHeartbeats 1000000 in
theorem wLen_any (H : SP w0 w L) (hi : L[i]? = some (.blk W 71 (wcells W lim B n c f))) :
    Calls Try.prog 22 #[.pointer (some ⟨W, 0, none⟩)] w fun e w' => e = .returned (.int .i64 (n : Int)) ∧ SP w0 w' L := by
  have HH := Lib.hid H
  have x0 : w.cell? ⟨W, 0, none⟩ = some (.pointer (some ⟨W, 0, none⟩)) := H.cell i hi 0 rfl
  have x1 : w.cell? ⟨W, 1, none⟩ = some (.int .i64 (lim : Int)) := H.cell i hi 1 rfl
  have x2 : w.cell? ⟨W, 2, none⟩ = some (.slice B n c) := H.cell i hi 2 rfl
  have x3 : w.cell? ⟨W, 3, none⟩ = some (.bool f) := H.cell i hi 3 rfl
  have d2 : w.frozen? ⟨W, 2, none⟩ = false := H.free i hi 2
  have d3 : w.frozen? ⟨W, 3, none⟩ = false := H.free i hi 3
  have HRDY := Lib.hid (fun W' h => wready_any W' W h)
  clear H
  go_enter Try.func22, Try.ntmps22
  go_wp2_with (go_at_call 59; refine (HRDY.out _ x0).mono ?_; rintro e w2 ⟨rfl, rfl⟩)
  go_ret
  exact ⟨rfl, HH.out⟩

set_option maxHeartbeats 1000000 in
theorem wFailed_any (H : SP w0 w L) (hi : L[i]? = some (.blk W 71 (wcells W lim B n c f))) :
    Calls Try.prog 23 #[.pointer (some ⟨W, 0, none⟩)] w fun e w' => e = .returned (.bool f) ∧ SP w0 w' L := by
  have HH := Lib.hid H
  have x0 : w.cell? ⟨W, 0, none⟩ = some (.pointer (some ⟨W, 0, none⟩)) := H.cell i hi 0 rfl
  have x1 : w.cell? ⟨W, 1, none⟩ = some (.int .i64 (lim : Int)) := H.cell i hi 1 rfl
  have x2 : w.cell? ⟨W, 2, none⟩ = some (.slice B n c) := H.cell i hi 2 rfl
  have x3 : w.cell? ⟨W, 3, none⟩ = some (.bool f) := H.cell i hi 3 rfl
  have d2 : w.frozen? ⟨W, 2, none⟩ = false := H.free i hi 2
  have d3 : w.frozen? ⟨W, 3, none⟩ = false := H.free i hi 3
  have HRDY := Lib.hid (fun W' h => wready_any W' W h)
  clear H
  go_enter Try.func23, Try.ntmps23
  go_wp2_with (go_at_call 59; refine (HRDY.out _ x0).mono ?_; rintro e w2 ⟨rfl, rfl⟩)
  go_ret
  exact ⟨rfl, HH.out⟩


set_option maxHeartbeats 2000000 in
set_option maxRecDepth 100000 in
theorem wSet16_any (H : SP w0 w L) (hi : L[i]? = some (.blk W 71 (wcells W lim B n c f))) (hj : L[j]? = some (.own .u8 5 B n c zs)) (hij : i ≠ j) (hn : n ≤ lim) (hl : lim ≤ 131072) (q : Int) (hq : -9223372036854775808 ≤ q ∧ q ≤ 9223372036854775807) (v : Int) (hv : 0 ≤ v ∧ v ≤ 65535) :
    Calls Try.prog 31 #[.pointer (some ⟨W, 0, none⟩), .int .i64 q, .int .u16 v] w fun e w' => e = .returned (.tuple #[]) ∧ SP w0 w' ((L.set j (.own .u8 5 B n c (stB zs f q v))).set i (.blk W 71 (wcells W lim B n c (stF n f q)))) := by
  have hzl := (H.own j hj).len
  have HH := Lib.hid H
  have x0 : w.cell? ⟨W, 0, none⟩ = some (.pointer (some ⟨W, 0, none⟩)) := H.cell i hi 0 rfl
  have x1 : w.cell? ⟨W, 1, none⟩ = some (.int .i64 (lim : Int)) := H.cell i hi 1 rfl
  have x2 : w.cell? ⟨W, 2, none⟩ = some (.slice B n c) := H.cell i hi 2 rfl
  have x3 : w.cell? ⟨W, 3, none⟩ = some (.bool f) := H.cell i hi 3 rfl
  have d2 : w.frozen? ⟨W, 2, none⟩ = false := H.free i hi 2
  have d3 : w.frozen? ⟨W, 3, none⟩ = false := H.free i hi 3
  have HRDY := Lib.hid (fun W' h => wready_any W' W h)
  have e0 : IntKind.i64.wrap ((n : Int) - 2) = (n : Int) - 2 := IntWalk.i64_in _ (by omega)
  obtain ⟨t, ht⟩ : ∃ t, (n : Int) - 2 = t := ⟨_, rfl⟩
  rw [ht] at e0
  have HS := Lib.hid (show ∀ a, SP w0 ((w.setCell ⟨W, 3, none⟩ (.bool true)).drewN a) (L.set i (.blk W 71 (wcells W lim B n c true))) from fun a => (HH.out.setB i hi 3 (.bool true)).drewN a)
  cases f
  case true =>
    have HE := Lib.hid (show stB zs true q v = zs ∧ stF n true q = true from ⟨by unfold stB; rw [if_neg (by simp)], by unfold stF; simp⟩)
    rw [HE.out.1, HE.out.2, set_self hj, set_self hi]
    clear H
    go_enter Try.func31, Try.ntmps31
    go_wp2_with (go_at_call 59; refine (HRDY.out _ x0).mono ?_; rintro e w2 ⟨rfl, rfl⟩)
    refine bodyPost_ret (results_none rfl _ _ _) rfl ?_
    exact ⟨rfl, HH.out⟩
  case false =>
    clear H
    by_cases h0 : q < 0
    · have HE := Lib.hid (show stB zs false q v = zs ∧ stF n false q = true from ⟨by unfold stB stOk; rw [if_neg (by simp; omega)], by unfold stF stOk; simp; omega⟩)
      rw [HE.out.1, HE.out.2, set_self hj]
      go_enter Try.func31, Try.ntmps31
      go_wp2_with (go_at_call 59; refine (HRDY.out _ x0).mono ?_; rintro e w2 ⟨rfl, rfl⟩)
      refine bodyPost_ret (results_none rfl _ _ _) rfl ?_
      exact ⟨rfl, HS.out 0⟩
    by_cases h1 : t < q
    · have HE := Lib.hid (show stB zs false q v = zs ∧ stF n false q = true from ⟨by unfold stB stOk; rw [if_neg (by simp; omega)], by unfold stF stOk; simp; omega⟩)
      rw [HE.out.1, HE.out.2, set_self hj]
      go_enter Try.func31, Try.ntmps31
      go_wp2_with (go_at_call 59; refine (HRDY.out _ x0).mono ?_; rintro e w2 ⟨rfl, rfl⟩)
      refine bodyPost_ret (results_none rfl _ _ _) rfl ?_
      exact ⟨rfl, HS.out 0⟩
    obtain ⟨p, rfl⟩ := Int.eq_ofNat_of_zero_le (show 0 ≤ q by omega)
    have hp2 : p + 2 ≤ n := by omega
    have HE := Lib.hid (show stB zs false (p : Int) v = (zs.set p (v / 256)).set (p + 1) (v % 256) ∧ stF n false (p : Int) = false from ⟨by unfold stB stOk; rw [if_pos (by simp; omega), Int.toNat_natCast], by unfold stF stOk; simp; omega⟩)
    rw [HE.out.1, HE.out.2]
    obtain ⟨g, rfl, _, _⟩ := (HH.out.own j hj).form (by omega)
    have e1 : IntKind.i64.wrap ((p : Int) + 1) = (p : Int) + 1 := IntWalk.i64_in _ (by omega)
    have e2 : IntKind.u8.wrap (v / 256) = v / 256 := u8_in _ (by omega) (by omega)
    have e3 : IntKind.u8.wrap v = v % 256 := rfl
    have b1 : (0 : Int) ≤ (p : Int) := by omega
    have b2 : (p : Int) < (n : Int) := by omega
    have b3 : (0 : Int) ≤ (p : Int) + 1 := by omega
    have b4 : (p : Int) + 1 < (n : Int) := by omega
    clear d2 d3 HS
    go_enter Try.func31, Try.ntmps31
    go_upto_region 3 with (go_at_call 59; refine (HRDY.out _ x0).mono ?_; rintro e w2 ⟨rfl, rfl⟩)
    have XD := Lib.hid HH.out.drew
    refine wp_region_noPanic ?_
    refine wp_region_held_drew (S := fun W' => W'.cell? ⟨W, 2, none⟩ = some (.slice (some ⟨g, 0, none⟩) n c)) (by kernel_rfl) (by exact XD.out.cell i hi 2 rfl) (fun hHeld => ?_)
    generalize w2.drew = v0 at XD hHeld ⊢
    refine' take_lit (i := 0) (v := _) rfl (by kernel_rfl) (by kernel_rfl) (by kernel_rfl) (fun _ _ _ h => h) (Or.inl ⟨by rfl, ?yy1⟩) (by assumption) ?rr1
    case yy1 => intro w' hSw; (try dsimp only at hSw); go_simp; try (with_reducible rfl)
    (try simp only [Act.put]); (try simp only [List.setIfInBounds_toArray, List.set_cons_zero, List.set_cons_succ])
    refine' take_lit (i := 1) (v := _) rfl (by kernel_rfl) (by kernel_rfl) (by kernel_rfl) (fun _ _ _ h => h) (Or.inl ⟨by rfl, ?yy2⟩) (by assumption) ?rr2
    case yy2 => intro w' hSw; (try dsimp only at hSw); go_simp; try (with_reducible rfl)
    (try simp only [Act.put]); (try simp only [List.setIfInBounds_toArray, List.set_cons_zero, List.set_cons_succ])
    refine' take_lit (i := 2) (v := _) rfl (by kernel_rfl) (by kernel_rfl) (by kernel_rfl) (fun _ _ _ h => h) (Or.inl ⟨by rfl, ?yy3⟩) (by assumption) ?rr3
    case yy3 => intro w' hSw; (try dsimp only at hSw); go_simp; try (with_reducible rfl)
    (try simp only [Act.put]); (try simp only [List.setIfInBounds_toArray, List.set_cons_zero, List.set_cons_succ])
    refine' take_lit (i := 3) (v := _) rfl (by kernel_rfl) (by kernel_rfl) (by kernel_rfl) (fun _ _ _ h => h) (Or.inl ⟨by rfl, ?yy4⟩) (by assumption) ?rr4
    case yy4 => intro w' hSw; (try dsimp only at hSw); go_simp; try (with_reducible rfl)
    (try simp only [Act.put]); (try simp only [List.setIfInBounds_toArray, List.set_cons_zero, List.set_cons_succ])
    refine' take_lit (i := 4) (v := _) rfl (by kernel_rfl) (by kernel_rfl) (by kernel_rfl) (fun _ _ _ h => h) (Or.inl ⟨by rfl, ?yy5⟩) (by assumption) ?rr5
    case yy5 => intro w' hSw; (try dsimp only at hSw); go_simp; try (with_reducible rfl)
    (try simp only [Act.put]); (try simp only [List.setIfInBounds_toArray, List.set_cons_zero, List.set_cons_succ])
    refine' take_lit (i := 5) (v := _) rfl (by kernel_rfl) (by kernel_rfl) (by kernel_rfl) (fun _ _ _ h => h) (Or.inl ⟨by rfl, ?yy6⟩) (by assumption) ?rr6
    case yy6 => intro w' hSw; (try dsimp only at hSw); go_simp; try (with_reducible rfl)
    (try simp only [Act.put]); (try simp only [List.setIfInBounds_toArray, List.set_cons_zero, List.set_cons_succ])
    refine' take_lit (i := 6) (v := _) rfl (by kernel_rfl) (by kernel_rfl) (by kernel_rfl) (fun _ _ _ h => h) (Or.inl ⟨by rfl, ?yy7⟩) (by assumption) ?rr7
    case yy7 => intro w' hSw; (try dsimp only at hSw); go_simp; try (with_reducible rfl)
    (try simp only [Act.put]); (try simp only [List.setIfInBounds_toArray, List.set_cons_zero, List.set_cons_succ])
    refine' take_lit (i := 7) (v := _) rfl (by kernel_rfl) (by kernel_rfl) (by kernel_rfl) (fun _ _ _ h => h) (Or.inl ⟨by rfl, ?yy8⟩) (by assumption) ?rr8
    case yy8 => intro w' hSw; (try dsimp only at hSw); go_simp; try (with_reducible rfl)
    (try simp only [Act.put]); (try simp only [List.setIfInBounds_toArray, List.set_cons_zero, List.set_cons_succ])
    refine' take_lit (i := 8) (v := _) rfl (by kernel_rfl) (by kernel_rfl) (by kernel_rfl) (fun _ _ _ h => h) (Or.inl ⟨by rfl, ?yy9⟩) (by assumption) ?rr9
    case yy9 => intro w' hSw; (try dsimp only at hSw); go_simp; try (with_reducible rfl)
    (try simp only [Act.put]); (try simp only [List.setIfInBounds_toArray, List.set_cons_zero, List.set_cons_succ])
    refine' take_lit (i := 9) (v := _) rfl (by kernel_rfl) (by kernel_rfl) (by kernel_rfl) (fun _ _ _ h => h) (Or.inl ⟨by rfl, ?yy10⟩) (by assumption) ?rr10
    case yy10 => intro w' hSw; (try dsimp only at hSw); go_simp; try (with_reducible rfl)
    (try simp only [Act.put]); (try simp only [List.setIfInBounds_toArray, List.set_cons_zero, List.set_cons_succ])
    refine' take_lit (i := 10) (v := _) rfl (by kernel_rfl) (by kernel_rfl) (by kernel_rfl) (fun _ _ _ h => h) (Or.inl ⟨by rfl, ?yy11⟩) (by assumption) ?rr11
    case yy11 => intro w' hSw; (try dsimp only at hSw); go_simp; try (with_reducible rfl)
    (try simp only [Act.put]); (try simp only [List.setIfInBounds_toArray, List.set_cons_zero, List.set_cons_succ])
    refine' take_lit (i := 11) (v := _) rfl (by kernel_rfl) (by kernel_rfl) (by kernel_rfl) (fun _ _ _ h => h) (Or.inl ⟨by rfl, ?yy12⟩) (by assumption) ?rr12
    case yy12 => intro w' hSw; (try dsimp only at hSw); go_simp; try (with_reducible rfl)
    (try simp only [Act.put]); (try simp only [List.setIfInBounds_toArray, List.set_cons_zero, List.set_cons_succ])
    refine' take_lit (i := 12) (v := _) rfl (by kernel_rfl) (by kernel_rfl) (by kernel_rfl) (fun _ _ _ h => h) (Or.inl ⟨by rfl, ?yy13⟩) (by assumption) ?rr13
    case yy13 => intro w' hSw; (try dsimp only at hSw); go_simp; try (with_reducible rfl)
    (try simp only [Act.put]); (try simp only [List.setIfInBounds_toArray, List.set_cons_zero, List.set_cons_succ])
    refine' take_lit (i := 13) (v := _) rfl (by kernel_rfl) (by kernel_rfl) (by kernel_rfl) (fun _ _ _ h => h) (Or.inl ⟨by rfl, ?yy14⟩) (by assumption) ?rr14
    case yy14 => intro w' hSw; (try dsimp only at hSw); go_simp; try (with_reducible rfl)
    (try simp only [Act.put]); (try simp only [List.setIfInBounds_toArray, List.set_cons_zero, List.set_cons_succ])
    refine' take_lit (i := 14) (v := _) rfl (by kernel_rfl) (by kernel_rfl) (by kernel_rfl) (fun _ _ _ h => h) (Or.inl ⟨by rfl, ?yy15⟩) (by assumption) ?rr15
    case yy15 => intro w' hSw; (try dsimp only at hSw); go_simp; try (with_reducible rfl)
    (try simp only [Act.put]); (try simp only [List.setIfInBounds_toArray, List.set_cons_zero, List.set_cons_succ])
    refine' take_lit (i := 15) (v := _) rfl (by kernel_rfl) (by kernel_rfl) (by kernel_rfl) (fun _ _ _ h => h) (Or.inl ⟨by rfl, ?yy16⟩) (by assumption) ?rr16
    case yy16 => intro w' hSw; (try dsimp only at hSw); go_simp; try (with_reducible rfl)
    (try simp only [Act.put]); (try simp only [List.setIfInBounds_toArray, List.set_cons_zero, List.set_cons_succ])
    refine' take_lit (i := 16) (v := _) rfl (by kernel_rfl) (by kernel_rfl) (by kernel_rfl) (fun _ _ _ h => h) (Or.inl ⟨by rfl, ?yy17⟩) (by assumption) ?rr17
    case yy17 => intro w' hSw; (try dsimp only at hSw); go_simp; try (with_reducible rfl)
    (try simp only [Act.put]); (try simp only [List.setIfInBounds_toArray, List.set_cons_zero, List.set_cons_succ])
    refine wpAnyH_ready (rs := [17]) (by kernel_rfl) (by simp) ?_
    refine cons_lit rfl (fun K hK => ?ss17x18) AllReadyH.nil
    case ss17x18 =>
      have q1 : v0.cell? ⟨g, p, none⟩ = some (.int .u8 (zs[p]?.getD 0)) := (XD.out.own j hj).cell (i := p) (by omega)
      have q2 : v0.frozen? ⟨g, p, none⟩ = false := (XD.out.own j hj).frozen p
      go_simp
      refine nameV (fun v1 hv1 => ?_)
      have X1 := Lib.hid (show SP w0 v1 (L.set j (.own .u8 5 (some ⟨g, 0, none⟩) n c (zs.set p (v / 256)))) by rw [hv1]; exact XD.out.setO j hj p (v / 256))
      clear q1 q2 hv1
      refine hK.out _ _ (by exact X1.out.cell i (by rw [List.getElem?_set_ne (fun h => hij h.symm)]; exact hi) 2 rfl) (fun hHeld => ?_)
      clear hK K
      (try simp only [Act.put]); (try simp only [List.setIfInBounds_toArray, List.set_cons_zero, List.set_cons_succ])
      refine' take_lit (i := 18) (v := _) rfl (by kernel_rfl) (by kernel_rfl) (by kernel_rfl) (fun _ _ _ h => h) (Or.inl ⟨by rfl, ?yy19⟩) (by assumption) ?rr19
      case yy19 => intro w' hSw; (try dsimp only at hSw); go_simp; try (with_reducible rfl)
      (try simp only [Act.put]); (try simp only [List.setIfInBounds_toArray, List.set_cons_zero, List.set_cons_succ])
      refine wpAnyH_ready (rs := [19]) (by kernel_rfl) (by simp) ?_
      refine cons_lit rfl (fun K hK => ?ss19x20) AllReadyH.nil
      case ss19x20 =>
        have hj1 : (L.set j (.own .u8 5 (some ⟨g, 0, none⟩) n c (zs.set p (v / 256))))[j]? = some (.own .u8 5 (some ⟨g, 0, none⟩) n c (zs.set p (v / 256))) := List.getElem?_set_self (List.getElem?_eq_some_iff.1 hj).1
        have q1 : v1.cell? ⟨g, p + 1, none⟩ = some (.int .u8 ((zs.set p (v / 256))[p + 1]?.getD 0)) := (X1.out.own j hj1).cell (i := p + 1) (by omega)
        have q2 : v1.frozen? ⟨g, p + 1, none⟩ = false := (X1.out.own j hj1).frozen (p + 1)
        go_simp
        refine nameV (fun v2 hv2 => ?_)
        have X2 := Lib.hid (show SP w0 v2 (L.set j (.own .u8 5 (some ⟨g, 0, none⟩) n c ((zs.set p (v / 256)).set (p + 1) (v % 256)))) by
          rw [hv2]
          have := X1.out.setO j hj1 (p + 1) (v % 256)
          rw [List.set_set] at this
          exact this)
        clear q1 q2 hv2
        refine hK.out _ _ (by exact X2.out.cell i (by rw [List.getElem?_set_ne (fun h => hij h.symm)]; exact hi) 2 rfl) (fun hHeld => ?_)
        clear hK K
        (try simp only [Act.put]); (try simp only [List.setIfInBounds_toArray, List.set_cons_zero, List.set_cons_succ])
        refine wpAnyH_done (by kernel_rfl) ?_ _
        refine NoPanic.normal ?_
        have hi2 : (L.set j (.own .u8 5 (some ⟨g, 0, none⟩) n c ((zs.set p (v / 256)).set (p + 1) (v % 256))))[i]? = some (.blk W 71 (wcells W lim (some ⟨g, 0, none⟩) n c false)) := by rw [List.getElem?_set_ne (fun h => hij h.symm)]; exact hi
        go_wp2_with fail
        go_end0
        refine ⟨rfl, ?_⟩
        rw [set_self hi2]
        exact X2.out

/-- what Done returns -/
def dnB (zs : List Int) (f : Bool) : List Int := if f = true then [] else zs
def dnE (f : Bool) : Int := if f = true then 4 else 0
set_option maxHeartbeats 1000000 in
theorem wDone_any (H : SP w0 w L) (hi : L[i]? = some (.blk W 71 (wcells W lim B n c f))) (hj : L[j]? = some (.own .u8 5 B n c zs)) (hn : n ≤ 131072) :
    Calls Try.prog 35 #[.pointer (some ⟨W, 0, none⟩)] w fun e w' => ∃ A' n' c', e = .returned (.tuple #[.slice A' n' c', .int .i64 (dnE f)]) ∧ SP w0 w' (L ++ [.own .u8 5 A' n' c' (dnB zs f)]) := by
  have HH := Lib.hid H
  have x0 : w.cell? ⟨W, 0, none⟩ = some (.pointer (some ⟨W, 0, none⟩)) := H.cell i hi 0 rfl
  have x1 : w.cell? ⟨W, 1, none⟩ = some (.int .i64 (lim : Int)) := H.cell i hi 1 rfl
  have x2 : w.cell? ⟨W, 2, none⟩ = some (.slice B n c) := H.cell i hi 2 rfl
  have x3 : w.cell? ⟨W, 3, none⟩ = some (.bool f) := H.cell i hi 3 rfl
  have d2 : w.frozen? ⟨W, 2, none⟩ = false := H.free i hi 2
  have d3 : w.frozen? ⟨W, 3, none⟩ = false := H.free i hi 3
  have HRDY := Lib.hid (fun W' h => wready_any W' W h)
  have HC := Lib.hid (clone_any B n c zs w (H.rd j hj) (by omega))
  clear H
  cases f
  case true =>
    go_enter Try.func35, Try.ntmps35
    go_wp2_with (go_at_call 59; refine (HRDY.out _ x0).mono ?_; rintro e w2 ⟨rfl, rfl⟩)
    go_ret2
    exact ⟨none, 0, 0, rfl, HH.out.pushOwn (Below.refl _ _) OWN.nil⟩
  case false =>
    go_enter Try.func35, Try.ntmps35
    go_wp2_with (first | (go_at_call 59; refine (HRDY.out _ x0).mono ?_; rintro e w2 ⟨rfl, rfl⟩) | (go_at_call 57; refine HC.out.mono ?_; rintro e w3 ⟨A3, n3, c3, rfl, ho, hb⟩; have HX := Lib.hid (HH.out.pushOwn hb ho); clear ho hb))
    go_ret2
    exact ⟨A3, n3, c3, rfl, HX.out⟩
end
theorem newWriter_no (lim : Int) (w : World) (h : lim < 0 ∨ 131072 < lim) :
    Calls Try.prog 19 #[.int .i64 lim] w fun e w' => e = .returned (.tuple #[.pointer none, .int .i64 2]) ∧ w' = w := by
  by_cases h0 : lim < 0
  · go_enter Try.func19, Try.ntmps19
    go_wp2_with fail
    go_ret2
    exact ⟨rfl, rfl⟩
  · have h1 : 131072 < lim := by omega
    go_enter Try.func19, Try.ntmps19
    go_wp2_with fail
    go_ret2
    exact ⟨rfl, rfl⟩
theorem newWriter_any {w0 w : World} {L : List IT} (H : SP w0 w L) (lim : Nat) (h : lim ≤ 131072) :
    Calls Try.prog 19 #[.int .i64 (lim : Int)] w fun e w' => ∃ W, e = .returned (.tuple #[.pointer (some ⟨W, 0, none⟩), .int .i64 0]) ∧ SP w0 w' (L ++ [.own .u8 5 none 0 0 []] ++ [.blk W 71 (wcells W lim none 0 0 false)]) := by
  have HH := Lib.hid (H.pushOwn (Below.refl _ _) (OWN.nil (k := .u8) (e := 5)))
  have t1 : ¬ (lim : Int) < 0 := by omega
  have t2 : ¬ (131072 : Int) < (lim : Int) := by omega
  obtain ⟨W, hW⟩ : ∃ W, W = w.heap.size := ⟨_, rfl⟩
  have X2 := Lib.hid (show SP w0 (w.alloc (.cells (wcells W lim none 0 0 false) 71)) (L ++ [.own .u8 5 none 0 0 []] ++ [.blk W 71 (wcells W lim none 0 0 false)]) from HH.out.alloc' 71 _ hW.symm)
  clear H
  go_enter Try.func19, Try.ntmps19
  go_wp2_with fail
  go_ret2
  rw [← hW]
  have hx := X2.out
  rw [List.append_assoc] at hx
  exact ⟨W, rfl, hx⟩
end Go.Proofs.Ytcipgkpcaecjdaa
