import Derived.Test.YthdpcblmmjocmaaWTc1
/- package tcp: what each known kind of option does. -/
namespace Go.Proofs.Ythdpcblmmjocmaa
open Go.RowKit
set_option linter.unusedVariables false

/-- the cells of what is known -/
def KNC (k : KN) (A : Option Addr) (n c : Nat) : Array Value := #[.int .i64 k.mss, .int .i64 k.sc, .bool k.sel, .bool k.st, .int .u32 k.ts, .int .u32 k.ec, .slice A n c]
/-- pairs, as cells -/
def prs : List (Int × Int) → List Value
  | [] => []
  | p :: l => .int .u32 p.1 :: .int .u32 p.2 :: prs l
theorem prs_len : ∀ l, (prs l).length = l.length * 2
  | [] => rfl
  | p :: l => by simp [prs, prs_len l]; omega
theorem prs_append : ∀ l m, prs (l ++ m) = prs l ++ prs m
  | [], m => rfl
  | p :: l, m => by simp [prs, prs_append l m]
/-- what is known is within its bounds -/
structure KWF (k : KN) : Prop where
  m0 : 0 ≤ k.mss
  m1 : k.mss ≤ 65535
  s0 : -1 ≤ k.sc
  s1 : k.sc ≤ 255

theorem SP.same {w0 w : World} {L : List IT} (H : SP w0 w L) (i : Nat) {it : IT} (hi : L[i]? = some it) : SP w0 w (L.set i it) := H.upd hi (Below.refl _ _) (H.all i _ hi) (.inl rfl) fun b _ _ => rfl

/-- what a known kind's function leaves -/
def TOOK (kind : Int) (zs : List Int) (k : KN) (w0 : World) (L : List IT) (i K : Nat) (A : Option Addr) (n c : Nat) (e : Ending) (w' : World) : Prop :=
  ∃ b k', e = .returned (.bool b) ∧ SP w0 w' (L.set i (.blk K 32 (KNC k' A n c))) ∧ (b = true → take1 kind zs k = some k') ∧ (b = false → take1 kind zs k = none)
theorem TOOK.no {kind : Int} {zs : List Int} {k : KN} {w0 w' : World} {L : List IT} {i K : Nat} {A : Option Addr} {n c : Nat} (k' : KN) (h : take1 kind zs k = none) (H : SP w0 w' (L.set i (.blk K 32 (KNC k' A n c)))) :
    TOOK kind zs k w0 L i K A n c (.returned (.bool false)) w' := ⟨false, k', rfl, H, (fun h => by cases h), fun _ => h⟩
theorem TOOK.yes {kind : Int} {zs : List Int} {k : KN} {w0 w' : World} {L : List IT} {i K : Nat} {A : Option Addr} {n c : Nat} (k' : KN) (h : take1 kind zs k = some k') (H : SP w0 w' (L.set i (.blk K 32 (KNC k' A n c)))) :
    TOOK kind zs k w0 L i K A n c (.returned (.bool true)) w' := ⟨true, k', rfl, H, fun _ => h, (fun h => by cases h)⟩

theorem set_get {L : List IT} {i : Nat} {x y : IT} (h : L[i]? = some x) : (L.set i y)[i]? = some y := by
  obtain ⟨hl, _⟩ := List.getElem?_eq_some_iff.1 h
  rw [List.getElem?_set_self hl]

section
variable {w0 w : World} {L : List IT} {i K : Nat} {k : KN} {Ab : Option Addr} {nb cb : Nat}
set_option maxHeartbeats 1000000 in
set_option maxRecDepth 100000 in
theorem p1_any (H : SP w0 w L) (hi : L[i]? = some (.blk K 32 (KNC k Ab nb cb))) (A : Option Addr) (n c : Nat) (zs : List Int) (R : RD .u8 w w.heap.size A n zs) (hz : BD 255 zs) :
    Calls Try.prog 53 #[.slice A n c, .pointer (some ⟨K, 0, none⟩)] w (TOOK 2 zs k w0 L i K Ab nb cb) := by
  have hl := R.len
  have y0 : w.cell? ⟨K, 0, none⟩ = some (.int .i64 k.mss) := H.cell i hi 0 rfl
  have d0 := H.free i hi 0
  have HH := Lib.hid H
  have HI := Lib.hid hi
  clear H hi
  by_cases h2 : n = 2
  · subst h2
    by_cases hm : 0 < k.mss
    · have HT := Lib.hid (show take1 2 zs k = none by unfold take1; rw [if_pos rfl, if_neg (by omega)])
      clear hl
      go_enter Try.func53, Try.ntmps53
      go_wp2_with fail
      go_ret
      exact .no k HT.out (HH.out.same i HI.out)
    · obtain ⟨u0, u1⟩ := wordAt_bd hz 0
      have HT := Lib.hid (show take1 2 zs k = if 0 < wordAt zs 0 then some { k with mss := wordAt zs 0 } else none by
        unfold take1; rw [if_pos rfl]
        by_cases h : 0 < wordAt zs 0
        · rw [if_pos h, if_pos ⟨by omega, hm, h⟩]
        · rw [if_neg h, if_neg (fun x => h x.2.2)])
      have HW := Lib.hid (tcword_any A 2 c zs w R hz (by omega))
      have HS := Lib.hid (fun m => ((HH.out.drewN m).setB i HI.out 0 (.int .i64 (wordAt zs 0))))
      clear hl hz R
      generalize wordAt zs 0 = u at *
      have e1 : IntKind.i64.wrap u = u := IntWalk.i64_in _ (by omega)
      go_enter Try.func53, Try.ntmps53
      go_wp2_with (go_at_call 49; refine HW.out.mono ?_; rintro e w1 ⟨rfl, m, rfl⟩)
      go_ret
      by_cases h : 0 < u
      · have ht := HT.out
        rw [if_pos h] at ht
        rw [show decide (0 < u) = true by simp [h]]
        exact .yes _ ht (HS.out m)
      · have ht := HT.out
        rw [if_neg h] at ht
        rw [show decide (0 < u) = false by simp [h]]
        exact .no { k with mss := u } ht (HS.out m)
  · have HT := Lib.hid (show take1 2 zs k = none by unfold take1; rw [if_pos rfl, if_neg (by omega)])
    have o1 : ¬ (n : Int) = 2 := by omega
    clear hl
    go_enter Try.func53, Try.ntmps53
    go_wp2_with fail
    go_ret
    exact .no k HT.out (HH.out.same i HI.out)

set_option maxHeartbeats 1000000 in
set_option maxRecDepth 100000 in
theorem p2_any (H : SP w0 w L) (hi : L[i]? = some (.blk K 32 (KNC k Ab nb cb))) (A : Option Addr) (n c : Nat) (zs : List Int) (R : RD .u8 w w.heap.size A n zs) (hz : BD 255 zs) :
    Calls Try.prog 54 #[.slice A n c, .pointer (some ⟨K, 0, none⟩)] w (TOOK 3 zs k w0 L i K Ab nb cb) := by
  have hl := R.len
  have y0 : w.cell? ⟨K, 1, none⟩ = some (.int .i64 k.sc) := H.cell i hi 1 rfl
  have d0 := H.free i hi 1
  have HH := Lib.hid H
  have HI := Lib.hid hi
  clear H hi
  by_cases h2 : n = 1
  · subst h2
    by_cases hm : 0 ≤ k.sc
    · have HT := Lib.hid (show take1 3 zs k = none by unfold take1; rw [if_neg (by decide), if_pos rfl, if_neg (by omega)])
      clear hl
      go_enter Try.func54, Try.ntmps54
      go_wp2_with fail
      go_ret
      exact .no k HT.out (HH.out.same i HI.out)
    · obtain ⟨u0, u1⟩ := hz.get (by omega) 0
      obtain ⟨b, off, rfl, hb, hc⟩ := R.2 (by omega)
      have x0 : w.cell? ⟨b, off, none⟩ = some (.int .u8 (zs[0]?.getD 0)) := hc 0 (by omega)
      have HT := Lib.hid (show take1 3 zs k = if zs[0]?.getD 0 < 15 then some { k with sc := zs[0]?.getD 0 } else none by
        unfold take1; rw [if_neg (by decide), if_pos rfl]
        by_cases h : zs[0]?.getD 0 < 15
        · rw [if_pos h, if_pos ⟨by omega, hm, h⟩]
        · rw [if_neg h, if_neg (fun x => h x.2.2)])
      have HS := Lib.hid (HH.out.setB i HI.out 1 (.int .i64 (zs[0]?.getD 0)))
      clear hl hz R hc
      generalize zs[0]?.getD 0 = u at *
      have e1 : IntKind.i64.wrap u = u := IntWalk.i64_in _ (by omega)
      go_enter Try.func54, Try.ntmps54
      go_wp2_with fail
      go_ret
      by_cases h : u < 15
      · have ht := HT.out
        rw [if_pos h] at ht
        rw [show decide (u < 15) = true by simp [h]]
        exact .yes _ ht HS.out
      · have ht := HT.out
        rw [if_neg h] at ht
        rw [show decide (u < 15) = false by simp [h]]
        exact .no { k with sc := u } ht HS.out
  · have HT := Lib.hid (show take1 3 zs k = none by unfold take1; rw [if_neg (by decide), if_pos rfl, if_neg (by omega)])
    have o1 : ¬ (n : Int) = 1 := by omega
    clear hl
    go_enter Try.func54, Try.ntmps54
    go_wp2_with fail
    go_ret
    exact .no k HT.out (HH.out.same i HI.out)

set_option maxHeartbeats 1000000 in
set_option maxRecDepth 100000 in
theorem p3_any (H : SP w0 w L) (hi : L[i]? = some (.blk K 32 (KNC k Ab nb cb))) (A : Option Addr) (n c : Nat) (zs : List Int) (hl : zs.length = n) :
    Calls Try.prog 55 #[.slice A n c, .pointer (some ⟨K, 0, none⟩)] w (TOOK 4 zs k w0 L i K Ab nb cb) := by
  have y0 : w.cell? ⟨K, 2, none⟩ = some (.bool k.sel) := H.cell i hi 2 rfl
  have d0 := H.free i hi 2
  have HS := Lib.hid (H.setB i hi 2 (.bool true))
  have HT := Lib.hid (show take1 4 zs k = if n = 0 ∧ k.sel = false then some { k with sel := true } else none by
    unfold take1; rw [if_neg (by decide), if_neg (by decide), if_pos rfl, hl])
  clear H hi hl
  generalize hb : k.sel = b at *
  clear hb
  by_cases h0 : n = 0
  · subst h0
    cases b
    · go_enter Try.func55, Try.ntmps55
      go_wp2_with fail
      go_ret
      exact .yes _ HT.out HS.out
    · go_enter Try.func55, Try.ntmps55
      go_wp2_with fail
      go_ret
      exact .no { k with sel := true } HT.out HS.out
  · have o1 : ¬ (n : Int) = 0 := by omega
    have ht := Lib.hid (HT.out.trans (if_neg (fun x => h0 x.1)))
    go_enter Try.func55, Try.ntmps55
    go_wp2_with fail
    go_ret
    exact .no { k with sel := true } ht.out HS.out

set_option maxHeartbeats 1000000 in
set_option maxRecDepth 100000 in
theorem p4_any (H : SP w0 w L) (hi : L[i]? = some (.blk K 32 (KNC k Ab nb cb))) (A : Option Addr) (n c : Nat) (zs : List Int) (R : RD .u8 w w.heap.size A n zs) (hz : BD 255 zs) (hnc : n ≤ c) :
    Calls Try.prog 56 #[.slice A n c, .pointer (some ⟨K, 0, none⟩)] w (TOOK 8 zs k w0 L i K Ab nb cb) := by
  obtain ⟨i0, hi0, hz0, hz1, hz2⟩ := info_parts infoU8
  have hl := R.len
  have y3 : w.cell? ⟨K, 3, none⟩ = some (.bool k.st) := H.cell i hi 3 rfl
  have d3 := H.free i hi 3
  have y4 : w.cell? ⟨K, 4, none⟩ = some (.int .u32 k.ts) := H.cell i hi 4 rfl
  have d4 := H.free i hi 4
  have y5 : w.cell? ⟨K, 5, none⟩ = some (.int .u32 k.ec) := H.cell i hi 5 rfl
  have d5 := H.free i hi 5
  have HH := Lib.hid H
  have HI := Lib.hid hi
  clear H hi
  by_cases h2 : n = 8
  · subst h2
    obtain ⟨b, hb⟩ : ∃ b, b = k.st := ⟨_, rfl⟩
    rw [← hb] at y3
    cases b
    · have HT := Lib.hid (show take1 8 zs k = some { k with st := true, ts := lng zs 0, ec := lng zs 4 } by
        unfold take1; rw [if_neg (by decide), if_neg (by decide), if_neg (by decide), if_neg (by decide), if_pos rfl, if_pos ⟨hl, hb.symm⟩])
      have HL1 := Lib.hid (fun (W : World) (hB : Below w.heap.size w W) => tclong_any A 8 c zs W (R.later hB) hz (by omega) hnc)
      have HL2 := Lib.hid (fun (W : World) (hB : Below w.heap.size w W) => tclong_any (cutA A c 4) 4 (c - 4) (zs.drop 4) W ((R.later hB).cutA (lo := 4) (by omega) hnc) (hz.drop 4) (by omega) (by omega))
      have s4 := fun W => run_slice_lo (P := Try.prog) W Try.underlying22 hi0 hz1 A 8 c 4 4 rfl (by omega)
      have HS := Lib.hid (fun q => (((HH.out.drewN q).setB i HI.out 3 (.bool true)).setB i (set_get HI.out) 4 (.int .u32 (lng zs 0))).setB i (set_get (set_get HI.out)) 5 (.int .u32 (lng (zs.drop 4) 0)))
      have hl4 : lng (zs.drop 4) 0 = lng zs 4 := lng_drop zs 4 0
      have HL4 := Lib.hid hl4
      clear hl hb hl4 hz R
      generalize lng (zs.drop 4) 0 = v at *
      generalize lng zs 0 = u at *
      generalize cutA A c 4 = A2 at *
      generalize c - 4 = c2 at *
      go_enter Try.func56, Try.ntmps56
      go_wp2_with fail
      go_region_held3 (fun _ => True) (trivial) (first
        | (go_at_call_of 50 (Value.slice A 8 c); refine (HL1.out _ ((Below.refl _ w).drew)).mono ?_
           rintro e w1 ⟨rfl, m1, rfl⟩)
        | (go_at_call 50; refine (HL2.out _ (below_drewN (Below.refl _ w) _)).mono ?_
           rintro e w2 ⟨rfl, m2, rfl⟩))
      go_wp2_with fail
      go_ret
      have hs := HS.out (1 + m1 + m2)
      rw [List.set_set, List.set_set] at hs
      exact .yes _ HT.out (by rw [← HL4.out]; exact hs)
    · have HT := Lib.hid (show take1 8 zs k = none by unfold take1; rw [if_neg (by decide), if_neg (by decide), if_neg (by decide), if_neg (by decide), if_pos rfl, if_neg (fun x => by rw [← hb] at x; cases x.2)])
      clear hl hb
      go_enter Try.func56, Try.ntmps56
      go_wp2_with fail
      go_ret
      exact .no k HT.out (HH.out.same i HI.out)
  · have HT := Lib.hid (show take1 8 zs k = none by unfold take1; rw [if_neg (by decide), if_neg (by decide), if_neg (by decide), if_neg (by decide), if_pos rfl, if_neg (by omega)])
    have o1 : ¬ (n : Int) = 8 := by omega
    clear hl
    go_enter Try.func56, Try.ntmps56
    go_wp2_with fail
    go_ret
    exact .no k HT.out (HH.out.same i HI.out)
end
end Go.Proofs.Ythdpcblmmjocmaa
