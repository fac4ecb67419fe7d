import Derived.Test.YtcipgkpcaecjdaaWireP
import Derived.Test.YtcipgkpcaecjdaaWBase
import Derived.Test.YtcipgkpcaecjdaaProg
import Derived.Shelf.Strings.BuilderK
import Derived.Shelf.Lay
import Derived.Laws.Externs
/- A strings.Builder of the call's own: WriteByte, String. -/
namespace Go.Proofs.Ytcipgkpcaecjdaa
open Go.RowKit
set_option linter.unusedVariables false

def ren169 : Go.Shelf.Ren := ⟨fun | 169 => 46 | n => n, fun | 70 => 78 | 9 => 9 | 0 => 0 | 72 => 80 | 37 => 22 | 127 => 110 | 3 => 3 | 5 => 5 | n => n, fun | n => n⟩
theorem lays169 : Go.Proofs.Lays.n169 Try.prog ren169 := {
  mixed := by kernel_rfl
  f169 := Try.func46.trans (congrArg some (by kernel_rfl))
  t0 := Try.underlying0
  a0 := Try.isAgg0
  z0 := Try.sizeOf0
  v0 := Try.zeroValue0
  t3 := Try.underlying3
  a3 := Try.isAgg3
  z3 := Try.sizeOf3
  v3 := Try.zeroValue3
  t9 := Try.underlying9
  a9 := Try.isAgg9
  z9 := Try.sizeOf9
  v9 := Try.zeroValue9
  t37 := Try.underlying22
  a37 := Try.isAgg22
  z37 := Try.sizeOf22
  v37 := Try.zeroValue22
  t70 := Try.underlying78
  a70 := Try.isAgg78
  z70 := Try.sizeOf78
  v70 := Try.zeroValue78
  t72 := Try.underlying80
  a72 := Try.isAgg80
  z72 := Try.sizeOf80
  v72 := Try.zeroValue80
  t127 := Try.underlying110
  a127 := Try.isAgg110
  z127 := Try.sizeOf110
  v127 := Try.zeroValue110 }
theorem extra169 : Builder.Extra Try.prog ren169 := {
  sizeBuilder := by kernel_rfl
  liesBuilder := by kernel_rfl
  t5 := Try.underlying5
  a5 := Try.isAgg5
  z5 := Try.sizeOf5
  v5 := Try.zeroValue5
  infoByte := by kernel_rfl
  cellsByte := by kernel_rfl
  sizeByte := by kernel_rfl
  neB5 := by decide }
theorem bstring_raw (B b : Nat) (l : List UInt8) (w : World) (h : Lib.IsBuilder 80 5 B b (Lib.byteCells l) w) (hBw : B ≤ w.heap.size) :
    Calls Try.prog 46 #[.pointer (some ⟨b, 0, none⟩)] w fun e w' => e = .returned (.string ⟨l.toArray⟩) ∧ Below B w w' := Any.Builder_String_any lays169 extra169 B b l w h hBw

/-- bytes as numbers -/
def UB (l : List UInt8) : List Int := l.map fun b => (b.toNat : Int)
theorem UB_append (a b : List UInt8) : UB (a ++ b) = UB a ++ UB b := by simp [UB]
theorem UB_len (l : List UInt8) : (UB l).length = l.length := by simp [UB]
theorem UB_bd (l : List UInt8) : BD 255 (UB l) := fun x hx => by
  simp only [UB, List.mem_map] at hx
  obtain ⟨b, _, rfl⟩ := hx
  have := b.toNat_lt
  omega
theorem UB_cells (l : List UInt8) : (UB l).map (Value.int .u8) = Lib.byteCells l := by simp [UB, Lib.byteCells]

theorem bstring_any (w0 w : World) (b : Nat) (p : Value) (hp : p = .pointer none ∨ p = .pointer (some ⟨b, 0, none⟩)) (A : Option Addr) (n c : Nat) (l : List UInt8)
    (X : SP w0 w [.blk b 80 #[p, .slice A n c], .own .u8 5 A n c (UB l)]) :
    Calls Try.prog 46 #[.pointer (some ⟨b, 0, none⟩)] w fun e w' => e = .returned (.string ⟨l.toArray⟩) ∧ Below w0.heap.size w0 w' := by
  have hb := X.blk 0 rfl
  have ho := X.own 1 rfl
  have hn : n = l.length := by rw [← ho.len, UB_len]
  have hne : (Value.slice A n c).ownBlock ≠ some b := fun h => by
    have h1 := X.ne 0 1 rfl rfl (by decide) (g := b) rfl
    apply h1
    cases A with
    | none => simp [Value.ownBlock] at h
    | some a => simpa [Value.ownBlock, IT.at_] using h
  have hat : Lib.BuilderAt 80 5 w0.heap.size b p (Lib.byteCells l) w := by
    refine ⟨X.ge 0 rfl, .slice A n c, hb, ?_, hne⟩
    have h1 : w.ownsRow w0.heap.size 5 1 (.slice A n c) n ((UB l).map (Value.int .u8)) := ho
    rw [UB_cells] at h1
    rw [show (Lib.byteCells l).length = n by simp [Lib.byteCells, hn]]
    exact h1
  have hB : Lib.IsBuilder 80 5 w0.heap.size b (Lib.byteCells l) w := by
    rcases hp with rfl | rfl
    · exact .inl hat
    · exact .inr hat
  refine (bstring_raw w0.heap.size b l w hB X.size).mono ?_
  rintro e w' ⟨rfl, h⟩
  exact ⟨rfl, X.bel.trans h⟩

set_option maxHeartbeats 1000000 in
set_option maxRecDepth 100000 in
theorem bcopy_used (b : Nat) (w : World) (h0 : w.cell? ⟨b, 0, none⟩ = some (.pointer (some ⟨b, 0, none⟩))) :
    Calls Try.prog 72 #[.pointer (some ⟨b, 0, none⟩)] w fun e w' => e = .returned (.tuple #[]) ∧ w' = w := by
  obtain ⟨j, hj, hjs⟩ := Option.map_eq_some_iff.1 (show (Try.prog.info? 80).map (·.size) = some 2 by kernel_rfl)
  have k0 : (binOp .neq 78 (.pointer (some ⟨b, 0, none⟩)) (.pointer (some ⟨b, 0, none⟩))).run Try.prog w = .ok (.bool false) w := Lib.run_neq_ptr_same w _ Try.underlying78 hj
  go_enter Try.func72, Try.ntmps72
  go_wp2_with fail
  go_end0
  exact ⟨rfl, rfl⟩

section
variable {P : Program} {w : World}
theorem conv_there {src dst t e : TypeId} {j : TypeInfo} {cells : Nat} (a : Addr) (hs : P.underlying src = some (.pointer t)) (hd : P.underlying dst = Try.prog.underlying 133) (ht : P.info? t = some j) (hj : j.size ≠ 0)
    (hsh : w.shape? a.block = some (e, cells)) (hoff : a.off < cells) : (convert src dst (.pointer (some a))).run P w = .ok (.pointer (some a)) w := by
  have hoff' : ¬ cells ≤ a.off := by omega
  rw [Try.underlying133] at hd
  simp only [convert, Sem.run_bind, run_underlying hs, run_underlying hd, Result.andThen]
  change Sem.run P (underlying src >>= fun x => underlying dst >>= fun y => (?f : TypeDesc → TypeDesc → Sem Value) x y) w = _
  simp [run_underlying hs, run_underlying hd, Conv.seenAt, viewAt, cellsIn, hsh, sizeOf, typeInfo, ht, hj, hoff']
theorem conv_back {src dst u e : TypeId} {j : TypeInfo} {cells : Nat} (a : Addr) (hs : P.underlying src = Try.prog.underlying 133) (hd : P.underlying dst = some (.pointer u)) (hu : P.info? u = some j)
    (hsh : w.shape? a.block = some (e, cells)) (hlies : liesAt P P.depth e (cells / P.cellsOf e) a.off u 1 = true) : (convert src dst (.pointer (some a))).run P w = .ok (.pointer (some a)) w := by
  rw [Try.underlying133] at hs
  simp only [convert, Sem.run_bind, run_underlying hs, run_underlying hd, Result.andThen]
  change Sem.run P (underlying src >>= fun x => underlying dst >>= fun y => (?f : TypeDesc → TypeDesc → Sem Value) x y) w = _
  simp [run_underlying hs, run_underlying hd, Conv.seenAt, viewAt, hsh, variablesAt, hlies, sizeOf, typeInfo, hu]
end

set_option maxHeartbeats 1000000 in
set_option maxRecDepth 100000 in
theorem bcopy_fresh (b : Nat) (w : World) (h0 : w.cell? ⟨b, 0, none⟩ = some (.pointer none)) (hsh : w.shape? b = some (80, 2)) (hfz : w.frozen? ⟨b, 0, none⟩ = false) :
    Calls Try.prog 72 #[.pointer (some ⟨b, 0, none⟩)] w fun e w' => e = .returned (.tuple #[]) ∧ w' = w.setCell ⟨b, 0, none⟩ (.pointer (some ⟨b, 0, none⟩)) := by
  obtain ⟨j, hj, hjs⟩ := Option.map_eq_some_iff.1 (show (Try.prog.info? 80).map (·.size) = some 2 by kernel_rfl)
  have k1 : (convert 78 133 (.pointer (some ⟨b, 0, none⟩))).run Try.prog w = .ok (.pointer (some ⟨b, 0, none⟩)) w := conv_there ⟨b, 0, none⟩ Try.underlying78 rfl hj (by rw [hjs]; decide) hsh (Nat.zero_lt_succ 1)
  have k3 : (convert 133 78 (.pointer (some ⟨b, 0, none⟩))).run Try.prog w = .ok (.pointer (some ⟨b, 0, none⟩)) w := conv_back ⟨b, 0, none⟩ rfl Try.underlying78 hj hsh (by kernel_rfl)
  have k0 : (binOp .neq 78 (.pointer (some ⟨b, 0, none⟩)) (.pointer (some ⟨b, 0, none⟩))).run Try.prog (w.setCell ⟨b, 0, none⟩ (.pointer (some ⟨b, 0, none⟩))) = .ok (.bool false) (w.setCell ⟨b, 0, none⟩ (.pointer (some ⟨b, 0, none⟩))) := Lib.run_neq_ptr_same _ _ Try.underlying78 hj
  go_enter Try.func72, Try.ntmps72
  go_wp2_with fail
  rw [run_callFunc_extern Try.func81 (by kernel_rfl) (by kernel_rfl) (by kernel_rfl) (e := Extern.AbiNoEscape.same) (by kernel_rfl)]
  rw [Lib.run_noEscape]
  simp only [Result.andThen]
  rw [Oper.upon_value]
  go_wp2_with fail
  go_end0
  exact ⟨rfl, rfl⟩
theorem bcopy_any (b : Nat) (p v : Value) (w : World) (hb : BLOCK w b 80 #[p, v]) (hp : p = .pointer none ∨ p = .pointer (some ⟨b, 0, none⟩)) :
    Calls Try.prog 72 #[.pointer (some ⟨b, 0, none⟩)] w fun e w' => e = .returned (.tuple #[]) ∧ (w' = w.setCell ⟨b, 0, none⟩ (.pointer (some ⟨b, 0, none⟩)) ∨ (p = .pointer (some ⟨b, 0, none⟩) ∧ w' = w)) := by
  rcases hp with rfl | rfl
  · refine (bcopy_fresh b w (hb.cell 0) (by have hb' : w.heap[b]? = some (.cells #[.pointer none, v] 80 (0, 0)) := hb; simp [World.shape?, hb']) (hb.free 0)).mono ?_
    rintro e w' ⟨rfl, rfl⟩
    exact ⟨rfl, .inl rfl⟩
  · refine (bcopy_used b w (hb.cell 0)).mono ?_
    rintro e w' ⟨rfl, rfl⟩
    exact ⟨rfl, .inr ⟨rfl, rfl⟩⟩

set_option maxHeartbeats 1000000 in
set_option maxRecDepth 100000 in
theorem wbyte_any (w0 w : World) (b : Nat) (p : Value) (hp : p = .pointer none ∨ p = .pointer (some ⟨b, 0, none⟩)) (A : Option Addr) (n c : Nat) (zs : List Int) (x : Int) (hn : n + 1 ≤ 140737488355328)
    (X : SP w0 w [.blk b 80 #[p, .slice A n c], .own .u8 5 A n c zs]) :
    Calls Try.prog 45 #[.pointer (some ⟨b, 0, none⟩), .int .u8 x] w fun e w' => e = .returned .nilIface ∧ ∃ A' c', SP w0 w' [.blk b 80 #[.pointer (some ⟨b, 0, none⟩), .slice A' (n + 1) c'], .own .u8 5 A' (n + 1) c' (zs ++ [x])] := by
  obtain ⟨i0, hi, hz0, hz1, hz2⟩ := info_parts infoU8
  have HX := Lib.hid X
  have hle := (X.own 1 rfl).le
  have HB := Lib.hid (X.blk 0 rfl)
  clear X
  go_enter Try.func45, Try.ntmps45
  go_wp2_with fail
  refine (bcopy_any b p (.slice A n c) _ HB.out hp).mono ?_
  rintro e w1 ⟨rfl, h1⟩
  have X1 := Lib.hid (show SP w0 w1 [.blk b 80 #[.pointer (some ⟨b, 0, none⟩), .slice A n c], .own .u8 5 A n c zs] by
    rcases h1 with rfl | ⟨rfl, rfl⟩
    · exact HX.out.setB 0 rfl 0 _
    · exact HX.out)
  clear h1 HX HB
  have c1 : w1.cell? ⟨b, 1, none⟩ = some (.slice A n c) := X1.out.cell 0 rfl 1 rfl
  have X2 := Lib.hid (X1.out.allocI' .u8 5 [x] (by simp [maxLen]) (N := w1.heap.size) rfl)
  go_wp2_with (at_builtin; refine wpList_append_rd _ rfl _ _ _ rfl .u8 w0.heap.size 5 i0 1 Try.underlying22 hi hz0 hz1 hz2 A n c zs rfl (X2.out.own 1 rfl) _ (some ⟨w1.heap.size, 0, none⟩) 1 1 [x] rfl (X2.out.rd 2 rfl) (by simp only [maxLen]; omega) (by omega) X2.out.size ?_; intro A9 c9 w9 happ; have X9 := Lib.hid (X2.out.app 1 rfl happ); have d1 : w9.cell? ⟨b, 1, none⟩ = some (.slice A n c) := X9.out.cell 0 rfl 1 rfl; have d2 : w9.frozen? ⟨b, 1, none⟩ = false := X9.out.free 0 rfl 1; clear happ X2)
  go_ret
  exact ⟨rfl, A9, c9, (X9.out.setB 0 rfl 1 (.slice A9 (n + 1) c9)).pick [0, 1] (by decide) rfl⟩
end Go.Proofs.Ytcipgkpcaecjdaa
