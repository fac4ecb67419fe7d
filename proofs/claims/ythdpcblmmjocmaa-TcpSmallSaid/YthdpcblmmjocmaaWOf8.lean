import Derived.Test.YthdpcblmmjocmaaWTcF
import Derived.Test.YthdpcblmmjocmaaWTcP5
/- bafflelaw08.Of: what is known of options, out of small numbers. -/
namespace Go.Proofs.Ythdpcblmmjocmaa
open Go.RowKit
set_option linter.unusedVariables false

theorem wpList_append_row {P : Program} (w : World) {ops : Array Oper} {rest : List Oper} {o : Oper} {a : Act} {Q : Exit → Act → World → Prop} (hgd : o.guard = none) (s x : Operand) (t : TypeId)
    (ho : o.op = .call { callee := .builtin .append, args := #[s, x], argTypes := #[t, t] })
    (base : Nat) (e : TypeId) (i : TypeInfo) (z : Value) (size bytes : Nat) (ht : P.underlying t = some (.slice e)) (hi : P.info? e = some i) (hz : i.zero = some z)
    (hsize : i.size = size) (hby : i.bytes = bytes) (hzs : z.cells.size = size) (hsz : 0 < size)
    (A : Option Addr) (n c : Nat) (xs : List Value) (hs : a.eval s = .slice A n c) (hown : w.ownsRow base e size (.slice A n c) n xs)
    (ad : Addr) (m c2 : Nat) (news : List Value) (hx : a.eval x = .slice (some ad) m c2) (hl : news.length = m * size) (hnews : ∀ j u, news[j]? = some u → w.cell? (ad.add j) = some u) (h1 : ∀ u ∈ news, u.oneCell' = true)
    (h63 : n + m ≤ maxLen) (hbytes : (n + m) * bytes ≤ 140737488355328) (hbase : base ≤ w.heap.size)
    (h : ∀ A' c' w', w'.ownsRow base e size (.slice A' (n + m) c') (n + m) (xs ++ news) → w.grownBy w' (A.map (·.block)) → (A'.map (·.block) = A.map (·.block) ∨ A'.map (·.block) = some w.heap.size) → wpList P ops Q rest (a.put o.dst (.slice A' (n + m) c')) w') :
    wpList P ops Q (o :: rest) a w := by
  have blk : ∀ (A : Option Addr) (n c : Nat), Value.ownBlock (.slice A n c) = A.map (·.block) := fun A n c => by cases A <;> rfl
  refine wpList_plain hgd fun K hK => ?_
  obtain ⟨v', w', hr, h2, h3, h4, h5⟩ := run_append_own_at (P := P) w base t o.type e i z size bytes ht hi hz hsize hby hzs hsz (.slice A n c) n xs hown ad m c2 news hl hnews h1 h63 hbytes hbase
  obtain ⟨A', c', rfl⟩ : ∃ A' c', v' = .slice A' (n + m) c' := by
    rcases h2.2 with ⟨rfl, e0⟩ | ⟨g, cap, cur, rfl, _⟩
    · exact ⟨none, 0, by rw [e0]⟩
    · exact ⟨_, _, rfl⟩
  rw [blk] at h3
  rw [blk, blk] at h5
  unfold Oper.wp execOp
  simp only [ho, resolve, invoke, builtin, Sem.run_bind, Sem.run_pure, Result.andThen_ok, List.map_toArray, List.map_cons, List.map_nil, hs, hx, hr]
  exact hK _ _ (h A' c' w' h2 h3 h5)

/-- a bit -/
def hb (x y : Int) : Bool := bits .and .u8 x y != 0
def cost (b : Bool) (n : Nat) : Nat := if b = true then n else 0
/-- the room that is left behind the first k of four -/
def roomK (x : Int) (k : Nat) : Nat := 40 - cost (decide (0 < k) && hb x 1) 4 - cost (decide (1 < k) && hb x 2) 4 - cost (decide (2 < k) && hb x 4) 4 - cost (decide (3 < k) && hb x 8) 12
def manyK (x y : Int) : Nat := min (y.toNat % 5) ((roomK x 4 - 4) / 8)
def blkK (a b : Int) : Nat → List (Int × Int)
  | 0 => []
  | m + 1 => blkK a b m ++ [((a + m) % 4294967296, bits .xor .u32 b m)]
theorem blkK_len (a b : Int) : ∀ m, (blkK a b m).length = m
  | 0 => rfl
  | m + 1 => by simp [blkK, blkK_len a b m]
theorem prs_snoc (p : Int × Int) : ∀ l, prs (l ++ [p]) = prs l ++ [.int .u32 p.1, .int .u32 p.2]
  | [] => rfl
  | q :: l => by simp [prs, prs_snoc p l]
def ofK (x0 x1 x2 x3 x4 x5 : Int) : KN :=
  ⟨if hb x0 1 = true then (if x1 < 1 then 1 else x1) else 0, if hb x0 2 = true then x2 % 15 else -1, hb x0 4, hb x0 8, if hb x0 8 = true then x3 else 0, if hb x0 8 = true then x4 else 0, blkK x3 x4 (manyK x0 x5)⟩
theorem cost_le (b : Bool) (n : Nat) : cost b n ≤ n := by unfold cost; split <;> omega
theorem roomK_le (x : Int) (k : Nat) : 16 ≤ roomK x k ∧ roomK x k ≤ 40 := by
  have h1 := cost_le (decide (0 < k) && hb x 1) 4
  have h2 := cost_le (decide (1 < k) && hb x 2) 4
  have h3 := cost_le (decide (2 < k) && hb x 4) 4
  have h4 := cost_le (decide (3 < k) && hb x 8) 12
  unfold roomK
  omega
theorem shr_bits : ∀ a : Nat, a < 256 → (bits .and .u8 (a : Int) 1 == 1) = hb a 1 ∧ (bits .and .u8 ((a : Int) / 2) 1 == 1) = hb a 2 ∧ (bits .and .u8 ((a : Int) / 4) 1 == 1) = hb a 4 ∧ (bits .and .u8 ((a : Int) / 8) 1 == 1) = hb a 8 := by decide +kernel
/-- what Of gives -/
def OFP (x0 x1 x2 x3 x4 x5 : Int) (w : World) (e : Ending) (w' : World) : Prop :=
  ∃ A n c, n = (ofK x0 x1 x2 x3 x4 x5).bl.length ∧ e = .returned (.agg (KNC (ofK x0 x1 x2 x3 x4 x5) A n c)) ∧ SP w w' [.row 93 2 A n c (prs (ofK x0 x1 x2 x3 x4 x5).bl)]

set_option maxHeartbeats 4000000 in
set_option maxRecDepth 100000 in
theorem of8_any (x0 x1 x2 x3 x4 x5 x6 x7 : Int) (w : World) (h0 : 0 ≤ x0 ∧ x0 ≤ 255) (h1 : 0 ≤ x1 ∧ x1 ≤ 65535) (h2 : 0 ≤ x2 ∧ x2 ≤ 255) (h3 : 0 ≤ x3 ∧ x3 ≤ 4294967295) (h4 : 0 ≤ x4 ∧ x4 ≤ 4294967295) (h5 : 0 ≤ x5 ∧ x5 ≤ 255) :
    Calls Try.prog 24 #[.agg #[.int .u8 x0, .int .u16 x1, .int .u8 x2, .int .u32 x3, .int .u32 x4, .int .u8 x5, .int .u8 x6, .int .u8 x7]] w (OFP x0 x1 x2 x3 x4 x5 w) := by
  obtain ⟨i2, hi2, hy0, hy1, hy2⟩ := info_parts infoPair
  obtain ⟨s1, s2, s4, s8⟩ : (bits .and .u8 x0 1 == 1) = hb x0 1 ∧ (bits .and .u8 (x0 / 2) 1 == 1) = hb x0 2 ∧ (bits .and .u8 (x0 / 4) 1 == 1) = hb x0 4 ∧ (bits .and .u8 (x0 / 8) 1 == 1) = hb x0 8 := by
    have := shr_bits x0.toNat (by omega)
    rwa [show (x0.toNat : Int) = x0 by omega] at this
  obtain ⟨b1, hb1⟩ : ∃ b, hb x0 1 = b := ⟨_, rfl⟩
  obtain ⟨b2, hb2⟩ : ∃ b, hb x0 2 = b := ⟨_, rfl⟩
  obtain ⟨b4, hb4⟩ : ∃ b, hb x0 4 = b := ⟨_, rfl⟩
  obtain ⟨b8, hb8⟩ : ∃ b, hb x0 8 = b := ⟨_, rfl⟩
  have HM := Lib.hid (show (ofK x0 x1 x2 x3 x4 x5) = ⟨if b1 = true then (if x1 < 1 then 1 else x1) else 0, if b2 = true then x2 % 15 else -1, b4, b8, if b8 = true then x3 else 0, if b8 = true then x4 else 0, blkK x3 x4 (manyK x0 x5)⟩ by rw [← hb1, ← hb2, ← hb4, ← hb8]; rfl)
  have HR := Lib.hid (show (∀ k, 16 ≤ roomK x0 k ∧ roomK x0 k ≤ 40) ∧ roomK x0 0 = 40 ∧ roomK x0 1 = 40 - cost b1 4 ∧ roomK x0 2 = 40 - cost b1 4 - cost b2 4 ∧ roomK x0 3 = 40 - cost b1 4 - cost b2 4 - cost b4 4 ∧ roomK x0 4 = 40 - cost b1 4 - cost b2 4 - cost b4 4 - cost b8 12 by
    refine ⟨roomK_le x0, ?_, ?_, ?_, ?_, ?_⟩ <;> simp [roomK, hb1, hb2, hb4, hb8, cost])
  have HY := Lib.hid (show manyK x0 x5 = min (x5.toNat % 5) ((roomK x0 4 - 4) / 8) from rfl)
  rw [hb1] at s1; rw [hb2] at s2; rw [hb4] at s4; rw [hb8] at s8
  unfold hb at hb1 hb2 hb4 hb8
  have S0 := Lib.hid ((((SP.start w).alloc' 54 #[.int .u8 x0, .int .u16 x1, .int .u8 x2, .int .u32 x3, .int .u32 x4, .int .u8 x5, .int .u8 x6, .int .u8 x7] rfl).alloc' 32 (KNC knZ none 0 0) (N := w.heap.size + 1) (by simp)).alloc' 32 (KNC ⟨0, -1, b4, b8, 0, 0, []⟩ none 0 0) (N := w.heap.size + 1 + 1) (by simp))
  go_enter Try.func24, Try.ntmps24
  go_upto_if 20 with fail
  change Code.wp _ _ _ _ (((w.alloc (.cells #[.int .u8 x0, .int .u16 x1, .int .u8 x2, .int .u32 x3, .int .u32 x4, .int .u8 x5, .int .u8 x6, .int .u8 x7] 54)).alloc (.cells (KNC knZ none 0 0) 32)).alloc (.cells (KNC ⟨0, -1, b4, b8, 0, 0, []⟩ none 0 0) 32))
  generalize ((w.alloc (.cells #[.int .u8 x0, .int .u16 x1, .int .u8 x2, .int .u32 x3, .int .u32 x4, .int .u8 x5, .int .u8 x6, .int .u8 x7] 54)).alloc (.cells (KNC knZ none 0 0) 32)).alloc (.cells (KNC ⟨0, -1, b4, b8, 0, 0, []⟩ none 0 0) 32) = w1 at S0 ⊢
  obtain ⟨N, hN⟩ : ∃ N, N = w.heap.size := ⟨_, rfl⟩
  rw [← hN] at S0 ⊢
  generalize Value.agg #[.int .u8 x0, .int .u16 x1, .int .u8 x2, .int .u32 x3, .int .u32 x4, .int .u8 x5, .int .u8 x6, .int .u8 x7] = a0
  have X := Lib.hid (show SP w w1 [.blk N 54 #[.int .u8 x0, .int .u16 x1, .int .u8 x2, .int .u32 x3, .int .u32 x4, .int .u8 x5, .int .u8 x6, .int .u8 x7], .blk (N + 1) 32 (KNC knZ none 0 0), .blk (N + 1 + 1) 32 (KNC ⟨0, -1, b4, b8, 0, 0, []⟩ none 0 0)] from S0.out)
  have HN := Lib.hid hN
  clear S0 hN
  obtain ⟨m, hm⟩ : ∃ m, (if b1 = true then (if x1 < 1 then (1 : Int) else x1) else 0) = m := ⟨_, rfl⟩
  obtain ⟨sc, hsc⟩ : ∃ sc, (if b2 = true then x2 % 15 else -1) = sc := ⟨_, rfl⟩
  rw [hm, hsc] at HM
  have Hm := Lib.hid hm
  have Hs := Lib.hid hsc
  clear hm hsc
  have y1 : w1.cell? ⟨N, 1, none⟩ = some (.int .u16 x1) := X.out.cell 0 rfl 1 rfl
  have z0 : w1.cell? ⟨N + 1 + 1, 0, none⟩ = some (.int .i64 0) := X.out.cell 2 rfl 0 rfl
  have f0 := X.out.free 2 rfl 0
  go_cut [] (fun wx => SP w wx [.blk N 54 #[.int .u8 x0, .int .u16 x1, .int .u8 x2, .int .u32 x3, .int .u32 x4, .int .u8 x5, .int .u8 x6, .int .u8 x7], .blk (N + 1) 32 (KNC knZ none 0 0), .blk (N + 1 + 1) 32 (KNC ⟨m, -1, b4, b8, 0, 0, []⟩ none 0 0)])
  case first =>
    cases b1
    · go_wp2_with fail
      go_meet
      rw [← Hm.out]
      exact X.out
    · by_cases hx : x1 < 1
      · go_wp2_with fail
        go_meet
        have Y := X.out.setB 2 rfl 0 (.int .i64 1)
        rw [← Hm.out, if_pos trivial, if_pos hx]
        exact Y
      · go_wp2_with fail
        go_meet
        have Y := X.out.setB 2 rfl 0 (.int .i64 x1)
        rw [← Hm.out, if_pos trivial, if_neg (by omega)]
        exact Y
  case rest =>
  clear y1 z0 f0 X
  have X := Lib.hid hcut
  clear hcut
  have y0 : wc.cell? ⟨N, 0, none⟩ = some (.int .u8 x0) := X.out.cell 0 rfl 0 rfl
  have y1 : wc.cell? ⟨N, 2, none⟩ = some (.int .u8 x2) := X.out.cell 0 rfl 2 rfl
  have z0 : wc.cell? ⟨N + 1 + 1, 1, none⟩ = some (.int .i64 (-1)) := X.out.cell 2 rfl 1 rfl
  have f0 := X.out.free 2 rfl 1
  go_upto_if 29 with fail
  go_cut [] (fun wx => SP w wx [.blk N 54 #[.int .u8 x0, .int .u16 x1, .int .u8 x2, .int .u32 x3, .int .u32 x4, .int .u8 x5, .int .u8 x6, .int .u8 x7], .blk (N + 1) 32 (KNC knZ none 0 0), .blk (N + 1 + 1) 32 (KNC ⟨m, sc, b4, b8, 0, 0, []⟩ none 0 0)])
  case first =>
    cases b2
    · go_wp2_with fail
      go_meet
      rw [← Hs.out]
      exact X.out
    · go_wp2_with fail
      go_meet
      have Y := X.out.setB 2 rfl 1 (.int .i64 (x2 % 15))
      rw [← Hs.out, if_pos trivial]
      exact Y
  case rest =>
  clear y0 y1 z0 f0 X
  have X := Lib.hid hcut
  clear hcut
  go_wp2_with fail
  have X2 := Lib.hid (X.out.alloc 3 #[.int .i64 4, .int .i64 4, .int .i64 4, .int .i64 12])
  generalize wc.alloc (.cells #[.int .i64 4, .int .i64 4, .int .i64 4, .int .i64 12] 3) = w2 at X2 ⊢
  obtain ⟨G, hG⟩ : ∃ G, G = wc.heap.size := ⟨_, rfl⟩
  rw [← hG] at X2 ⊢
  clear hG X
  obtain ⟨i5, hi5⟩ : ∃ i5 : Nat, x5 % 5 = (i5 : Int) := ⟨(x5 % 5).toNat, by omega⟩
  have hi5' : i5 = x5.toNat % 5 ∧ i5 ≤ 4 := by omega
  obtain ⟨R4, hR4⟩ : ∃ R4, R4 = roomK x0 4 := ⟨_, rfl⟩
  have hR4' := HR.out.1 4
  rw [← hR4] at hR4'
  obtain ⟨mn, hmn⟩ : ∃ mn : Nat, (if (i5 : Int) < ((R4 : Int) - 4) / 8 then (i5 : Int) else ((R4 : Int) - 4) / 8) = (mn : Int) ∧ mn = manyK x0 x5 ∧ mn ≤ 4 := by
    refine ⟨manyK x0 x5, ?_, rfl, ?_⟩
    · have := HY.out
      rw [← hR4, ← hi5'.1] at this
      split <;> omega
    · have := HY.out
      rw [← hi5'.1] at this
      omega
  have HR4 := Lib.hid hR4
  have HMN := Lib.hid hmn.2
  obtain ⟨hmn, _, hmn4⟩ := hmn
  clear hR4 hi5'
  go_loop [37, 4] (fun i r => ∃ k : Nat, k ≤ 4 ∧ i = .int .i64 k ∧ r = .int .i64 (roomK x0 k : Int)) (fun i _ => 4 - (intOf i).toNat)
  case atStart => exact ⟨0, by omega, rfl, by rw [HR.out.2.1]; rfl⟩
  case round =>
    obtain ⟨k, hk, rfl, rfl⟩ := hrel
    have y0 : w2.cell? ⟨N, 0, none⟩ = some (.int .u8 x0) := X2.out.cell 0 rfl 0 rfl
    rcases (show k = 0 ∨ k = 1 ∨ k = 2 ∨ k = 3 ∨ k = 4 by omega) with rfl | rfl | rfl | rfl | rfl
    · have g0 : w2.cell? ⟨G, 0, none⟩ = some (.int .i64 4) := X2.out.cell 3 rfl 0 rfl
      have HK := Lib.hid (show roomK x0 1 = roomK x0 0 - cost b1 4 from HR.out.2.2.1 |>.trans (by rw [HR.out.2.1]))
      obtain ⟨R, hR⟩ : ∃ R, R = roomK x0 0 := ⟨_, rfl⟩
      have hR2 := HR.out.1 0
      rw [← hR] at HK hR2 ⊢
      have i1 : (16 : Int) ≤ (R : Int) := by omega
      have i2 : (R : Int) ≤ 40 := by omega
      clear hR hR2
      cases b1
      · go_wp2_with fail
        go_round
        case rel => exact ⟨0 + 1, by omega, by go_num, by rw [HK.out]; simp [cost]⟩
        case measure => simp [intOf]
      · go_wp2_with fail
        go_round
        case rel => exact ⟨0 + 1, by omega, by go_num, by rw [HK.out]; simp [cost]; omega⟩
        case measure => simp [intOf]
    · have g0 : w2.cell? ⟨G, 1, none⟩ = some (.int .i64 4) := X2.out.cell 3 rfl 1 rfl
      have HK := Lib.hid (show roomK x0 2 = roomK x0 1 - cost b2 4 from HR.out.2.2.2.1 |>.trans (by rw [HR.out.2.2.1]))
      obtain ⟨R, hR⟩ : ∃ R, R = roomK x0 1 := ⟨_, rfl⟩
      have hR2 := HR.out.1 1
      rw [← hR] at HK hR2 ⊢
      have i1 : (16 : Int) ≤ (R : Int) := by omega
      have i2 : (R : Int) ≤ 40 := by omega
      clear hR hR2
      cases b2
      · go_wp2_with fail
        go_round
        case rel => exact ⟨1 + 1, by omega, by go_num, by rw [HK.out]; simp [cost]⟩
        case measure => simp [intOf]
      · go_wp2_with fail
        go_round
        case rel => exact ⟨1 + 1, by omega, by go_num, by rw [HK.out]; simp [cost]; omega⟩
        case measure => simp [intOf]
    · have g0 : w2.cell? ⟨G, 2, none⟩ = some (.int .i64 4) := X2.out.cell 3 rfl 2 rfl
      have HK := Lib.hid (show roomK x0 3 = roomK x0 2 - cost b4 4 from HR.out.2.2.2.2.1 |>.trans (by rw [HR.out.2.2.2.1]))
      obtain ⟨R, hR⟩ : ∃ R, R = roomK x0 2 := ⟨_, rfl⟩
      have hR2 := HR.out.1 2
      rw [← hR] at HK hR2 ⊢
      have i1 : (16 : Int) ≤ (R : Int) := by omega
      have i2 : (R : Int) ≤ 40 := by omega
      clear hR hR2
      cases b4
      · go_wp2_with fail
        go_round
        case rel => exact ⟨2 + 1, by omega, by go_num, by rw [HK.out]; simp [cost]⟩
        case measure => simp [intOf]
      · go_wp2_with fail
        go_round
        case rel => exact ⟨2 + 1, by omega, by go_num, by rw [HK.out]; simp [cost]; omega⟩
        case measure => simp [intOf]
    · have g0 : w2.cell? ⟨G, 3, none⟩ = some (.int .i64 12) := X2.out.cell 3 rfl 3 rfl
      have HK := Lib.hid (show roomK x0 4 = roomK x0 3 - cost b8 12 from HR.out.2.2.2.2.2 |>.trans (by rw [HR.out.2.2.2.2.1]))
      obtain ⟨R, hR⟩ : ∃ R, R = roomK x0 3 := ⟨_, rfl⟩
      have hR2 := HR.out.1 3
      rw [← hR] at HK hR2 ⊢
      have i1 : (16 : Int) ≤ (R : Int) := by omega
      have i2 : (R : Int) ≤ 40 := by omega
      clear hR hR2
      cases b8
      · go_wp2_with fail
        go_round
        case rel => exact ⟨3 + 1, by omega, by go_num, by rw [HK.out]; simp [cost]⟩
        case measure => simp [intOf]
      · go_wp2_with fail
        go_round
        case rel => exact ⟨3 + 1, by omega, by go_num, by rw [HK.out]; simp [cost]; omega⟩
        case measure => simp [intOf]
    · rw [← HR4.out]
      clear s1 s2 s4 s8 hb1 hb2 hb4 hb8 y0
      have y3 : w2.cell? ⟨N + 1 + 1, 3, none⟩ = some (.bool b8) := X2.out.cell 2 rfl 3 rfl
      go_upto_if 53 with fail
      obtain ⟨ts, hts⟩ : ∃ ts, (if b8 = true then x3 else 0) = ts := ⟨_, rfl⟩
      obtain ⟨ec, hec⟩ : ∃ ec, (if b8 = true then x4 else 0) = ec := ⟨_, rfl⟩
      rw [hts, hec] at HM
      have Ht := Lib.hid hts
      have He := Lib.hid hec
      clear hts hec
      go_cut [] (fun wx => SP w wx [.blk N 54 #[.int .u8 x0, .int .u16 x1, .int .u8 x2, .int .u32 x3, .int .u32 x4, .int .u8 x5, .int .u8 x6, .int .u8 x7], .blk (N + 1) 32 (KNC knZ none 0 0), .blk (N + 1 + 1) 32 (KNC ⟨m, sc, b4, b8, ts, ec, []⟩ none 0 0)])
      case first =>
        cases b8
        · go_wp2_with fail
          go_meet
          rw [← Ht.out, ← He.out]
          exact X2.out.pick [0, 1, 2] (by decide) rfl
        · have t3 : w2.cell? ⟨N, 3, none⟩ = some (.int .u32 x3) := X2.out.cell 0 rfl 3 rfl
          have t4 : w2.cell? ⟨N, 4, none⟩ = some (.int .u32 x4) := X2.out.cell 0 rfl 4 rfl
          have z4 : w2.cell? ⟨N + 1 + 1, 4, none⟩ = some (.int .u32 0) := X2.out.cell 2 rfl 4 rfl
          have z5 : w2.cell? ⟨N + 1 + 1, 5, none⟩ = some (.int .u32 0) := X2.out.cell 2 rfl 5 rfl
          have f4 := X2.out.free 2 rfl 4
          have f5 := X2.out.free 2 rfl 5
          go_wp2_with fail
          go_region
          go_wp2_with fail
          go_meet
          have Y := ((X2.out.setB 2 rfl 4 (.int .u32 x3)).setB 2 rfl 5 (.int .u32 x4)).drew.pick [0, 1, 2] (by decide) (L' := [.blk N 54 #[.int .u8 x0, .int .u16 x1, .int .u8 x2, .int .u32 x3, .int .u32 x4, .int .u8 x5, .int .u8 x6, .int .u8 x7], .blk (N + 1) 32 (KNC knZ none 0 0), .blk (N + 1 + 1) 32 (KNC ⟨m, sc, b4, true, x3, x4, []⟩ none 0 0)]) rfl
          have e1 := Ht.out
          have e2 := He.out
          rw [if_pos trivial] at e1 e2
          rw [← e1, ← e2]
          exact Y
      case rest =>
      have Z := Lib.hid hcut
      clear hcut X2 y3
      have i1 : (16 : Int) ≤ (R4 : Int) := by omega
      have i2' : (R4 : Int) ≤ 40 := by omega
      have t5 : wc.cell? ⟨N, 5, none⟩ = some (.int .u8 x5) := Z.out.cell 0 rfl 5 rfl
      go_upto_region 15 with fail
      go_cut [67, 68] (fun s67 s68 wx => s67 = .int .i64 (mn : Int) ∧ s68 = .int .i64 0 ∧ wx = wc)
      case first =>
        go_wp2_with fail
        all_goals
          go_meet
          exact ⟨by congr 1; split at hmn <;> omega, rfl, rfl⟩
      case rest =>
      obtain ⟨rfl, rfl, hwd⟩ := hcut
      subst hwd
      clear hmn
      go_wp2_with fail
      go_loopw [68] (fun i wr => ∃ (j : Nat) (Ab : Option Addr) (cb : Nat), j ≤ mn ∧ i = .int .i64 j ∧ SP w wr [.blk N 54 #[.int .u8 x0, .int .u16 x1, .int .u8 x2, .int .u32 x3, .int .u32 x4, .int .u8 x5, .int .u8 x6, .int .u8 x7], .blk (N + 1) 32 (KNC knZ none 0 0), .blk (N + 1 + 1) 32 (KNC ⟨m, sc, b4, b8, ts, ec, []⟩ Ab j cb), .row 93 2 Ab j cb (prs (blkK x3 x4 j))]) (fun i _ => mn - (intOf i).toNat)
      case atStart => exact ⟨0, none, 0, by omega, rfl, Z.out.pushRow _ _⟩
      case round =>
        obtain ⟨j, Ab, cb, hj, rfl, hX⟩ := hrel
        have X := Lib.hid hX
        clear hX Z t5
        by_cases hlt : j < mn
        · have j1 : (j : Int) < (mn : Int) := by omega
          have j2 : (j : Int) ≤ 3 := by omega
          have t3 : wr.cell? ⟨N, 3, none⟩ = some (.int .u32 x3) := X.out.cell 0 rfl 3 rfl
          have t4 : wr.cell? ⟨N, 4, none⟩ = some (.int .u32 x4) := X.out.cell 0 rfl 4 rfl
          have z6 : wr.cell? ⟨N + 1 + 1, 6, none⟩ = some (.slice Ab j cb) := X.out.cell 2 rfl 6 rfl
          have f6 := X.out.free 2 rfl 6
          obtain ⟨u, hu⟩ : ∃ u, (x3 + (j : Int)) % 4294967296 = u := ⟨_, rfl⟩
          obtain ⟨v, hv⟩ : ∃ v, bits .xor .u32 x4 (j : Int) = v := ⟨_, rfl⟩
          have HP := Lib.hid (show prs (blkK x3 x4 (j + 1)) = prs (blkK x3 x4 j) ++ [.int .u32 u, .int .u32 v] by rw [← hu, ← hv]; exact prs_snoc _ _)
          have X5 := Lib.hid (X.out.next ((Below.refl _ wr).alloc (Nat.le_refl _) (.cells #[.int .u32 u, .int .u32 v] 93)))
          have BP := Lib.hid (show ∀ (j : Nat) (x : Value), [Value.int .u32 u, .int .u32 v][j]? = some x → (wr.alloc (.cells #[.int .u32 u, .int .u32 v] 93)).cell? ((⟨wr.heap.size, 0, none⟩ : Addr).add j) = some x from fun j x hx => pair_cells (BLOCK.new' wr 93 _ rfl) j x hx)
          go_wp2_with (refine wpList_append_row _ rfl _ _ 30 rfl w.heap.size 93 i2 _ 2 8 Try.underlying30 hi2 hy0 hy1 hy2 (by rfl) (by decide) Ab j cb (prs (blkK x3 x4 j)) rfl (X5.out.row 3 rfl) ⟨wr.heap.size, 0, none⟩ 1 1 [.int .u32 u, .int .u32 v] rfl rfl BP.out (by intro z hz; simp at hz; rcases hz with rfl | rfl <;> rfl) (by simp only [maxLen]; omega) (by omega) X5.out.size ?_; intro Ar' cr' w5 hrow hgrow hat; have X6 := Lib.hid (X5.out.appRow 3 rfl hrow hgrow hat); clear hrow hgrow hat; have z6' : w5.cell? ⟨N + 1 + 1, 6, none⟩ = some (.slice Ab j cb) := X6.out.cell 2 rfl 6 rfl; have f6' := X6.out.free 2 rfl 6)
          have X7 := X6.out.setB 2 rfl 6 (.slice Ar' (j + 1) cr')
          go_roundw
          case rel =>
            refine ⟨j + 1, Ar', cr', by omega, by go_num, ?_⟩
            rw [HP.out]
            exact X7
          case measure => simp [intOf]; omega
        · obtain rfl : j = mn := by omega
          have hne : N + 1 < wr.heap.size := (X.out.blk 1 rfl).lt
          go_wp2_with (first | (refine wpList_load_row rfl 32 _ rfl (N + 1 + 1) rfl 32 (KNC ⟨m, sc, b4, b8, ts, ec, []⟩ Ab j cb) _ _ (X.out.blk 2 rfl) Try.underlying32 rfl (by kernel_rfl) ?_) | (refine wpList_store_row rfl 32 _ _ rfl (N + 1) (KNC ⟨m, sc, b4, b8, ts, ec, []⟩ Ab j cb) rfl rfl 32 (KNC knZ none 0 0) (X.out.blk 1 rfl) (by kernel_rfl) rfl (KNC.one _ _ _ _) ?_))
          have Z := X.out.setR 1 rfl (KNC ⟨m, sc, b4, b8, ts, ec, []⟩ Ab j cb)
          refine bodyPost_ret (results_cell_row rfl _ _ (N + 1) 32 (KNC ⟨m, sc, b4, b8, ts, ec, []⟩ Ab j cb) _ _ rfl (Z.blk 1 rfl) Try.underlying32 rfl (by kernel_rfl)) rfl ?_
          refine ⟨Ab, j, cb, ?_, ?_, ?_⟩
          · rw [HM.out, blkK_len]; exact HMN.out.1
          · rw [HM.out]; rfl
          · rw [HM.out]
            have := Z.pick [3] (by decide) (L' := [.row 93 2 Ab j cb (prs (blkK x3 x4 j))]) rfl
            rw [HMN.out.1] at this
            rw [HMN.out.1]
            exact this
end Go.Proofs.Ythdpcblmmjocmaa
