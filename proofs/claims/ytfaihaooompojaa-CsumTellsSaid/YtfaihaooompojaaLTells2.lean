/- The walk of CsumTells. -/
import Derived.Test.YtfaihaooompojaaWTells2
import Derived.Test.YtfaihaooompojaaWAwake2
import Derived.Test.YtfaihaooompojaaRow
namespace Go.Proofs.Ytfaihaooompojaa
open Go.RowKit
set_option linter.unusedVariables false

set_option maxHeartbeats 400000 in
set_option maxRecDepth 100000 in
theorem csumTells_walk (A : Option Addr) (n c : Nat) (zs : List Int) (q ps : Int) (w : World) (h : ROW .u8 255 w A n c zs) (hc : c ≤ 140737488351232) (h1 : (Lit.int .i64 q).wf = true) (h2 : (Lit.int .u16 ps).wf = true) :
    Calls Try.prog 4 #[.slice A n c, .int .i64 q, .int .u16 ps] w fun e w' => e = .returned (.bool true) ∧ Below w.heap.size w w' := by
  have hq := wf_i64 h1
  obtain ⟨p0, p1⟩ := wf_u16 h2
  clear h1 h2
  have hle := h.le
  go_enter Try.func4, Try.ntmps4
  go_wp2_with (first
    | (go_at_call 14; refine (tells2_any A n c zs q ps w h.rd h.bd (by omega) hq p0 p1).mono ?_; rintro e w1 ⟨rfl, hb1⟩)
    | (go_at_call 11; refine (awake2_any _).mono ?_; rintro e w2 ⟨rfl, hb2⟩))
  go_ret
  exact ⟨rfl, hb1.trans (hb2.mono hb1.size)⟩
end Go.Proofs.Ytfaihaooompojaa
