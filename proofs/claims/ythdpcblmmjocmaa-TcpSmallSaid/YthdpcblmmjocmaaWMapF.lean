import Derived.Maps.Own
import Derived.Maps.OwnOps
import Derived.RangeFuncRecord
import Derived.Test.YthdpcblmmjocmaaBase
/- A map with bytes for keys, its entries known. No program in sight. -/
namespace Go.Proofs.Ythdpcblmmjocmaa
open Go.RowKit
set_option linter.unusedVariables false
section
variable {P : Program} {t k e : TypeId} {w : World} {r : Nat} {es : Array MapEntry} {clock : Nat}

theorem run_findKey_now (hk : P.underlying k = some (.int .u8)) (key : Int) {res : Option (Nat × Value)} (hf : Instr.findNow (.int .u8) (.int .u8 key) es.toList 0 = some res) :
    (Instr.findKey k (.int .u8 key) es.toList).run P w = .ok res w := by
  unfold Instr.findKey
  simp [run_underlying hk, hf]
theorem run_checkKey_u8 (hk : P.underlying k = some (.int .u8)) (b : Bool) (key : Int) : (Instr.checkKey b 10000 k (.int .u8 key)).run P w = .ok () w := by
  unfold Instr.checkKey
  simp [run_underlying hk]
theorem run_lookup_map (ht : P.underlying t = some (.map k e)) (hk : P.underlying k = some (.int .u8)) (h : w.heap[r]? = some (.map es clock)) (key : Int) {i : Nat} {v : Value}
    (hf : Instr.findNow (.int .u8) (.int .u8 key) es.toList 0 = some (some (i, v))) :
    (Instr.lookup t (.map (some r)) (.int .u8 key) true).run P w = .ok (.tuple #[v, .bool true]) w := by
  have hg : (getObj r).run P w = .ok (.map es clock) w := by simp [getObj, Sem.run, h]
  simp [Instr.lookup, run_underlying ht, hg, run_checkKey_u8 hk, run_findKey_now hk key hf]
theorem run_lookup_map_not (ht : P.underlying t = some (.map k e)) (hk : P.underlying k = some (.int .u8)) (h : w.heap[r]? = some (.map es clock)) (key : Int) {z : Value} (hz : (zeroValue e).run P w = .ok z w)
    (hf : Instr.findNow (.int .u8) (.int .u8 key) es.toList 0 = some none) :
    (Instr.lookup t (.map (some r)) (.int .u8 key) true).run P w = .ok (.tuple #[z, .bool false]) w := by
  have hg : (getObj r).run P w = .ok (.map es clock) w := by simp [getObj, Sem.run, h]
  simp [Instr.lookup, run_underlying ht, hg, run_checkKey_u8 hk, run_findKey_now hk key hf, hz]
theorem run_insert_map (ht : P.underlying t = some (.map k e)) (hk : P.underlying k = some (.int .u8)) (h : w.heap[r]? = some (.map es clock)) (key : Int) (v : Value)
    (hf : Instr.findNow (.int .u8) (.int .u8 key) es.toList 0 = some none) :
    (Instr.mapUpdate t (.map (some r)) (.int .u8 key) v).run P w = .ok () (w.putObj r (.map (es.push { key := .int .u8 key, val := v, born := clock }) (clock + 1))) := by
  have hg : (getObj r).run P w = .ok (.map es clock) w := by simp [getObj, Sem.run, h]
  have hs : ∀ o, (setObj r o).run P w = .ok () (w.putObj r o) := fun o => by simp [setObj, Sem.run, h, World.putObj]
  simp [Instr.mapUpdate, run_underlying ht, hg, hs, run_checkKey_u8 hk, run_findKey_now hk key hf]
theorem wpList_insert_map {ops : Array Oper} {rest : List Oper} {o : Oper} {a : Act} {Q : Exit → Act → World → Prop} (hg : o.guard = none) (m x v : Operand) (t : TypeId) (hop : o.op = Op.insert t m x v)
    (ht : P.underlying t = some (.map k e)) (hk : P.underlying k = some (.int .u8)) (es : Array MapEntry) (clock : Nat) (h : w.heap[r]? = some (.map es clock)) (hm : a.eval m = .map (some r)) (key : Int) (val : Value) (hx : a.eval x = .int .u8 key) (hv : a.eval v = val)
    (hf : Instr.findNow (.int .u8) (.int .u8 key) es.toList 0 = some none)
    (hK : wpList P ops Q rest (a.put o.dst undef) (w.putObj r (.map (es.push { key := .int .u8 key, val := val, born := clock }) (clock + 1)))) :
    wpList P ops Q (o :: rest) a w := by
  refine wpList_plain hg fun K' hK' => ?_
  have hrun := run_insert_map (w := w) ht hk h key val hf
  unfold Oper.wp
  simp [execOp, hop, hm, hx, hv, hrun, Result.andThen]
  exact hK' _ _ hK
end
end Go.Proofs.Ythdpcblmmjocmaa
