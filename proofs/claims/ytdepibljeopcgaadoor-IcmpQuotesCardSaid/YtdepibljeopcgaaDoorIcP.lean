/- Plain law of ICMP: types and codes, what is read and written. No program in sight. -/
import Derived.Test.YtdepibljeopcgaaDoorBase
namespace Go.Proofs.YtdepibljeopcgaaDoor
open Go.RowKit
set_option linter.unusedVariables false

/-- kind, greatest code, reply of each type below 19 -/
def SORTZ : List Int := [4, 0, 0, 0, 0, 0, 0, 0, 0, 5, 15, 0, 5, 0, 0, 5, 3, 0, 0, 0, 0, 0, 0, 0, 3, 0, 0, 0, 0, 0, 0, 0, 0, 5, 1, 0, 5, 2, 0, 3, 0, 14, 4, 0, 0, 0, 0, 0, 0, 0, 0, 3, 0, 18, 4, 0, 0]
def sKind (t : Nat) : Int := SORTZ[3 * t]?.getD 0
def sCode (t : Nat) : Int := SORTZ[3 * t + 1]?.getD 0
def sReply (t : Nat) : Int := SORTZ[3 * t + 2]?.getD 0
theorem SORTZ_len : SORTZ.length = 57 := rfl
theorem SORTZ_bd : BD 18 SORTZ := fun x hx => by
  unfold SORTZ at hx
  simp only [List.mem_cons, List.not_mem_nil, or_false] at hx
  omega
/-- the error of a type and a code, and the kind -/
def kE (t : Nat) (c : Int) : Int := if sKind t = 0 then 101 else if sCode t < c then 102 else 0
def kK (t : Nat) (c : Int) : Int := if kE t c = 0 then sKind t else 0
theorem sKind_big {t : Nat} (h : 19 ≤ t) : sKind t = 0 := by
  unfold sKind
  rw [List.getElem?_eq_none (by rw [SORTZ_len]; omega)]; rfl

/-- a message, read -/
def icE (zs : List Int) : Int := if zs.length < 8 then 100 else kE (zs[0]?.getD 0).toNat (zs[1]?.getD 0)
def icM (zs : List Int) : Array Value := if icE zs = 0 then #[.int .u8 (zs[0]?.getD 0), .int .u8 (zs[1]?.getD 0), .int .u16 (wordAt zs 4), .int .u16 (wordAt zs 6)] else #[.int .u8 0, .int .u8 0, .int .u16 0, .int .u16 0]
/-- a message, written -/
def icHead (t c id seq : Int) : List Int := [t, c, 0, 0, id / 256, id % 256, seq / 256, seq % 256]
def icWE (t : Nat) (c : Int) (n : Nat) : Int := if kE t c = 0 then (if 65507 < n then 3 else 0) else kE t c
def icWB (t : Nat) (c id seq : Int) (data : List Int) : List Int := if icWE t c data.length = 0 then fixOf (icHead t c id seq ++ data) 2 else []
def icV (zs : List Int) : Bool := decide (8 ≤ zs.length) && sumOf zs == 65535
/-- an answer -/
def icAE (zs : List Int) : Int := if icE zs = 0 then (if sKind (zs[0]?.getD 0).toNat = 3 then 0 else 2) else icE zs
def icAB (zs : List Int) : List Int := if icAE zs = 0 then fixOf (zs.set 0 (sReply (zs[0]?.getD 0).toNat)) 2 else []
end Go.Proofs.YtdepibljeopcgaaDoor
