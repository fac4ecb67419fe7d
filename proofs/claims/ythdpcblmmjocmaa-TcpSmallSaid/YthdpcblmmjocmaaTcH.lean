import Derived.Test.YthdpcblmmjocmaaTcF
/- package tcp: headers, plain. No program in sight. -/
namespace Go.Proofs.Ythdpcblmmjocmaa
open Go.RowKit
set_option linter.unusedVariables false

/-- a header, but for its options -/
structure TH where
  sp : Int
  dp : Int
  sq : Int
  ak : Int
  fl : Int
  wi : Int
  ug : Int
deriving DecidableEq
def TH.cells (h : TH) (v : Value) : Array Value := #[.int .u16 h.sp, .int .u16 h.dp, .int .u32 h.sq, .int .u32 h.ak, .int .u8 h.fl, .int .u16 h.wi, .int .u16 h.ug, v]
def th0 : TH := ⟨0, 0, 0, 0, 0, 0, 0⟩
structure TH.WF (h : TH) : Prop where
  sp : 0 ≤ h.sp ∧ h.sp ≤ 65535
  dp : 0 ≤ h.dp ∧ h.dp ≤ 65535
  sq : 0 ≤ h.sq ∧ h.sq ≤ 4294967295
  ak : 0 ≤ h.ak ∧ h.ak ≤ 4294967295
  fl : 0 ≤ h.fl ∧ h.fl ≤ 255
  wi : 0 ≤ h.wi ∧ h.wi ≤ 65535
  ug : 0 ≤ h.ug ∧ h.ug ≤ 65535

/-- flags that are sane -/
def saneB (f : Int) : Bool := (f % 8 == 0 || f % 8 == 1 || f % 8 == 2 || f % 8 == 4) && (f / 2 % 2 == 1 || f / 4 % 2 == 1 || f / 16 % 2 == 1)

/-- the length that a header tells -/
def tcN (zs : List Int) : Nat := ((4 : Int) * (zs[12]?.getD 0 / 16)).toNat
/-- the error of a segment -/
def tcE (zs : List Int) : Int :=
  if zs.length < 20 then 80 else if tcN zs < 20 ∨ zs.length < tcN zs then 81
  else if zs[12]?.getD 0 % 16 ≠ 0 ∨ saneB (zs[13]?.getD 0) = false then 82
  else if wordAt zs 0 = 0 ∨ wordAt zs 2 = 0 then 83 else 0
def thOf (zs : List Int) : TH := ⟨wordAt zs 0, wordAt zs 2, lng zs 4, lng zs 8, zs[13]?.getD 0, wordAt zs 14, wordAt zs 18⟩
def tcHd (zs : List Int) : TH := if tcE zs = 0 then thOf zs else th0
def tcTo (zs : List Int) : Nat := if tcE zs = 0 then tcN zs else 0
def tcOp (zs : List Int) : List Int := if tcE zs = 0 then (zs.drop 20).take (tcN zs - 20) else []

theorem tcE_ok {zs : List Int} (h : tcE zs = 0) : 20 ≤ zs.length ∧ 20 ≤ tcN zs ∧ tcN zs ≤ zs.length ∧ zs[12]?.getD 0 % 16 = 0 ∧ saneB (zs[13]?.getD 0) = true ∧ wordAt zs 0 ≠ 0 ∧ wordAt zs 2 ≠ 0 := by
  unfold tcE at h
  split at h
  · omega
  · split at h
    · omega
    · split at h
      · omega
      · rename_i h3
        split at h
        · omega
        · rename_i h4
          have h3' : saneB (zs[13]?.getD 0) = true := by
            cases hb : saneB (zs[13]?.getD 0) with
            | true => rfl
            | false => exact absurd (.inr hb) h3
          have h5 : zs[12]?.getD 0 % 16 = 0 := by
            rcases Decidable.em (zs[12]?.getD 0 % 16 = 0) with hb | hb
            · exact hb
            · exact absurd (.inl hb) h3
          exact ⟨by omega, by omega, by omega, h5, h3', fun a => h4 (.inl a), fun a => h4 (.inr a)⟩
theorem tcOp_len {zs : List Int} (hz : tcN zs ≤ 60) : (tcOp zs).length ≤ 40 := by
  unfold tcOp
  split
  · simp; omega
  · simp
theorem tcN_le {zs : List Int} (hz : BD 255 zs) : tcN zs ≤ 60 := by
  have := hz.get (by omega) 12
  unfold tcN; omega
theorem tcHd_wf {zs : List Int} (hz : BD 255 zs) : (tcHd zs).WF := by
  have w := fun i => wordAt_bd hz i
  have l : ∀ i, 0 ≤ lng zs i ∧ lng zs i ≤ 4294967295 := fun i => by
    have h1 := w i
    have h2 := w (i + 2)
    unfold lng; omega
  unfold tcHd
  split
  · exact ⟨w 0, w 2, l 4, l 8, hz.get (by omega) 13, w 14, w 18⟩
  · unfold th0; constructor <;> simp

/-- the head of a segment -/
def tHead (h : TH) (on : Nat) (c : Int) : List Int := w2 h.sp ++ w2 h.dp ++ w4 h.sq ++ w4 h.ak ++ [(20 + (on : Int)) / 4 * 16, h.fl] ++ w2 h.wi ++ w2 c ++ w2 h.ug
/-- a segment without its checksum -/
def tPkt0 (h : TH) (os data : List Int) : List Int := tHead h os.length 0 ++ os ++ data
def tPs (s d L : Int) : Int := foldJ 0 [s / 65536, s % 65536, d / 65536, d % 65536, 6, L]
def tC (h : TH) (os : List Int) (s d : Int) (data : List Int) : Int := 65535 - stepJ (tPs s d (20 + os.length + data.length)) (sumOf (tPkt0 h os data))
/-- the segment that Write gives -/
def tPkt (h : TH) (os : List Int) (s d : Int) (data : List Int) : List Int := tHead h os.length (tC h os s d data) ++ os ++ data
def TWrong (h : TH) (on dn : Nat) : Prop := h.sp = 0 ∨ h.dp = 0 ∨ saneB h.fl = false ∨ 40 < on ∨ on % 4 ≠ 0 ∨ 65515 < 20 + on + dn
instance (h : TH) (on dn : Nat) : Decidable (TWrong h on dn) := by unfold TWrong; infer_instance
def tE (h : TH) (on dn : Nat) : Int := if TWrong h on dn then 2 else 0
def tB (h : TH) (os : List Int) (s d : Int) (data : List Int) : List Int := if TWrong h os.length data.length then [] else tPkt h os s d data
/-- Verify -/
def tV (zs : List Int) (s d : Int) : Bool := decide (zs.length ≤ 65535) && decide (20 ≤ zs.length) && (65535 - stepJ (tPs s d zs.length) (sumOf zs) == 0)
/-- Extent -/
def extN (f n : Int) : Int := if n < 0 ∨ 65535 < n then 0 else n + f / 2 % 2 + f % 2

theorem tHead_len (h : TH) (on : Nat) (c : Int) : (tHead h on c).length = 20 := rfl
theorem tPkt_len (h : TH) (os : List Int) (s d : Int) (data : List Int) : (tPkt h os s d data).length = 20 + os.length + data.length := by unfold tPkt; simp [tHead_len]; omega
theorem tHead_bd {h : TH} (hw : h.WF) {on : Nat} (ho : on ≤ 40) {c : Int} (hc : 0 ≤ c ∧ c ≤ 65535) : BD 255 (tHead h on c) := by
  obtain ⟨h1, h2, h3, h4, h5, h6, h7⟩ := hw
  unfold tHead
  refine ((((((((w2_bd h1).append (w2_bd h2)).append (w4_bd h3)).append (w4_bd h4)).append ?_).append (w2_bd h6)).append (w2_bd hc)).append (w2_bd h7))
  intro x hx
  simp only [List.mem_cons, List.not_mem_nil, or_false] at hx
  omega
theorem tPs_bd {s d L : Int} (hs : 0 ≤ s ∧ s ≤ 4294967295) (hd : 0 ≤ d ∧ d ≤ 4294967295) (hL : 0 ≤ L ∧ L ≤ 65535) : 0 ≤ tPs s d L ∧ tPs s d L ≤ 65535 :=
  foldJ_bd _ (by omega) (by omega) (fun y hy => by simp at hy; omega)
theorem tC_bd {h : TH} (hw : h.WF) {os : List Int} (ho : BD 255 os) (hn : os.length ≤ 40) {s d : Int} (hs : 0 ≤ s ∧ s ≤ 4294967295) (hd : 0 ≤ d ∧ d ≤ 4294967295) {data : List Int} (hdt : BD 255 data) (hl : 20 + os.length + data.length ≤ 65535) :
    0 ≤ tC h os s d data ∧ tC h os s d data ≤ 65535 := by
  have a := tPs_bd (L := 20 + (os.length : Int) + data.length) hs hd (by omega)
  have b := sumOf_bd (tPkt0 h os data) (((tHead_bd hw hn (by omega)).append ho).append hdt)
  have c := stepJ_bd a.1 a.2 b.1 b.2
  unfold tC; omega
/-- the checksum put in -/
theorem tPkt_put (h : TH) (os data : List Int) (c : Int) : put2 (tPkt0 h os data) 16 (c / 256) (c % 256) = tHead h os.length c ++ os ++ data := by
  simp [put2, tPkt0, tHead, w2, w4]
end Go.Proofs.Ythdpcblmmjocmaa
