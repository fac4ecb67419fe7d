import Derived.Test.YtljbfnabnkkfeaaIpW
/- frag: groups and tables, plain. No program in sight. -/
namespace Go.Proofs.Ytljbfnabnkkfeaa
open Go.RowKit
set_option linter.unusedVariables false
set_option linter.unusedSimpArgs false

/-- a fragment: header, options, data -/
structure FR where
  h : HD
  o : List Int
  d : List Int
def FR.b (f : FR) : Nat := f.h.off.toNat
def FR.e (f : FR) : Nat := f.b + f.d.length

/-- a group; its parts are (where, bytes) -/
structure AG where
  src : Int
  dst : Int
  proto : Int
  id : Int
  begin_ : Int
  total : Int
  dead : Bool
  h : HD
  o : List Int
  ps : List (Nat × List Int)
def pe (p : Nat × List Int) : Nat := p.1 + p.2.length
def bytesP (ps : List (Nat × List Int)) : Nat := (ps.map (fun p => p.2.length)).sum
theorem bytesP_nil : bytesP [] = 0 := rfl
theorem bytesP_cons (p : Nat × List Int) (ps : List (Nat × List Int)) : bytesP (p :: ps) = p.2.length + bytesP ps := by simp [bytesP]
theorem bytesP_append (a b : List (Nat × List Int)) : bytesP (a ++ b) = bytesP a + bytesP b := by simp [bytesP]

/-- whether a fragment kills a group, by the total alone; by a part -/
def dies1 (total : Int) (mf : Bool) (e : Nat) : Bool := (!mf && decide (0 ≤ total)) || (decide (0 ≤ total) && decide (total < (e : Int)))
def dies2 (mf : Bool) (b e : Nat) (p : Nat × List Int) : Bool := (decide (p.1 < e) && decide (b < pe p)) || (!mf && decide (e < pe p))
def diesG (g : AG) (f : FR) : Bool := dies1 g.total f.h.mf f.e || g.ps.any (dies2 f.h.mf f.b f.e)
def putG (g : AG) (f : FR) : AG :=
  { g with ps := if f.d = [] then g.ps else g.ps ++ [(f.b, f.d)], total := if f.h.mf then g.total else (f.e : Int),
           h := if f.b = 0 then { f.h with mf := false } else g.h, o := if f.b = 0 then f.o else g.o }
def doneG (g : AG) : Bool := decide (0 ≤ g.total) && decide ((bytesP g.ps : Int) = g.total)
def okG (g : AG) : Bool := !doneG g || rightB g.h.off g.h.mf g.o.length g.total
def addG (g : AG) (f : FR) : Option AG := if diesG g f then none else if okG (putG g f) then some (putG g f) else none
/-- the bytes of the parts, each at its place -/
def splice (zs : List Int) (p : Nat × List Int) : List Int := zs.take p.1 ++ (p.2.take (zs.length - p.1) ++ zs.drop (p.1 + p.2.length))
def asmP (n : Nat) (ps : List (Nat × List Int)) : List Int := ps.foldl splice (List.replicate n 0)
/-- a dead group: nothing else of it counts -/
def deadG (g : AG) : AG := { g with total := 0, dead := true, h := HD.zero, o := [], ps := [] }

structure AT where
  limit : Int
  life : Int
  now : Int
  gs : List AG
def overG (life now : Int) (g : AG) : Bool := decide (g.begin_ + life ≤ now)
def passA (T : AT) (now : Int) : AT := { T with now := now, gs := T.gs.dropWhile (overG T.life now) }
def sameK (h : HD) (g : AG) : Bool := g.src == h.src && (g.dst == h.dst && (g.proto == h.proto && g.id == h.id))
def newG (now : Int) (h : HD) : AG := ⟨h.src, h.dst, h.proto, h.id, now, -1, false, HD.zero, [], []⟩
/-- the groups with that of a header, and its index -/
def ofA (T : AT) (h : HD) : List AG × Nat :=
  match T.gs.findIdx? (sameK h) with
  | some k => (T.gs, k)
  | none => ((if (T.gs.length : Int) = T.limit then T.gs.tail else T.gs) ++ [newG T.now h], (if (T.gs.length : Int) = T.limit then T.gs.tail else T.gs).length)
def frOf (zs : List Int) : FR := ⟨hdOf zs, optsOf zs, (zs.drop (sizeR zs)).take (totalR zs - sizeR zs)⟩
/-- a fragment comes to group k -/
def addA (gs : List AG) (k : Nat) (f : FR) : List AG × List Int × Int :=
  match gs[k]? with
  | none => (gs, [], 0)
  | some g =>
    if g.dead then (gs, [], 71)
    else match addG g f with
      | none => (gs.set k (deadG g), [], 71)
      | some g' => if doneG g' then (gs.eraseIdx k, pktB g'.h g'.o (asmP g'.total.toNat g'.ps), 0) else (gs.set k g', [], 0)
def lateA (T : AT) (now : Int) : Bool := decide (now < T.now) || decide (1099511627776 < now)
def putA (T : AT) (now : Int) (zs : List Int) : AT × List Int × Int :=
  if lateA T now then (T, [], 70)
  else if faultR zs ≠ 7 then (T, [], ipE zs)
  else if (hdOf zs).mf = false ∧ (hdOf zs).off = 0 then (passA T now, zs.take (totalR zs), 0)
  else let r := addA (ofA (passA T now) (hdOf zs)).1 (ofA (passA T now) (hdOf zs)).2 (frOf zs)
    ({ passA T now with gs := r.1 }, r.2.1, r.2.2)
def tickA (T : AT) (now : Int) : AT × Int := if lateA T now then (T, 70) else (passA T now, 0)

/-! ### what holds of a group -/
/-- two parts share no byte -/
def apartP (p q : Nat × List Int) : Prop := pe p ≤ q.1 ∨ pe q ≤ p.1
theorem apartP.symm {p q : Nat × List Int} (h : apartP p q) : apartP q p := h.elim .inr .inl
structure GOKP (ps : List (Nat × List Int)) : Prop where
  ne : ∀ p ∈ ps, 0 < p.2.length
  le : ∀ p ∈ ps, pe p ≤ 65515
  bd : ∀ p ∈ ps, BD 255 p.2
  pw : ps.Pairwise apartP
structure GOK (g : AG) : Prop where
  src : 0 ≤ g.src ∧ g.src ≤ 4294967295
  dst : 0 ≤ g.dst ∧ g.dst ≤ 4294967295
  proto : 0 ≤ g.proto ∧ g.proto ≤ 255
  id : 0 ≤ g.id ∧ g.id ≤ 65535
  beg : 0 ≤ g.begin_ ∧ g.begin_ ≤ 1099511627776
  tot : -1 ≤ g.total ∧ g.total ≤ 65515
  hd : g.h.WF
  op : BD 255 g.o ∧ g.o.length ≤ 40
  ps : GOKP g.ps
  in_ : 0 ≤ g.total → ∀ p ∈ g.ps, (pe p : Int) ≤ g.total

/-! ### bytes, position by position -/
def ind (p : Nat × List Int) (x : Nat) : Nat := if p.1 ≤ x ∧ x < pe p then 1 else 0
def cov (ps : List (Nat × List Int)) (x : Nat) : Nat := (ps.map (fun p => ind p x)).sum
theorem cov_nil (x : Nat) : cov [] x = 0 := rfl
theorem cov_cons (p : Nat × List Int) (ps : List (Nat × List Int)) (x : Nat) : cov (p :: ps) x = ind p x + cov ps x := by simp [cov]
def upsum (f : Nat → Nat) : Nat → Nat
  | 0 => 0
  | n + 1 => upsum f n + f n
theorem upsum_add (f g : Nat → Nat) : ∀ n, upsum (fun x => f x + g x) n = upsum f n + upsum g n
  | 0 => rfl
  | n + 1 => by simp only [upsum]; rw [upsum_add f g n]; omega
theorem upsum_ind (p : Nat × List Int) : ∀ n, upsum (ind p) n = if n ≤ p.1 then 0 else if n ≤ pe p then n - p.1 else p.2.length
  | 0 => by simp [upsum]
  | n + 1 => by
    simp only [upsum]
    rw [upsum_ind p n]
    unfold ind pe
    repeat' split
    all_goals omega
theorem upsum_zero : ∀ n, upsum (fun _ => 0) n = 0
  | 0 => rfl
  | n + 1 => by simp only [upsum]; rw [upsum_zero n]
theorem upsum_cov : ∀ (ps : List (Nat × List Int)) (n : Nat), (∀ p ∈ ps, pe p ≤ n) → upsum (cov ps) n = bytesP ps
  | [], n, _ => by
    have : cov [] = fun _ => 0 := by funext x; rfl
    rw [this, upsum_zero]; rfl
  | p :: ps, n, h => by
    have : cov (p :: ps) = fun x => ind p x + cov ps x := by funext x; exact cov_cons p ps x
    rw [this, upsum_add, upsum_cov ps n (fun q hq => h q (by simp [hq])), upsum_ind, bytesP_cons]
    have h1 := h p (by simp)
    unfold pe at *
    repeat' split
    all_goals omega
theorem cov_zero {ps : List (Nat × List Int)} {x : Nat} (h : ∀ p ∈ ps, ¬ (p.1 ≤ x ∧ x < pe p)) : cov ps x = 0 := by
  induction ps with
  | nil => rfl
  | cons p ps ih =>
    rw [cov_cons, ih (fun q hq => h q (by simp [hq]))]
    have := h p (by simp)
    unfold ind; rw [if_neg this]
theorem cov_le : ∀ {ps : List (Nat × List Int)}, ps.Pairwise apartP → ∀ x, cov ps x ≤ 1
  | [], _, x => by rw [cov_nil]; omega
  | p :: ps, h, x => by
    obtain ⟨h1, h2⟩ := List.pairwise_cons.1 h
    rw [cov_cons]
    by_cases hp : p.1 ≤ x ∧ x < pe p
    · rw [cov_zero (fun q hq hx => by rcases h1 q hq with h3 | h3 <;> omega)]
      unfold ind; rw [if_pos hp]; omega
    · have := cov_le h2 x
      unfold ind; rw [if_neg hp]; omega
theorem upsum_le {f : Nat → Nat} (h : ∀ x, f x ≤ 1) : ∀ n, upsum f n ≤ n
  | 0 => Nat.le_refl _
  | n + 1 => by simp only [upsum]; have := upsum_le h n; have := h n; omega
theorem upsum_full {f : Nat → Nat} (h : ∀ x, f x ≤ 1) : ∀ n, upsum f n = n → ∀ x, x < n → f x = 1
  | 0, _, x, hx => by omega
  | n + 1, e, x, hx => by
    simp only [upsum] at e
    have h1 := upsum_le h n
    have h2 := h n
    by_cases hn : x = n
    · subst hn; omega
    · exact upsum_full h n (by omega) x (by omega)
/-- parts that share no byte have no more of them than there are places -/
theorem bytesP_le {ps : List (Nat × List Int)} {n : Nat} (hp : ps.Pairwise apartP) (hn : ∀ p ∈ ps, pe p ≤ n) : bytesP ps ≤ n := by
  rw [← upsum_cov ps n hn]; exact upsum_le (cov_le hp) n
theorem length_le_bytesP : ∀ {ps : List (Nat × List Int)}, (∀ p ∈ ps, 0 < p.2.length) → ps.length ≤ bytesP ps
  | [], _ => by simp [bytesP]
  | p :: ps, h => by
    have h1 := h p (by simp)
    have h2 := length_le_bytesP (ps := ps) (fun q hq => h q (List.mem_cons_of_mem _ hq))
    rw [bytesP_cons, List.length_cons]; omega
theorem GOKP.bytes {ps : List (Nat × List Int)} (h : GOKP ps) : bytesP ps ≤ 65515 := bytesP_le h.pw h.le
theorem GOKP.len {ps : List (Nat × List Int)} (h : GOKP ps) : ps.length ≤ 65515 := Nat.le_trans (length_le_bytesP h.ne) h.bytes
theorem GOKP.nil : GOKP [] := ⟨(fun p h => by cases h), (fun p h => by cases h), (fun p h => by cases h), List.Pairwise.nil⟩
/-- what a right fragment is -/
structure FOK (f : FR) : Prop where
  wf : f.h.WF
  off : 0 ≤ f.h.off ∧ f.h.off % 8 = 0 ∧ f.h.off ≤ 65528
  op : BD 255 f.o ∧ f.o.length ≤ 40
  bd : BD 255 f.d
  e : f.e ≤ 65515
  mf : f.h.mf = true → 0 < f.d.length ∧ f.d.length % 8 = 0
theorem FOK.b {f : FR} (h : FOK f) : (f.b : Int) = f.h.off := by unfold FR.b; have := h.off; omega
theorem putG_ok {g : AG} {f : FR} (h : GOK g) (hf : FOK f) (hd : diesG g f = false) : GOK (putG g f) := by
  unfold diesG at hd
  simp only [Bool.or_eq_false_iff, List.any_eq_false] at hd
  obtain ⟨hd1, hd2⟩ := hd
  have hdp : ∀ p ∈ g.ps, ¬ (p.1 < f.e ∧ f.b < pe p) ∧ (f.h.mf = false → pe p ≤ f.e) := fun p hp => by
    have := hd2 p hp
    unfold dies2 at this
    simp only [Bool.or_eq_true, Bool.and_eq_true, decide_eq_true_eq, Bool.not_eq_true', not_or] at this
    exact ⟨this.1, fun hm => by have := this.2; simp only [hm, true_and] at this; omega⟩
  unfold dies1 at hd1
  simp only [Bool.or_eq_false_iff, Bool.and_eq_false_iff, decide_eq_false_iff_not, Bool.not_eq_false'] at hd1
  have he := hf.e
  have ho := hf.off
  have hps : GOKP (putG g f).ps := by
    unfold putG
    simp only
    split
    · exact h.ps
    · rename_i hne
      have hl : 0 < f.d.length := by cases hq : f.d with
        | nil => exact absurd hq hne
        | cons a r => simp
      refine ⟨fun p hp => ?_, fun p hp => ?_, fun p hp => ?_, List.pairwise_append.2 ⟨h.ps.pw, List.pairwise_singleton _ _, fun p hp q hq => ?_⟩⟩
      · rcases List.mem_append.1 hp with hp | hp
        · exact h.ps.ne p hp
        · simp at hp; subst hp; exact hl
      · rcases List.mem_append.1 hp with hp | hp
        · exact h.ps.le p hp
        · simp at hp; subst hp; exact he
      · rcases List.mem_append.1 hp with hp | hp
        · exact h.ps.bd p hp
        · simp at hp; subst hp; exact hf.bd
      · simp at hq; subst hq
        have := (hdp p hp).1
        unfold apartP pe at *
        simp only
        unfold FR.e at *
        have := h.ps.ne p hp
        omega
  refine ⟨h.src, h.dst, h.proto, h.id, h.beg, ?_, ?_, ?_, hps, ?_⟩
  · unfold putG; simp only; have := h.tot; split <;> omega
  · unfold putG; simp only; split
    · exact ⟨hf.wf.tos, hf.wf.id, hf.wf.off, hf.wf.ttl, hf.wf.proto, hf.wf.src, hf.wf.dst⟩
    · exact h.hd
  · unfold putG; simp only; split
    · exact hf.op
    · exact h.op
  · unfold putG
    simp only
    intro h0 p hp
    by_cases hm : f.h.mf = true
    · simp only [hm, if_true] at h0 ⊢
      split at hp
      · exact h.in_ h0 p hp
      · rcases List.mem_append.1 hp with hp | hp
        · exact h.in_ h0 p hp
        · simp at hp; subst hp
          have := hd1.2
          unfold pe; simp only
          unfold FR.e at *
          omega
    · simp only [hm] at h0 ⊢
      simp only [Bool.not_eq_true] at hm
      split at hp
      · have := (hdp p hp).2 hm; simp; omega
      · rcases List.mem_append.1 hp with hp | hp
        · have := (hdp p hp).2 hm; simp; omega
        · simp at hp; subst hp; unfold pe FR.e; simp
end Go.Proofs.Ytljbfnabnkkfeaa
