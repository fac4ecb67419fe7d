/- Words for memory: a slice of integers that reads as a list. No program in sight. -/
import Derived.WalkKit
import Derived.Lib.Hide
import Derived.Below
import Derived.Laws.OwnMore
import Derived.Deep.AppendLies
import Derived.Deep.Draws
namespace Go.Proofs.YtjbkfhdbgphodaaDoor
open Go.RowKit

/-- the slice '.slice A n c' reads as the integers zs of kind k; its cells lie below block B -/
def RD (k : IntKind) (w : World) (B : Nat) (A : Option Addr) (n : Nat) (zs : List Int) : Prop :=
  zs.length = n ∧ (0 < n → ∃ b off, A = some ⟨b, off, none⟩ ∧ b < B ∧ ∀ i, i < n → w.cell? ⟨b, off + i, none⟩ = some (.int k (zs[i]?.getD 0)))

/-- all numbers lie between 0 and m -/
def BD (m : Int) (zs : List Int) : Prop := ∀ x ∈ zs, 0 ≤ x ∧ x ≤ m

theorem BD.get {m : Int} {zs : List Int} (h : BD m zs) (hm : 0 ≤ m) (i : Nat) : 0 ≤ zs[i]?.getD 0 ∧ zs[i]?.getD 0 ≤ m := by
  rcases Nat.lt_or_ge i zs.length with hi | hi
  · have := h zs[i] (List.getElem_mem hi)
    simpa [hi] using this
  · simp [hi, hm]

theorem BD.take {m : Int} {zs : List Int} (h : BD m zs) (i : Nat) : BD m (zs.take i) := fun x hx => h x (List.mem_of_mem_take hx)
theorem BD.drop {m : Int} {zs : List Int} (h : BD m zs) (i : Nat) : BD m (zs.drop i) := fun x hx => h x (List.mem_of_mem_drop hx)
theorem BD.append {m : Int} {zs ys : List Int} (h : BD m zs) (h' : BD m ys) : BD m (zs ++ ys) := fun x hx => (List.mem_append.1 hx).elim (h x) (h' x)

section
variable {k : IntKind} {w w' : World} {B B' n : Nat} {A : Option Addr} {zs : List Int}
theorem RD.len (h : RD k w B A n zs) : zs.length = n := h.1
theorem RD.nil : RD k w B A 0 [] := ⟨rfl, fun h => absurd h (by omega)⟩
theorem RD.keep (h : RD k w B A n zs) (hk : ∀ p : Addr, p.block < B → w'.cell? p = w.cell? p) : RD k w' B A n zs :=
  ⟨h.1, fun hn => by
    obtain ⟨b, off, e, hb, hc⟩ := h.2 hn
    exact ⟨b, off, e, hb, fun i hi => (hk _ hb).trans (hc i hi)⟩⟩
theorem RD.more (h : RD k w B A n zs) (hB : B ≤ B') : RD k w B' A n zs :=
  ⟨h.1, fun hn => by
    obtain ⟨b, off, e, hb, hc⟩ := h.2 hn
    exact ⟨b, off, e, by omega, hc⟩⟩
theorem RD.below (h : RD k w B A n zs) (hb : Below B w w') : RD k w' B A n zs := h.keep fun _ hp => hb.cell hp
theorem RD.alloc (h : RD k w B A n zs) (hB : B ≤ w.heap.size) (o : Obj) : RD k (w.alloc o) B A n zs := h.keep fun p hp => World.cell?_alloc_lt w o p (by omega)
theorem RD.setCell (h : RD k w B A n zs) {p : Addr} (hB : B ≤ p.block) (u : Value) : RD k (w.setCell p u) B A n zs :=
  h.keep fun q hq => World.cell?_setCell_other w p q u (fun e => by subst e; omega)
theorem RD.take (h : RD k w B A n zs) {m : Nat} (hm : m ≤ n) : RD k w B A m (zs.take m) :=
  ⟨by have := h.1; simp; omega, fun hn => by
    obtain ⟨b, off, e, hb, hc⟩ := h.2 (by omega)
    refine ⟨b, off, e, hb, fun i hi => ?_⟩
    rw [hc i (by omega)]
    simp [hi]⟩
theorem RD.drop (h : RD k w B A n zs) {lo c : Nat} (hlo : lo ≤ n) (hc : n ≤ c) : RD k w B (if c = lo then A else A.map (·.add lo)) (n - lo) (zs.drop lo) :=
  ⟨by have := h.1; simp; omega, fun hn => by
    obtain ⟨b, off, rfl, hb, hcell⟩ := h.2 (by omega)
    rw [if_neg (by omega)]
    refine ⟨b, off + lo, ?_, hb, fun i hi => ?_⟩
    · simp only [Option.map]
      unfold Addr.add
      split <;> simp_all
    · rw [Nat.add_assoc, hcell (lo + i) (by omega)]
      simp [List.getElem?_drop]⟩
theorem RD.later (h : RD k w w.heap.size A n zs) (hb : Below w.heap.size w w') : RD k w' w'.heap.size A n zs := (h.below hb).more hb.size
/-- a block that has just been laid -/
theorem RD.new (w : World) (k : IntKind) (t : TypeId) (zs : List Int) : RD k (w.alloc (.cells (zs.map (Value.int k)).toArray t)) (w.alloc (.cells (zs.map (Value.int k)).toArray t)).heap.size (some ⟨w.heap.size, 0, none⟩) zs.length zs :=
  ⟨rfl, fun _ => ⟨w.heap.size, 0, rfl, by simp, fun i hi => by
    rw [World.cell?_alloc_new]
    simp [hi]⟩⟩
theorem RD.new' (w : World) (k : IntKind) (t : TypeId) (zs : List Int) {g B n : Nat} (hg : w.heap.size = g) (hB : g < B) (hn : zs.length = n) : RD k (w.alloc (.cells (zs.map (Value.int k)).toArray t)) B (some ⟨g, 0, none⟩) n zs := by
  subst hg
  exact ⟨hn, fun _ => ⟨w.heap.size, 0, rfl, hB, fun i hi => by rw [World.cell?_alloc_new]; subst hn; simp [hi]⟩⟩
end
end Go.Proofs.YtjbkfhdbgphodaaDoor
