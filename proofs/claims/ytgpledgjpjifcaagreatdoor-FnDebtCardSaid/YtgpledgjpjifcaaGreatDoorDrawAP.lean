/- Draws of lists of postings, and of what the laws on them take. -/
import Derived.Test.YtgpledgjpjifcaaGreatDoorRows
import Derived.Test.YtgpledgjpjifcaaGreatDoorDrawPo
import Derived.Test.YtgpledgjpjifcaaGreatDoorPstL
namespace Go.Proofs.YtgpledgjpjifcaaGreatDoor
open Go.RowKit

theorem Ow.differL {w : World} {B B' n n' : Nat} {e e' : TypeId} {v v' : Value} {rows rows' : List (List Value)} (h : Ow w B e n v rows) (h' : Ow w B' e' n' v' rows') (hne : e ≠ e') : v.ownBlock = none ∨ v.ownBlock ≠ v'.ownBlock := by
  rcases h.2.2 with ⟨rfl, _⟩ | ⟨g, cap, cur, rfl, _, hh, _⟩
  · exact .inl rfl
  · exact .inr (h'.ne_ hh (Ne.symm hne))
/-- Postings of the call's own; their lines' slices are of the call's own too. -/
def OwW (w : World) (B : Nat) (A : Option Addr) (cap : Nat) (ps : List Pst) : Prop := Ow w B 45 2 (.slice A ps.length cap) (ps.map Pst.cells) ∧ ∀ p ∈ ps, Ow w B 84 3 p.val (p.L.map Line.cells) ∧ p.L.length ≤ 15
section
variable {w w' : World} {B cap : Nat} {A : Option Addr} {ps : List Pst}
theorem OwW.pastL {g : Nat} (h : OwW w B A cap ps) (hg : w.grownBy w' (some g)) (hB : g < B) : OwW w' B A cap ps := ⟨h.1.pastL hg hB, fun p hp => ⟨(h.2 p hp).1.pastL hg hB, (h.2 p hp).2⟩⟩
theorem OwW.alloc (h : OwW w B A cap ps) (o : Obj) : OwW (w.alloc o) B A cap ps := ⟨h.1.alloc o, fun p hp => ⟨(h.2 p hp).1.alloc o, (h.2 p hp).2⟩⟩
theorem OwW.aside {X i : Nat} {u : Value} {cs : Array Value} (h : OwW w B A cap ps) (hx : w.heap[X]? = some (.cells cs 45 (0, 0))) (hX : ∀ k, (Value.slice A ps.length cap).ownBlock = some k → k < X) : OwW (w.setCell ⟨X, i, none⟩ u) B A cap ps :=
  ⟨h.1.grown (grown_set (World.grownBy.refl w (some X)) i u) (by
    cases hv : (Value.slice A ps.length cap).ownBlock with
    | none => exact .inl rfl
    | some k => exact .inr (someNeL (by have := hX k hv; omega))),
   fun p hp => ⟨(h.2 p hp).1.grown (grown_set (World.grownBy.refl w (some X)) i u) (.inr (Ne.symm ((h.2 p hp).1.ne_ hx (by decide)))), (h.2 p hp).2⟩⟩
theorem OwW.rd (h : OwW w B A cap ps) : RdP w w.heap.size A ps := ⟨h.1.rd, fun p hp => (h.2 p hp).1.rd⟩
theorem OwW.far (h : OwW w B A cap ps) {a : Addr} (ha : a.block < B) (u : Value) : OwW (w.setCell a u) B A cap ps := ⟨h.1.far ha u, fun p hp => ⟨(h.2 p hp).1.far ha u, (h.2 p hp).2⟩⟩
end
def DrewPs (g : Nat) (w : World) (e : Ending) (w' : World) : Prop := ∃ (ps : List Pst) (A : Option Addr) (cap : Nat), e = .returned (.slice A ps.length cap) ∧ ps.length ≤ 5 ∧ OwW w' w.heap.size A cap ps ∧ Crs w' g ∧ w.grownBy w' (some g)
end Go.Proofs.YtgpledgjpjifcaaGreatDoor
