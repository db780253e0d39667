/- Postings posted one after the other; an account's balance: the program's walks. -/
import Derived.Test.YtgpledgjpjifcaaGreatDoorRows
import Derived.Test.YtgpledgjpjifcaaGreatDoorPost
import Derived.Deep.RegionHeld3
namespace Go.Proofs.YtgpledgjpjifcaaGreatDoor
open Go.RowKit

theorem pAll_yes {p : Int × List Line} {ps : List (Int × List Line)} {z : Int} {l : List Line} {n : Int} (h : postCode z l p.1 p.2 = 0) : pAll (p :: ps) z l n = pAll ps (postZ z l p.1 p.2) (postL z l p.1 p.2) (n + 1) := by rw [pAll, if_pos h]
theorem pAll_no {p : Int × List Line} {ps : List (Int × List Line)} {z : Int} {l : List Line} {n : Int} (h : ¬ postCode z l p.1 p.2 = 0) : pAll (p :: ps) z l n = pAll ps z l n := by rw [pAll, if_neg h]
theorem pl_dropP {ps : List Pst} {k : Nat} (hk : k < ps.length) : (ps.drop k).map Pst.pl = (ps[k].Id, ps[k].L) :: (ps.drop (k + 1)).map Pst.pl := by rw [List.drop_eq_getElem_cons hk]; rfl
theorem Ow.asideP {w' : World} {B X n i : Nat} {e t : TypeId} {v u : Value} {cs : Array Value} {rows : List (List Value)} (h : Ow w' B e n v rows) (hx : w'.heap[X]? = some (.cells cs t (0, 0))) (hne : e ≠ t) : Ow (w'.setCell ⟨X, i, none⟩ u) B e n v rows :=
  h.grown (grown_set (World.grownBy.refl w' (some X)) i u) (.inr (Ne.symm (h.ne_ hx hne)))
theorem cell_asideP {w : World} {p : Addr} {b i : Nat} {u v : Value} (h : p.block ≠ b) (k : w.cell? p = some v) : (w.setCell ⟨b, i, none⟩ u).cell? p = some v := by
  rw [← k]
  exact World.cell?_of_block (Below.heap_setCell w ⟨b, i, none⟩ u p.block h)
theorem cell_undrewP {w : World} {p : Addr} {v : Value} (k : w.cell? p = some v) : w.drew.cell? p = some v := k
theorem sizeUpQ (w : World) (o : Obj) : (w.alloc o).heap.size = w.heap.size + 1 := by simp
end Go.Proofs.YtgpledgjpjifcaaGreatDoor
