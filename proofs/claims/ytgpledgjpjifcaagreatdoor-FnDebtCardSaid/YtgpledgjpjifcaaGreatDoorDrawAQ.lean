/- What the laws on postings draw. -/
import Derived.Test.YtgpledgjpjifcaaGreatDoorRows
import Derived.Test.YtgpledgjpjifcaaGreatDoorDrawAP
namespace Go.Proofs.YtgpledgjpjifcaaGreatDoor
open Go.RowKit

theorem two_selfL {W : World} {R : Nat} {a b x y : Value} {t : TypeId} (hr : W.heap[R]? = some (.cells #[x, y] t (0, 0))) :
    (W.setCell ⟨R, 0, none⟩ a).cell? ⟨R, 0, none⟩ = some a ∧ ((W.setCell ⟨R, 0, none⟩ a).setCell ⟨R, 1, none⟩ b).cell? ⟨R, 1, none⟩ = some b := by
  have h1 : (W.setCell ⟨R, 0, none⟩ a).heap[R]? = some (.cells #[a, y] t (0, 0)) := heap_set hr
  have h2 : ((W.setCell ⟨R, 0, none⟩ a).setCell ⟨R, 1, none⟩ b).heap[R]? = some (.cells #[a, b] t (0, 0)) := heap_set h1
  exact ⟨blk_cell h1 0, blk_cell h2 1⟩
theorem Ow.capL {w : World} {B size cap : Nat} {e : TypeId} {A : Option Addr} {rows : List (List Value)} {n : Nat} (h : Ow w B e size (.slice A n cap) rows) : rows.length ≤ cap := by
  obtain ⟨_, _, hv, _, hc, _⟩ := h.form
  injection hv with _ _ h3
  rw [h3]
  exact hc
theorem OwW.caps {w : World} {B cap : Nat} {A : Option Addr} {ps : List Pst} (h : OwW w B A cap ps) : ∀ p ∈ ps, p.L.length ≤ p.cap := fun p hp => by
  have h1 : (p.L.map Line.cells).length ≤ p.cap := Ow.capL (h.2 p hp).1
  rwa [List.length_map] at h1
end Go.Proofs.YtgpledgjpjifcaaGreatDoor
