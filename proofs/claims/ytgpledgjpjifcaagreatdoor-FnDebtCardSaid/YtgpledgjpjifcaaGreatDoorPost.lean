/- One posting posted, postings posted, an account's balance: the program's walks. -/
import Derived.Test.YtgpledgjpjifcaaGreatDoorRows
import Derived.Test.YtgpledgjpjifcaaGreatDoorMrg
import Derived.Test.YtgpledgjpjifcaaGreatDoorLed
import Derived.Test.YtgpledgjpjifcaaGreatDoorRev
import Derived.Test.YtgpledgjpjifcaaGreatDoorPst
import Derived.Test.YtgpledgjpjifcaaGreatDoorAccEq
namespace Go.Proofs.YtgpledgjpjifcaaGreatDoor
open Go.RowKit

theorem postCode_1 {z pz : Int} {l pl : List Line} (h : ledgerB z l = false ∨ postingB pz pl = false) : postCode z l pz pl = 1 ∧ postL z l pz pl = [] ∧ postZ z l pz pl = 0 := by
  have h1 : postCode z l pz pl = 1 := by
    unfold postCode
    rw [if_neg]
    rintro ⟨h1, h2⟩
    rcases h with h | h
    · rw [h1] at h; cases h
    · rw [h2] at h; cases h
  exact ⟨h1, by unfold postL; rw [if_neg (by rw [h1]; decide)], by unfold postZ; rw [if_neg (by rw [h1]; decide)]⟩
theorem postCode_2 {z pz : Int} {l pl : List Line} (h1 : ledgerB z l = true) (h2 : postingB pz pl = true) (h3 : pz ≤ z) : postCode z l pz pl = 2 ∧ postL z l pz pl = [] ∧ postZ z l pz pl = 0 := by
  have h : postCode z l pz pl = 2 := by unfold postCode; rw [if_pos ⟨h1, h2⟩, if_pos h3]
  exact ⟨h, by unfold postL; rw [if_neg (by rw [h]; decide)], by unfold postZ; rw [if_neg (by rw [h]; decide)]⟩
theorem postCode_3 {z pz : Int} {l pl : List Line} (h1 : ledgerB z l = true) (h2 : postingB pz pl = true) (h3 : ¬ pz ≤ z) (h4 : mergeF l pl = none ∨ ∃ r, mergeF l pl = some r ∧ 320 < r.length) : postCode z l pz pl = 3 ∧ postL z l pz pl = [] ∧ postZ z l pz pl = 0 := by
  have h : postCode z l pz pl = 3 := by
    unfold postCode
    rw [if_pos ⟨h1, h2⟩, if_neg h3]
    rcases h4 with h4 | ⟨r, h4, h5⟩
    · rw [h4]
    · rw [h4]; simp only; rw [if_pos h5]
  exact ⟨h, by unfold postL; rw [if_neg (by rw [h]; decide)], by unfold postZ; rw [if_neg (by rw [h]; decide)]⟩
theorem postCode_0 {z pz : Int} {l pl r : List Line} (h1 : ledgerB z l = true) (h2 : postingB pz pl = true) (h3 : ¬ pz ≤ z) (h4 : mergeF l pl = some r) (h5 : r.length ≤ 320) : postCode z l pz pl = 0 ∧ postL z l pz pl = r ∧ postZ z l pz pl = pz := by
  have h : postCode z l pz pl = 0 := by
    unfold postCode
    rw [if_pos ⟨h1, h2⟩, if_neg h3, h4]
    simp only
    rw [if_neg (by omega)]
  exact ⟨h, by unfold postL; rw [if_pos h, h4]; rfl, by unfold postZ; rw [if_pos h]⟩
theorem Ow.cap_ {w : World} {B size cap : Nat} {e : TypeId} {A : Option Addr} {rows : List (List Value)} {n : Nat} (h : Ow w B e size (.slice A n cap) rows) : rows.length ≤ cap := by
  obtain ⟨_, _, hv, _, hc, _⟩ := h.form
  injection hv with _ _ h3
  rw [h3]
  exact hc
def LedP (w : World) (z : Int) (l : List Line) (c : Int) (e : Ending) (w' : World) : Prop :=
  ∃ A cap, e = .returned (.tuple #[.agg #[.int .i64 z, .slice A l.length cap], .int .i64 c]) ∧ l.length ≤ cap ∧ Ow w' w.heap.size 84 3 (.slice A l.length cap) (l.map Line.cells) ∧ Below w.heap.size w w'
theorem two_selfP {W : World} {R : Nat} {a b x y : Value} {t : TypeId} (hr : W.heap[R]? = some (.cells #[x, y] t (0, 0))) :
    (W.setCell ⟨R, 0, none⟩ a).cell? ⟨R, 0, none⟩ = some a ∧ ((W.setCell ⟨R, 0, none⟩ a).setCell ⟨R, 1, none⟩ b).cell? ⟨R, 1, none⟩ = some b := by
  have h1 : (W.setCell ⟨R, 0, none⟩ a).heap[R]? = some (.cells #[a, y] t (0, 0)) := heap_set hr
  have h2 : ((W.setCell ⟨R, 0, none⟩ a).setCell ⟨R, 1, none⟩ b).heap[R]? = some (.cells #[a, b] t (0, 0)) := heap_set h1
  exact ⟨blk_cell h1 0, blk_cell h2 1⟩
end Go.Proofs.YtgpledgjpjifcaaGreatDoor
