/- Books: places, sums, keys: the walks. -/
import Derived.Test.YtplchgkppkibnaaRows
import Derived.Test.YtplchgkppkibnaaBookp
import Derived.Test.YtplchgkppkibnaaBase2
import Derived.Test.YtplchgkppkibnaaSteady
namespace Go.Proofs.Ytplchgkppkibnaa
open Go.RowKit

def intCells (x : Int) : List Value := [.int .i64 x]
theorem ints_uni (l : List Int) : ∀ r ∈ l.map intCells, r.length = 1 := by
  intro r hr
  obtain ⟨d, _, rfl⟩ := List.mem_map.1 hr
  rfl
theorem ints_rd {w : World} {B : Nat} {A : Option Addr} {l : List Int} (h : Rd w B 1 A (l.map intCells)) {k : Nat} (hk : k < l.length) :
    ∃ b off, A = some ⟨b, off, none⟩ ∧ b < B ∧ w.cell? ⟨b, off + k, none⟩ = some (.int .i64 l[k]) := by
  obtain ⟨b, off, e, hb, hc⟩ := h.2 (by rw [List.length_map]; omega)
  have hk' : (l.map intCells)[k]? = some (intCells l[k]) := by rw [List.getElem?_map, List.getElem?_eq_getElem hk]; rfl
  have := hc k _ 0 _ hk' rfl
  rw [Nat.mul_one, Nat.add_zero] at this
  exact ⟨b, off, e, hb, this⟩
theorem any_take_succ {α : Type} (l : List α) (p : α → Bool) {k : Nat} (hk : k < l.length) : (l.take (k + 1)).any p = ((l.take k).any p || p l[k]) := by
  rw [List.take_succ_eq_append_getElem hk, List.any_append]
  simp
theorem any_true {α : Type} (l : List α) (p : α → Bool) {k : Nat} (hk : k < l.length) (h : p l[k] = true) : l.any p = true := by
  rw [List.any_eq_true]
  exact ⟨l[k], List.getElem_mem hk, h⟩
end Go.Proofs.Ytplchgkppkibnaa
