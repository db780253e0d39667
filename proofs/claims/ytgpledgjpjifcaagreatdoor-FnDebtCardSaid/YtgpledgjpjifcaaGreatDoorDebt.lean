/- Debts: the laws' own helpers. -/
import Derived.Test.YtgpledgjpjifcaaGreatDoorRows
import Derived.Test.YtgpledgjpjifcaaGreatDoorAmt
import Derived.StillTailTactics
namespace Go.Proofs.YtgpledgjpjifcaaGreatDoor
open Go.RowKit

structure Debt where
  From : Int
  To : Int
  Amt : Int
def Debt.cells (d : Debt) : List Value := [.int .i64 d.From, .int .i64 d.To, .int .i64 d.Amt]
theorem Debt.uni (l : List Debt) : ∀ r ∈ l.map Debt.cells, r.length = 3 := by
  intro r hr
  obtain ⟨d, _, rfl⟩ := List.mem_map.1 hr
  rfl
theorem Debt.of_flat {cs : List Value} (h0 : flat [true, true, true] cs) : ∃ d : Debt, cs = d.cells ∧ True := by
  obtain ⟨a0, cs0, e0, h1⟩ := flat_i h0
  obtain ⟨a1, cs1, e1, h2⟩ := flat_i h1
  obtain ⟨a2, cs2, e2, h3⟩ := flat_i h2
  have e3 := flat_nil h3
  subst e0 e1 e2 e3
  exact ⟨⟨a0, a1, a2⟩, rfl, trivial⟩
theorem Debt.rd {w : World} {B : Nat} {A : Option Addr} {l : List Debt} (h : Rd w B 3 A (l.map Debt.cells)) {k : Nat} (hk : k < l.length) :
    ∃ b off, A = some ⟨b, off, none⟩ ∧ b < B ∧ w.cell? ⟨b, off + k * 3, none⟩ = some (.int .i64 l[k].From) ∧ w.cell? ⟨b, off + k * 3 + 1, none⟩ = some (.int .i64 l[k].To) ∧ w.cell? ⟨b, off + k * 3 + 2, none⟩ = some (.int .i64 l[k].Amt) := by
  obtain ⟨b, off, e, hb, hc⟩ := h.2 (by rw [List.length_map]; omega)
  have hk' : (l.map Debt.cells)[k]? = some l[k].cells := by rw [List.getElem?_map, List.getElem?_eq_getElem hk]; rfl
  exact ⟨b, off, e, hb, hc k _ 0 _ hk' rfl, hc k _ 1 _ hk' rfl, hc k _ 2 _ hk' rfl⟩
theorem Debt.fl (l : List Debt) {k : Nat} (hk : k < l.length) : (l.map Debt.cells).flatten[k * 3]? = some (.int .i64 l[k].From) ∧ (l.map Debt.cells).flatten[k * 3 + 1]? = some (.int .i64 l[k].To) ∧ (l.map Debt.cells).flatten[k * 3 + 2]? = some (.int .i64 l[k].Amt) := by
  have hk' : (l.map Debt.cells)[k]? = some l[k].cells := by rw [List.getElem?_map, List.getElem?_eq_getElem hk]; rfl
  exact ⟨flatten_get _ 3 (Debt.uni l) k 0 _ hk' (by omega), flatten_get _ 3 (Debt.uni l) k 1 _ hk' (by omega), flatten_get _ 3 (Debt.uni l) k 2 _ hk' (by omega)⟩
end Go.Proofs.YtgpledgjpjifcaaGreatDoor
