/- Coins and purses: the laws' own helpers. -/
import Derived.Test.YtplchgkppkibnaaRows
import Derived.Test.YtplchgkppkibnaaAmt
import Derived.StillTailTactics
namespace Go.Proofs.Ytplchgkppkibnaa
open Go.RowKit

structure Coin where
  At : Int
  Amt : Int
def Coin.cells (d : Coin) : List Value := [.int .i64 d.At, .int .i64 d.Amt]
theorem Coin.uni (l : List Coin) : ∀ r ∈ l.map Coin.cells, r.length = 2 := by
  intro r hr
  obtain ⟨d, _, rfl⟩ := List.mem_map.1 hr
  rfl
theorem Coin.of_flat {cs : List Value} (h0 : flat [true, true] cs) : ∃ d : Coin, cs = d.cells ∧ True := by
  obtain ⟨a0, cs0, e0, h1⟩ := flat_i h0
  obtain ⟨a1, cs1, e1, h2⟩ := flat_i h1
  have e2 := flat_nil h2
  subst e0 e1 e2
  exact ⟨⟨a0, a1⟩, rfl, trivial⟩
theorem Coin.rd {w : World} {B : Nat} {A : Option Addr} {l : List Coin} (h : Rd w B 2 A (l.map Coin.cells)) {k : Nat} (hk : k < l.length) :
    ∃ b off, A = some ⟨b, off, none⟩ ∧ b < B ∧ w.cell? ⟨b, off + k * 2, none⟩ = some (.int .i64 l[k].At) ∧ w.cell? ⟨b, off + k * 2 + 1, none⟩ = some (.int .i64 l[k].Amt) := by
  obtain ⟨b, off, e, hb, hc⟩ := h.2 (by rw [List.length_map]; omega)
  have hk' : (l.map Coin.cells)[k]? = some l[k].cells := by rw [List.getElem?_map, List.getElem?_eq_getElem hk]; rfl
  exact ⟨b, off, e, hb, hc k _ 0 _ hk' rfl, hc k _ 1 _ hk' rfl⟩
theorem Coin.fl (l : List Coin) {k : Nat} (hk : k < l.length) : (l.map Coin.cells).flatten[k * 2]? = some (.int .i64 l[k].At) ∧ (l.map Coin.cells).flatten[k * 2 + 1]? = some (.int .i64 l[k].Amt) := by
  have hk' : (l.map Coin.cells)[k]? = some l[k].cells := by rw [List.getElem?_map, List.getElem?_eq_getElem hk]; rfl
  exact ⟨flatten_get _ 2 (Coin.uni l) k 0 _ hk' (by omega), flatten_get _ 2 (Coin.uni l) k 1 _ hk' (by omega)⟩
end Go.Proofs.Ytplchgkppkibnaa
