/- Moves: the laws' own helpers. -/
import Derived.Test.YtombjkokncepnaaRows
import Derived.Test.YtombjkokncepnaaCoin
namespace Go.Proofs.Ytombjkokncepnaa
open Go.RowKit

structure Move where
  From : Int
  To : Int
  Amt : Int
  Ppm : Int
def Move.cells (d : Move) : List Value := [.int .i64 d.From, .int .i64 d.To, .int .i64 d.Amt, .int .i64 d.Ppm]
theorem Move.uni (l : List Move) : ∀ r ∈ l.map Move.cells, r.length = 4 := by
  intro r hr
  obtain ⟨d, _, rfl⟩ := List.mem_map.1 hr
  rfl
theorem Move.of_flat {cs : List Value} (h0 : flat [true, true, true, true] cs) : ∃ d : Move, cs = d.cells ∧ True := by
  obtain ⟨a0, cs0, e0, h1⟩ := flat_i h0
  obtain ⟨a1, cs1, e1, h2⟩ := flat_i h1
  obtain ⟨a2, cs2, e2, h3⟩ := flat_i h2
  obtain ⟨a3, cs3, e3, h4⟩ := flat_i h3
  have e4 := flat_nil h4
  subst e0 e1 e2 e3 e4
  exact ⟨⟨a0, a1, a2, a3⟩, rfl, trivial⟩
theorem Move.rd {w : World} {B : Nat} {A : Option Addr} {l : List Move} (h : Rd w B 4 A (l.map Move.cells)) {k : Nat} (hk : k < l.length) :
    ∃ b off, A = some ⟨b, off, none⟩ ∧ b < B ∧ w.cell? ⟨b, off + k * 4, none⟩ = some (.int .i64 l[k].From) ∧ w.cell? ⟨b, off + k * 4 + 1, none⟩ = some (.int .i64 l[k].To) ∧ w.cell? ⟨b, off + k * 4 + 2, none⟩ = some (.int .i64 l[k].Amt) ∧ w.cell? ⟨b, off + k * 4 + 3, none⟩ = some (.int .i64 l[k].Ppm) := by
  obtain ⟨b, off, e, hb, hc⟩ := h.2 (by rw [List.length_map]; omega)
  have hk' : (l.map Move.cells)[k]? = some l[k].cells := by rw [List.getElem?_map, List.getElem?_eq_getElem hk]; rfl
  exact ⟨b, off, e, hb, hc k _ 0 _ hk' rfl, hc k _ 1 _ hk' rfl, hc k _ 2 _ hk' rfl, hc k _ 3 _ hk' rfl⟩
theorem Move.fl (l : List Move) {k : Nat} (hk : k < l.length) : (l.map Move.cells).flatten[k * 4]? = some (.int .i64 l[k].From) ∧ (l.map Move.cells).flatten[k * 4 + 1]? = some (.int .i64 l[k].To) ∧ (l.map Move.cells).flatten[k * 4 + 2]? = some (.int .i64 l[k].Amt) ∧ (l.map Move.cells).flatten[k * 4 + 3]? = some (.int .i64 l[k].Ppm) := by
  have hk' : (l.map Move.cells)[k]? = some l[k].cells := by rw [List.getElem?_map, List.getElem?_eq_getElem hk]; rfl
  exact ⟨flatten_get _ 4 (Move.uni l) k 0 _ hk' (by omega), flatten_get _ 4 (Move.uni l) k 1 _ hk' (by omega), flatten_get _ 4 (Move.uni l) k 2 _ hk' (by omega), flatten_get _ 4 (Move.uni l) k 3 _ hk' (by omega)⟩
end Go.Proofs.Ytombjkokncepnaa
