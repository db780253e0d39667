/- Lines merged: the program's walk. -/
import Derived.Test.YtgpledgjpjifcaaGreatDoorRows
import Derived.Test.YtgpledgjpjifcaaGreatDoorMerge
import Derived.Test.YtgpledgjpjifcaaGreatDoorSteady
import Derived.Test.YtgpledgjpjifcaaGreatDoorBase2
import Derived.Test.YtgpledgjpjifcaaGreatDoorLedgerF
import Derived.RegionTactic
import Derived.IntWalk
namespace Go.Proofs.YtgpledgjpjifcaaGreatDoor
open Go.RowKit

def lenM : Value → Nat
  | .slice _ n _ => n
  | _ => 0
theorem Rd.tail {w : World} {B b off : Nat} {x : Line} {l : List Line} (h : Rd w B 3 (some ⟨b, off, none⟩) ((x :: l).map Line.cells)) (A : Option Addr) (hA : 0 < l.length → A = some ⟨b, off + 3, none⟩) : Rd w B 3 A (l.map Line.cells) := by
  refine ⟨Line.uni l, fun hn => ?_⟩
  rw [List.length_map] at hn
  obtain ⟨b', off', e, hb, hc⟩ := h.2 (by simp)
  injection e with e
  injection e with e1 e2
  subst e1 e2
  refine ⟨b, off + 3, hA hn, hb, fun i r j v h1 h2 => ?_⟩
  have := hc (i + 1) r j v (by simpa using h1) h2
  rw [Nat.succ_mul] at this
  rw [show off + 3 + i * 3 + j = off + (i * 3 + 3) + j by omega]
  exact this
theorem Rd.head {w : World} {B : Nat} {A : Option Addr} {x : Line} {l : List Line} (h : Rd w B 3 A ((x :: l).map Line.cells)) : ∃ b off, A = some ⟨b, off, none⟩ ∧ b < B ∧ w.cell? ⟨b, off, none⟩ = some (.int .i64 x.Kind) ∧ w.cell? ⟨b, off + 1, none⟩ = some (.int .i64 x.Ch) ∧ w.cell? ⟨b, off + 2, none⟩ = some (.int .i64 x.Amt) := by
  obtain ⟨b, off, e, hb, c0, c1, c2⟩ := Line.rd h (k := 0) (by simp)
  rw [Nat.zero_mul] at c0 c1 c2
  exact ⟨b, off, e, hb, c0, c1, c2⟩
theorem mapApp {o : List Line} {x : Line} {r : Option (List Line)} : (r.map (x :: ·)).map (o ++ ·) = r.map ((o ++ [x]) ++ ·) := by
  cases r <;> simp
def MrgPost (w : World) (r : Option (List Line)) (e : Ending) (w' : World) : Prop :=
  ∃ (o : List Line) (A : Option Addr) (cap : Nat), e = .returned (.tuple #[.slice A o.length cap, .bool r.isSome]) ∧ (∀ x, r = some x → o = x) ∧ Ow w' w.heap.size 84 3 (.slice A o.length cap) (o.map Line.cells) ∧ Below w.heap.size w w'
end Go.Proofs.YtgpledgjpjifcaaGreatDoor
