/- A posting turned round: plain, and the program's walk. -/
import Derived.Test.YtgpledgjpjifcaaGreatDoorRows
import Derived.Test.YtgpledgjpjifcaaGreatDoorLed
import Derived.Test.YtgpledgjpjifcaaGreatDoorBase2
import Derived.RegionTactic
namespace Go.Proofs.YtgpledgjpjifcaaGreatDoor
open Go.RowKit

def negL (x : Line) : Line := ⟨x.Kind, x.Ch, -x.Amt⟩
def negWL (x : Line) : Line := ⟨x.Kind, x.Ch, wrap64 (-x.Amt)⟩
def revOk (z id : Int) (l : List Line) : Bool := postingB z l && postingB id (l.map negL)
def revId (z id : Int) (l : List Line) : Int := if revOk z id l = true then id else 0
def revLines (z id : Int) (l : List Line) : List Line := if revOk z id l = true then l.map negL else []
def RevPost (w : World) (z2 : Int) (l2 : List Line) (ok : Bool) (e : Ending) (w' : World) : Prop :=
  ∃ A cap, e = .returned (.tuple #[.agg #[.int .i64 z2, .slice A l2.length cap], .bool ok]) ∧ Ow w' w.heap.size 84 3 (.slice A l2.length cap) (l2.map Line.cells) ∧ Below w.heap.size w w'
theorem rev_no {w : World} {z id : Int} {l : List Line} {e : Ending} {w' : World} (h : revOk z id l = false) (hp : RevPost w 0 [] false e w') : RevPost w (revId z id l) (revLines z id l) (revOk z id l) e w' := by
  rw [show revId z id l = 0 by simp [revId, h], show revLines z id l = [] by simp [revLines, h], h]
  exact hp
theorem rev_yes {w : World} {z id : Int} {l : List Line} {e : Ending} {w' : World} (h : revOk z id l = true) (hp : RevPost w id (l.map negL) true e w') : RevPost w (revId z id l) (revLines z id l) (revOk z id l) e w' := by
  rw [show revId z id l = id by simp [revId, h], show revLines z id l = l.map negL by simp [revLines, h], h]
  exact hp
theorem wrap_small (n : Int) (h1 : -1125899906842624 ≤ n) (h2 : n ≤ 1125899906842624) : wrap64 n = n := IntWalk.wrap64_in n ⟨by omega, by omega⟩
theorem negWL_one {x : Line} (h1 : -1125899906842624 ≤ x.Amt) (h2 : x.Amt ≤ 1125899906842624) : negWL x = negL x := by
  have e := wrap_small (-x.Amt) (by omega) (by omega)
  unfold negWL negL
  rw [e]
theorem negWL_eq {l : List Line} (h : linesB l = true) : l.map negWL = l.map negL := by
  refine List.map_congr_left fun x hx => ?_
  obtain ⟨k, hk, rfl⟩ := List.mem_iff_getElem.1 hx
  obtain ⟨_, _, m1, m2⟩ := linesB_at h hk
  exact negWL_one m1 m2
/-- The lines, the first k of them turned round. -/
def mixed (k : Nat) (l : List Line) : List Line := (l.take k).map negWL ++ l.drop k
theorem mixed_len (k : Nat) (l : List Line) (h : k ≤ l.length) : (mixed k l).length = l.length := by
  simp [mixed]; omega
theorem mixed_at {k : Nat} {l : List Line} (h : k < l.length) : (mixed k l)[k]? = some l[k] := by
  unfold mixed
  rw [List.getElem?_append_right (by simp; omega)]
  simp [Nat.min_eq_left (Nat.le_of_lt h), List.getElem?_eq_getElem h]
theorem mixed_succ {k : Nat} {l : List Line} (h : k < l.length) : (mixed k l).set k (negWL l[k]) = mixed (k + 1) l := by
  unfold mixed
  rw [List.take_succ_eq_append_getElem h, List.map_append, List.append_assoc, List.set_append_right _ _ (by simp; omega)]
  congr 1
  rw [show k - ((l.take k).map negWL).length = 0 by simp; omega, List.drop_eq_getElem_cons h]
  rfl
theorem mixed_cells {k : Nat} {l : List Line} (h : k < l.length) : ((mixed k l).map Line.cells)[k]? = some l[k].cells := by
  rw [List.getElem?_map, mixed_at h]
  rfl
theorem mixed_set {k : Nat} {l : List Line} (h : k < l.length) : ((mixed k l).map Line.cells).set k (l[k].cells.set 2 (.int .i64 (wrap64 (-l[k].Amt)))) = (mixed (k + 1) l).map Line.cells := by
  rw [← mixed_succ h, List.map_set]
  rfl
theorem line_one (l : List Line) : ∀ u ∈ (l.map Line.cells).flatten, u.oneCell' = true := by
  intro u hu
  obtain ⟨r, hr, hu⟩ := List.mem_flatten.1 hu
  obtain ⟨x, _, rfl⟩ := List.mem_map.1 hr
  simp only [Line.cells, List.mem_cons, List.not_mem_nil, or_false] at hu
  rcases hu with rfl | rfl | rfl <;> rfl
end Go.Proofs.YtgpledgjpjifcaaGreatDoor
