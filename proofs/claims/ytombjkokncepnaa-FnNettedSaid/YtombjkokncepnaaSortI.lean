/- sort.Ints on a slice of the call's own. -/
import Derived.Test.YtombjkokncepnaaRows
import Derived.Test.YtombjkokncepnaaBookA
import Derived.Test.YtombjkokncepnaaShelf
import Derived.Sort.OwnSortedInts
namespace Go.Proofs.Ytombjkokncepnaa
open Go.RowKit Go.Sort

theorem ints_flat (l : List Int) : (l.map intCells).flatten = l.map (Value.int .i64) := by
  induction l with
  | nil => rfl
  | cons x l ih => rw [List.map_cons, List.flatten_cons, ih]; rfl
theorem sort_Ints_none (p : Option Addr) (cap : Nat) (w : World) :
    Calls Try.prog 55 #[.slice p 0 cap] w fun e w' => e = .returned (.tuple #[]) ∧ w = w' :=
  (Try.sort_Ints_none p cap w).mono fun _ _ ⟨h1, h2⟩ => ⟨h1, h2.symm⟩
theorem sorted_own {w : World} {B g n cap : Nat} {l : List Int} (how : Ow w B 3 1 (.slice (some ⟨g, 0, none⟩) n cap) (l.map intCells)) (hn : l.length = n) (hl : l.length ≤ 1048576) :
    Calls Try.prog 55 #[.slice (some ⟨g, 0, none⟩) n cap] w fun e w' => e = .returned (.tuple #[]) ∧ Ow w' B 3 1 (.slice (some ⟨g, 0, none⟩) n cap) ((l.mergeSort (fun x y => decide (x ≤ y))).map intCells) ∧ w.grownBy w' (some g) := by
  subst hn
  rcases how.2.2 with ⟨hv, _⟩ | ⟨g', cap', cur, hv, hg, hh, hn, hm, hs, ht⟩
  · cases hv
  · injection hv with e1 e2 e3
    injection e1 with e1
    injection e1 with e1
    subst e1 e3
    rw [List.length_map] at hn ht
    rw [ints_flat, Nat.mul_one] at ht
    have hH : Holds (Value.int .i64) w g 0 l.toArray := holds_of_blockI hh ht
    refine (Try.sort_Ints g 0 cap l w hH (Array.getElem?_eq_some_iff.1 hh).1 (by omega)).mono ?_
    rintro e w' ⟨he, n, os, rfl⟩
    refine ⟨he, ⟨ints_uni _, ?_⟩, grownBy_sortedI _⟩
    rw [ints_flat, List.length_map, List.length_mergeSort]
    exact ownsRow_sortedI (List.length_mergeSort l) hg hh hn hm hs
end Go.Proofs.Ytombjkokncepnaa
