/- Slices of postings: the laws' own helpers. -/
import Derived.Test.YtgpledgjpjifcaaGreatDoorRows
import Derived.Test.YtgpledgjpjifcaaGreatDoorPst
import Derived.Test.YtgpledgjpjifcaaGreatDoorBase2
namespace Go.Proofs.YtgpledgjpjifcaaGreatDoor
open Go.RowKit

theorem sub_pos_f {q n : Int} (h : n ≤ q) : decide (q - n < 0) = false := decide_eq_false (by omega)
end Go.Proofs.YtgpledgjpjifcaaGreatDoor
