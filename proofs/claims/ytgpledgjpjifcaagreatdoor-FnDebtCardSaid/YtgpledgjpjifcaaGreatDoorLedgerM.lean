/- Lines, postings, ledgers: the laws' helpers that mark. -/
import Derived.Test.YtgpledgjpjifcaaGreatDoorRows
import Derived.Test.YtgpledgjpjifcaaGreatDoorLedgerF
namespace Go.Proofs.YtgpledgjpjifcaaGreatDoor
open Go.RowKit

theorem sizeUp (w : World) (o : Obj) : (w.alloc o).heap.size = w.heap.size + 1 := by simp
end Go.Proofs.YtgpledgjpjifcaaGreatDoor
