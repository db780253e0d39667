/- What the laid tables of a row give the walks. -/
import Derived.Test.YtgpledgjpjifcaaDoorRows
import Derived.Test.YtgpledgjpjifcaaDoorNumI
import Derived.Test.YtgpledgjpjifcaaDoorDRow
namespace Go.Proofs.YtgpledgjpjifcaaDoor
open Go.RowKit

theorem Ld.laid {n1 n2 : String} {d1 d2 : DataW Unit} {r : List (String × DataW Unit)} {w : World}
    (h : laidMetH Tryd.prog ((n1, d1) :: (n2, d2) :: ("internal/strconv.uint64pow10", Lib.tabData .u64 Lib.pow10Tab) :: r) w) (hs : w.ShapedOpen Tryd.prog)
    (hp : (((n1, d1) :: (n2, d2) :: ("internal/strconv.uint64pow10", Lib.tabData .u64 Lib.pow10Tab) :: r).all fun x => x.2.handleName?.isNone) = true) : Ld w := by
  rw [MakeChecks.laidMetH_plain _ _ _ hp] at h
  exact ⟨Lib.tabIs_of_head (t := 206) (n := 20) (e := 191) gPow (by kernel_rfl) Tryd.underlying206 Tryd.underlying191 (by kernel_rfl) (by kernel_rfl) h.tail.tail,
    Go.Proofs.cell_of_shapedOpen_int (zero := #[.int .i64 0]) (t := 3) hs (of_decide_eq_true (by kernel_rfl)) (by kernel_rfl) rfl (by kernel_rfl) (by kernel_rfl) Tryd.underlying3⟩
end Go.Proofs.YtgpledgjpjifcaaDoor
