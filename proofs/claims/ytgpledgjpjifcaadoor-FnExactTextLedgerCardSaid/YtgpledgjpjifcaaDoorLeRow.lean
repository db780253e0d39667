/- What the laid variables of a row that reads numbers give the walks. -/
import Derived.Test.YtgpledgjpjifcaaDoorRows
import Derived.Test.YtgpledgjpjifcaaDoorNumP
import Derived.Test.YtgpledgjpjifcaaDoorLdRow
namespace Go.Proofs.YtgpledgjpjifcaaDoor
open Go.RowKit

theorem gRange : Tryd.prog.globalNamed "strconv.ErrRange" = some 4 := by kernel_rfl
theorem gSyn : Tryd.prog.globalNamed "strconv.ErrSyntax" = some 3 := by kernel_rfl
theorem star_err : "*" ++ "errors.errorString" = "*errors.errorString" := by decide
theorem row_err (u : TypeId) (h : Tryd.prog.typeName? 3 u = some "*errors.errorString") : u = 210 :=
  typeName_ptr_named (nm := "errors.errorString") (by rw [star_err]; kernel_rfl) (by kernel_rfl) (by decide) u (by rw [star_err]; exact h)
theorem Le.laid {n1 n2 n4 : String} {d1 d2 d4 : DataW Unit} {t1 t2 : List UInt8} {r : List (String × DataW Unit)} {w : World}
    (h : laidMetH Tryd.prog ((n1, d1) :: (n2, d2) :: ("internal/strconv.uint64pow10", Lib.tabData .u64 Lib.pow10Tab) :: (n4, d4) ::
      ("strconv.ErrRange", .iface "*errors.errorString" (.ptr (.agg [.lit (.string t1)]))) :: ("strconv.ErrSyntax", .iface "*errors.errorString" (.ptr (.agg [.lit (.string t2)]))) :: r) w)
    (hs : w.ShapedOpen Tryd.prog)
    (hp : (((n1, d1) :: (n2, d2) :: ("internal/strconv.uint64pow10", Lib.tabData .u64 Lib.pow10Tab) :: (n4, d4) ::
      ("strconv.ErrRange", DataW.iface "*errors.errorString" (.ptr (.agg [.lit (.string t1)]))) :: ("strconv.ErrSyntax", .iface "*errors.errorString" (.ptr (.agg [.lit (.string t2)]))) :: r).all fun x => x.2.handleName?.isNone) = true) : Le w := by
  have hL := Ld.laid h hs hp
  rw [MakeChecks.laidMetH_plain _ _ _ hp] at h
  have h5 := h.tail.tail.tail.tail
  obtain ⟨a, sa, hva, _, _, _⟩ := laid_sentinel (ti := 151) (tp := 210) (te := 212) (ts := 9) h5 gRange (by kernel_rfl) Tryd.underlying151 row_err Tryd.underlying210 Tryd.underlying212 rfl rfl Tryd.underlying9 (by kernel_rfl) (by kernel_rfl)
  obtain ⟨b, sb, hvb, _, _, _⟩ := laid_sentinel (ti := 151) (tp := 210) (te := 212) (ts := 9) h5.tail gSyn (by kernel_rfl) Tryd.underlying151 row_err Tryd.underlying210 Tryd.underlying212 rfl rfl Tryd.underlying9 (by kernel_rfl) (by kernel_rfl)
  have ca := World.var?_cell gRange hva 0
  have cb := World.var?_cell gSyn hvb 0
  exact ⟨hL, ⟨_, by simpa using cb, Or.inr ⟨_, _, rfl⟩⟩, ⟨_, by simpa using ca, Or.inr ⟨_, _, rfl⟩⟩⟩
end Go.Proofs.YtgpledgjpjifcaaDoor
