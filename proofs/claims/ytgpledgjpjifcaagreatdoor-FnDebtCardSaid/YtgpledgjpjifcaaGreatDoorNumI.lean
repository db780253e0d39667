/- Numbers as text: the program's walk; what the laid table gives. -/
import Derived.Test.YtgpledgjpjifcaaGreatDoorRows
import Derived.Test.YtgpledgjpjifcaaGreatDoorBase
import Derived.Test.YtgpledgjpjifcaaGreatDoorAmt
import Derived.Test.YtgpledgjpjifcaaGreatDoorNumS
import Derived.Test.YtgpledgjpjifcaaGreatDoorShelf
namespace Go.Proofs.YtgpledgjpjifcaaGreatDoor
open Go.RowKit

structure Ld (w : World) : Prop where
  tab : Lib.TabIs Tryz.prog w "internal/strconv.uint64pow10" .u64 Lib.pow10Tab
  ml : ∃ m : Int, w.cell? ⟨0, 0, none⟩ = some (.int .i64 m)
theorem gPow : Tryz.prog.globalNamed "internal/strconv.uint64pow10" = some 5 := by kernel_rfl
theorem Ld.below {w w' : World} (h : Ld w) (hb : Below w.heap.size w w') : Ld w' := ⟨Go.Joins.tab_stays gPow h.tab hb (Nat.le_refl _), h.ml.imp fun _ hm => (hb.cell (p := ⟨0, 0, none⟩) (Lib.lt_of_cell hm)).trans hm⟩
theorem below_grow (w : World) (k : Nat) (os : Array Obj) : Below w.heap.size w (Go.Sort.grow (w.drewN k) os) :=
  ⟨rfl, rfl, rfl, by simp [Go.Sort.grow], fun n hn => by
    show (w.heap ++ os)[n]? = w.heap[n]?
    rw [Array.getElem?_append_left hn]⟩
theorem i_NumText (n : Int) (w : World) (h : Ld w) : Calls Tryz.prog 34 #[.int .i64 n] w (NumP n w) := by
  cases hb : inB n (-1125899906842624) 1125899906842624
  · have HE := Lib.hid (numL_out (n := n) (by rw [← inB_iff, hb]; simp))
    go_enter Tryz.func34, Tryz.ntmps34
    go_wp2_with (go_at_call 79; refine (i_in _ _ _ _).mono ?_; rintro e w' ⟨rfl, rfl⟩)
    go_ret
    exact ⟨by rw [HE.out]; rfl, by (first | ((repeat' first | (with_reducible (first | exact Below.refl _ _ | assumption | refine Below.setCell ?_ ?_ _ | refine Below.alloc ?_ ?_ _ | refine Below.drew ?_ | refine below_drewN ?_ _ | refine Below.trans ?_ (Below.mono (by assumption) ?_))) | omega | (simp; omega) | (simp; done)); done) | (repeat' first | exact Below.refl _ _ | assumption | refine Below.setCell ?_ (by first | omega | (simp; omega) | (simp; done)) _ | refine Below.alloc ?_ (by first | omega | (simp; omega) | (simp; done)) _ | refine Below.drew ?_ | refine below_drewN ?_ _ | refine Below.trans ?_ (Below.mono (by assumption) (by first | omega | (simp; omega) | (simp; done)))))⟩
  · have hr := inB_iff.1 hb
    have HE := Lib.hid (numL_in hr)
    have hc := Tryz.strconv_Itoa n (by omega) (by omega) w h.tab
    have HC := Lib.hid hc
    clear hc
    go_enter Tryz.func34, Tryz.ntmps34
    go_wp2_with (go_at_call 79; refine (i_in _ _ _ _).mono ?_; rintro e w' ⟨rfl, rfl⟩)
    refine HC.out.mono ?_
    rintro e w1 ⟨rfl, k, os, rfl⟩
    go_wp2_with fail
    go_ret
    exact ⟨by rw [HE.out]; rfl, below_grow w k os⟩
end Go.Proofs.YtgpledgjpjifcaaGreatDoor
