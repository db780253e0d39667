/- Rings: the walks. -/
import Derived.Test.YtombjkokncepnaaRows
import Derived.Test.YtombjkokncepnaaNetI
import Derived.Test.YtombjkokncepnaaNetS
namespace Go.Proofs.Ytombjkokncepnaa
open Go.RowKit

set_option maxHeartbeats 2000000 in
theorem i_Rings (l : List Debt) (A : Option Addr) (cap : Nat) (w : World) (hl : l.length ≤ 1048576) (hr : Rd w w.heap.size 3 A (l.map Debt.cells)) :
    Calls Try.prog 16 #[.slice A l.length cap] w fun e w' => e = .returned (.int .i64 (ringsR l)) ∧ Below w.heap.size w w' := by
  have HR := Lib.hid hr
  clear hr
  cases hok : debtsOk l
  · have H1 := Lib.hid (show ringsR l = 0 by simp [ringsR, hok])
    have HOK := Lib.hid hok
    clear hok
    go_enter Try.func16, Try.ntmps16
    go_wp2_with fail
    refine (i_DebtsOk l _ _ _ hl HR.out).mono ?_
    rintro e w1 ⟨rfl, hb1⟩
    rw [HOK.out]
    go_wp2_with fail
    go_ret
    exact ⟨ret_int H1.out.symm, hb1⟩
  · have H1 := Lib.hid (show ringsR l = dsum l - dsum (netR l) by simp [ringsR, hok])
    have h60 := debtsOk_le hok
    have HB1 := Lib.hid (debts_amt hok)
    have HB2 := Lib.hid (netR_amt l)
    have h100 := netR_len l
    have b1 := dsum_bd (debts_amt hok) l.length
    have b2 := dsum_bd (netR_amt l) (netR l).length
    rw [List.take_length] at b1 b2
    have HOK := Lib.hid hok
    clear hok
    go_enter Try.func16, Try.ntmps16
    go_wp2_with fail
    refine (i_DebtsOk l _ _ _ hl HR.out).mono ?_
    rintro e w1 ⟨rfl, hb1⟩
    have z1 := hb1.size
    rw [HOK.out]
    go_wp2_with fail
    refine (i_debtSum l _ _ _ (by omega) HB1.out ((HR.out.below (by (first | ((repeat' first | (with_reducible (first | exact Below.refl _ _ | assumption | refine Below.setCell ?_ ?_ _ | refine Below.alloc ?_ ?_ _ | refine Below.drew ?_ | refine below_drewN ?_ _ | refine Below.trans ?_ (Below.mono (by assumption) ?_))) | omega | (simp; omega) | (simp; done)); done) | (repeat' first | exact Below.refl _ _ | assumption | refine Below.setCell ?_ (by first | omega | (simp; omega) | (simp; done)) _ | refine Below.alloc ?_ (by first | omega | (simp; omega) | (simp; done)) _ | refine Below.drew ?_ | refine below_drewN ?_ _ | refine Below.trans ?_ (Below.mono (by assumption) (by first | omega | (simp; omega) | (simp; done))))))).more (by omega))).mono ?_
    rintro e w2 ⟨rfl, hb2⟩
    have z2 := hb2.size
    go_wp2_with fail
    refine (i_Net l _ _ _ hl ((HR.out.below (by (first | ((repeat' first | (with_reducible (first | exact Below.refl _ _ | assumption | refine Below.setCell ?_ ?_ _ | refine Below.alloc ?_ ?_ _ | refine Below.drew ?_ | refine below_drewN ?_ _ | refine Below.trans ?_ (Below.mono (by assumption) ?_))) | omega | (simp; omega) | (simp; done)); done) | (repeat' first | exact Below.refl _ _ | assumption | refine Below.setCell ?_ (by first | omega | (simp; omega) | (simp; done)) _ | refine Below.alloc ?_ (by first | omega | (simp; omega) | (simp; done)) _ | refine Below.drew ?_ | refine below_drewN ?_ _ | refine Below.trans ?_ (Below.mono (by assumption) (by first | omega | (simp; omega) | (simp; done))))))).more (by omega))).mono ?_
    rintro e w3 ⟨A3, cap3, rfl, how3, hb3⟩
    have z3 := hb3.size
    have HW := Lib.hid how3.rd
    clear how3
    go_wp2_with fail
    refine (i_debtSum (netR l) _ _ _ (by omega) HB2.out HW.out).mono ?_
    rintro e w4 ⟨rfl, hb4⟩
    obtain ⟨b1a, b1b⟩ := b1
    obtain ⟨b2a, b2b⟩ := b2
    obtain ⟨X, hX⟩ : ∃ X, dsum l = X := ⟨_, rfl⟩
    obtain ⟨Y, hY⟩ : ∃ Y, dsum (netR l) = Y := ⟨_, rfl⟩
    rw [hX, hY] at H1
    rw [hX] at b1a b1b
    rw [hY] at b2a b2b
    simp only [hX, hY]
    clear hX hY
    go_wp2_with fail
    go_ret
    exact ⟨ret_int H1.out.symm, by (first | ((repeat' first | (with_reducible (first | exact Below.refl _ _ | assumption | refine Below.setCell ?_ ?_ _ | refine Below.alloc ?_ ?_ _ | refine Below.drew ?_ | refine below_drewN ?_ _ | refine Below.trans ?_ (Below.mono (by assumption) ?_))) | omega | (simp; omega) | (simp; done)); done) | (repeat' first | exact Below.refl _ _ | assumption | refine Below.setCell ?_ (by first | omega | (simp; omega) | (simp; done)) _ | refine Below.alloc ?_ (by first | omega | (simp; omega) | (simp; done)) _ | refine Below.drew ?_ | refine below_drewN ?_ _ | refine Below.trans ?_ (Below.mono (by assumption) (by first | omega | (simp; omega) | (simp; done)))))⟩
end Go.Proofs.Ytombjkokncepnaa
