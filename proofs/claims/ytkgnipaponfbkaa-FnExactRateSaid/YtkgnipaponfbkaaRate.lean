/- Rate: the walks. -/
import Derived.Test.YtkgnipaponfbkaaRows
import Derived.Test.YtkgnipaponfbkaaGain
import Derived.Test.YtkgnipaponfbkaaMulI
namespace Go.Proofs.Ytkgnipaponfbkaa
open Go.RowKit

def rateOf (c f : Int) : Int := if (amtB c && amtB f && amtB (c + f)) = true then mulQ c 1000000 (c + f) else 0
theorem i_Rate (x0 x1 c f : Int) (w : World) :
    Calls Try.prog 35 #[.agg #[.int .i64 x0, .int .i64 x1, .int .i64 c, .int .i64 f]] w fun e w' => e = .returned (.int .i64 (rateOf c f)) ∧ Below w.heap.size w w' := by
  cases h : (amtB c && amtB f && amtB (c + f))
  · go_enter Try.func35, Try.ntmps35
    go_wp2_with fail
    refine (i_AddAmt_no c f _ h).mono ?_
    rintro e w1 ⟨rfl, rfl⟩
    go_wp2_with fail
    go_ret
    refine ⟨ret_int (by simp [rateOf, h]), ?_⟩
    (repeat' first | exact Below.refl _ _ | assumption | refine Below.setCell ?_ (by first | omega | (simp; omega) | (simp; done)) _ | refine Below.alloc ?_ (by first | omega | (simp; omega) | (simp; done)) _ | refine Below.drew ?_ | refine below_drewN ?_ _ | refine Below.trans ?_ (Below.mono (by assumption) (by first | omega | (simp; omega) | (simp; done))))
  · have h' := h
    simp only [Bool.and_eq_true] at h'
    obtain ⟨⟨h1, h2⟩, h3⟩ := h'
    have H := Lib.hid h
    have H1 := Lib.hid h1
    have H2 := Lib.hid h2
    have H3 := Lib.hid h3
    clear h h1 h2 h3
    go_enter Try.func35, Try.ntmps35
    go_wp2_with fail
    refine (i_AddAmt_yes c f _ H1.out H2.out H3.out).mono ?_
    rintro e w1 ⟨rfl, rfl⟩
    go_wp2_with fail
    refine (i_MulDiv c 1000000 (c + f) _).mono ?_
    rintro e w1 ⟨rfl, hb1⟩
    go_wp2_with fail
    go_ret
    refine ⟨ret_int (by simp [rateOf, H.out]), ?_⟩
    (repeat' first | exact Below.refl _ _ | assumption | refine Below.setCell ?_ (by first | omega | (simp; omega) | (simp; done)) _ | refine Below.alloc ?_ (by first | omega | (simp; omega) | (simp; done)) _ | refine Below.drew ?_ | refine below_drewN ?_ _ | refine Below.trans ?_ (Below.mono (by assumption) (by first | omega | (simp; omega) | (simp; done))))
theorem s_Rate (x0 x1 c f : Int) (w : World) :
    Calls Try.prog 33 #[.agg #[.int .i64 x0, .int .i64 x1, .int .i64 c, .int .i64 f]] w fun e w' => e = .returned (.int .i64 (rateOf c f)) ∧ Below w.heap.size w w' := by
  cases h : (amtB c && amtB f && amtB (c + f))
  · go_enter Try.func33, Try.ntmps33
    go_wp2_with fail
    refine (s_AddAmt_no c f _ h).mono ?_
    rintro e w1 ⟨rfl, rfl⟩
    go_wp2_with fail
    go_ret
    refine ⟨ret_int (by simp [rateOf, h]), ?_⟩
    (repeat' first | exact Below.refl _ _ | assumption | refine Below.setCell ?_ (by first | omega | (simp; omega) | (simp; done)) _ | refine Below.alloc ?_ (by first | omega | (simp; omega) | (simp; done)) _ | refine Below.drew ?_ | refine below_drewN ?_ _ | refine Below.trans ?_ (Below.mono (by assumption) (by first | omega | (simp; omega) | (simp; done))))
  · have h' := h
    simp only [Bool.and_eq_true] at h'
    obtain ⟨⟨h1, h2⟩, h3⟩ := h'
    have H := Lib.hid h
    have H1 := Lib.hid h1
    have H2 := Lib.hid h2
    have H3 := Lib.hid h3
    clear h h1 h2 h3
    go_enter Try.func33, Try.ntmps33
    go_wp2_with fail
    refine (s_AddAmt_yes c f _ H1.out H2.out H3.out).mono ?_
    rintro e w1 ⟨rfl, rfl⟩
    go_wp2_with fail
    refine (s_MulDiv c 1000000 (c + f) _).mono ?_
    rintro e w1 ⟨rfl, rfl⟩
    go_wp2_with fail
    go_ret
    refine ⟨ret_int (by simp [rateOf, H.out]), ?_⟩
    (repeat' first | exact Below.refl _ _ | assumption | refine Below.setCell ?_ (by first | omega | (simp; omega) | (simp; done)) _ | refine Below.alloc ?_ (by first | omega | (simp; omega) | (simp; done)) _ | refine Below.drew ?_ | refine below_drewN ?_ _ | refine Below.trans ?_ (Below.mono (by assumption) (by first | omega | (simp; omega) | (simp; done))))
end Go.Proofs.Ytkgnipaponfbkaa
