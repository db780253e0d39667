/- Purses: Used of the program. -/
import Derived.Test.YtplchgkppkibnaaRows
import Derived.Test.YtplchgkppkibnaaPurseS
namespace Go.Proofs.Ytplchgkppkibnaa
open Go.RowKit

set_option maxHeartbeats 4000000 in
theorem i_Used (c s at_ : Int) (l : List Coin) (A : Option Addr) (cap : Nat) (w : World) (hl : l.length ≤ 1048576) (ha : at_ ≤ 9223372036854775807) (hr : Rd w w.heap.size 2 A (l.map Coin.cells)) :
    Calls Try.prog 39 #[.agg #[.int .i64 c, .int .i64 s, .slice A l.length cap], .int .i64 at_] w fun e w' => e = .returned (.int .i64 (usedR c s at_ l)) ∧ Below w.heap.size w w' := by
  have HR := Lib.hid hr
  have HA := Lib.hid ha
  clear hr ha
  cases hform : purseForm c s l
  · go_enter Try.func39, Try.ntmps39
    go_wp2_with fail
    refine (i_coinsOk c s l A cap _ hl ((HR.out.below (by (first | ((repeat' first | (with_reducible (first | exact Below.refl _ _ | assumption | refine Below.setCell ?_ ?_ _ | refine Below.alloc ?_ ?_ _ | refine Below.drew ?_ | refine below_drewN ?_ _ | refine Below.trans ?_ (Below.mono (by assumption) ?_))) | omega | (simp; omega) | (simp; done)); done) | (repeat' first | exact Below.refl _ _ | assumption | refine Below.setCell ?_ (by first | omega | (simp; omega) | (simp; done)) _ | refine Below.alloc ?_ (by first | omega | (simp; omega) | (simp; done)) _ | refine Below.drew ?_ | refine below_drewN ?_ _ | refine Below.trans ?_ (Below.mono (by assumption) (by first | omega | (simp; omega) | (simp; done))))))).more (by simp))).mono ?_
    rintro e w1 ⟨rfl, hb1⟩
    have z1 := hb1.size
    try simp at z1
    rw [hform]
    go_wp2_with fail
    go_ret
    exact ⟨ret_int (by simp [usedR, hform]), by (first | ((repeat' first | (with_reducible (first | exact Below.refl _ _ | assumption | refine Below.setCell ?_ ?_ _ | refine Below.alloc ?_ ?_ _ | refine Below.drew ?_ | refine below_drewN ?_ _ | refine Below.trans ?_ (Below.mono (by assumption) ?_))) | omega | (simp; omega) | (simp; done)); done) | (repeat' first | exact Below.refl _ _ | assumption | refine Below.setCell ?_ (by first | omega | (simp; omega) | (simp; done)) _ | refine Below.alloc ?_ (by first | omega | (simp; omega) | (simp; done)) _ | refine Below.drew ?_ | refine below_drewN ?_ _ | refine Below.trans ?_ (Below.mono (by assumption) (by first | omega | (simp; omega) | (simp; done)))))⟩
  · have hok := (purseForm_iff.1 hform).1
    have HOK := Lib.hid hok
    have HF := Lib.hid hform
    clear hok hform
    cases hc : amtB (counted s at_ l)
    all_goals
      have HC := Lib.hid hc
      clear hc
      go_enter Try.func39, Try.ntmps39
      go_wp2_with fail
      refine (i_coinsOk c s l A cap _ hl ((HR.out.below (by (first | ((repeat' first | (with_reducible (first | exact Below.refl _ _ | assumption | refine Below.setCell ?_ ?_ _ | refine Below.alloc ?_ ?_ _ | refine Below.drew ?_ | refine below_drewN ?_ _ | refine Below.trans ?_ (Below.mono (by assumption) ?_))) | omega | (simp; omega) | (simp; done)); done) | (repeat' first | exact Below.refl _ _ | assumption | refine Below.setCell ?_ (by first | omega | (simp; omega) | (simp; done)) _ | refine Below.alloc ?_ (by first | omega | (simp; omega) | (simp; done)) _ | refine Below.drew ?_ | refine below_drewN ?_ _ | refine Below.trans ?_ (Below.mono (by assumption) (by first | omega | (simp; omega) | (simp; done))))))).more (by simp))).mono ?_
      rintro e w1 ⟨rfl, hb1⟩
      have z1 := hb1.size
      try simp at z1
      rw [HF.out]
      obtain ⟨kh, k0, k1, k2, kf, kz⟩ := own3 (g := w.heap.size) hb1 (by first | omega | (simp; omega) | (simp; done)) (by (first | ((repeat' first | (with_reducible (first | assumption | (refine heap_at ?_; (first | rfl | (simp; done))) | refine heap_drew ?_ | refine heap_drewN ?_ | refine heap_past ?_ ?_ | refine heap_far ?_ ?_)) | (simp; done) | (simp; omega)); done) | (repeat' first | assumption | (refine heap_at ?_; (simp; done)) | refine heap_drew ?_ | refine heap_drewN ?_ | (refine heap_past ?_ ?_ <;> try (simp; done)) | (refine heap_far ?_ ?_ <;> try (simp; done)))))
      go_wp2_with fail
      refine (i_counted c s at_ l A cap _ HOK.out HA.out ((HR.out.below (by (first | ((repeat' first | (with_reducible (first | exact Below.refl _ _ | assumption | refine Below.setCell ?_ ?_ _ | refine Below.alloc ?_ ?_ _ | refine Below.drew ?_ | refine below_drewN ?_ _ | refine Below.trans ?_ (Below.mono (by assumption) ?_))) | omega | (simp; omega) | (simp; done)); done) | (repeat' first | exact Below.refl _ _ | assumption | refine Below.setCell ?_ (by first | omega | (simp; omega) | (simp; done)) _ | refine Below.alloc ?_ (by first | omega | (simp; omega) | (simp; done)) _ | refine Below.drew ?_ | refine below_drewN ?_ _ | refine Below.trans ?_ (Below.mono (by assumption) (by first | omega | (simp; omega) | (simp; done))))))).more (by omega))).mono ?_
      rintro e w2 ⟨rfl, hb2⟩
      have z2 := hb2.size
      try simp at z2
      go_wp2_with fail
    · refine (i_amt_no _ _ HC.out).mono ?_
      rintro e w3 ⟨rfl, rfl⟩
      go_wp2_with fail
      go_ret
      exact ⟨ret_int (by simp [usedR, HF.out, HC.out]), by (first | ((repeat' first | (with_reducible (first | exact Below.refl _ _ | assumption | refine Below.setCell ?_ ?_ _ | refine Below.alloc ?_ ?_ _ | refine Below.drew ?_ | refine below_drewN ?_ _ | refine Below.trans ?_ (Below.mono (by assumption) ?_))) | omega | (simp; omega) | (simp; done)); done) | (repeat' first | exact Below.refl _ _ | assumption | refine Below.setCell ?_ (by first | omega | (simp; omega) | (simp; done)) _ | refine Below.alloc ?_ (by first | omega | (simp; omega) | (simp; done)) _ | refine Below.drew ?_ | refine below_drewN ?_ _ | refine Below.trans ?_ (Below.mono (by assumption) (by first | omega | (simp; omega) | (simp; done)))))⟩
    · refine (i_amt_yes _ _ HC.out).mono ?_
      rintro e w3 ⟨rfl, rfl⟩
      go_wp2_with fail
      go_ret
      exact ⟨ret_int (by simp [usedR, HF.out, HC.out]), by (first | ((repeat' first | (with_reducible (first | exact Below.refl _ _ | assumption | refine Below.setCell ?_ ?_ _ | refine Below.alloc ?_ ?_ _ | refine Below.drew ?_ | refine below_drewN ?_ _ | refine Below.trans ?_ (Below.mono (by assumption) ?_))) | omega | (simp; omega) | (simp; done)); done) | (repeat' first | exact Below.refl _ _ | assumption | refine Below.setCell ?_ (by first | omega | (simp; omega) | (simp; done)) _ | refine Below.alloc ?_ (by first | omega | (simp; omega) | (simp; done)) _ | refine Below.drew ?_ | refine below_drewN ?_ _ | refine Below.trans ?_ (Below.mono (by assumption) (by first | omega | (simp; omega) | (simp; done)))))⟩
end Go.Proofs.Ytplchgkppkibnaa
