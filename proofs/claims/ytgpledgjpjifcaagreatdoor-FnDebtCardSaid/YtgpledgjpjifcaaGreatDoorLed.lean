/- Ledgers and postings: the walks of LedgerOk, PostingOk. -/
import Derived.Test.YtgpledgjpjifcaaGreatDoorRows
import Derived.Test.YtgpledgjpjifcaaGreatDoorLinesi
import Derived.Test.YtgpledgjpjifcaaGreatDoorLiness
namespace Go.Proofs.YtgpledgjpjifcaaGreatDoor
open Go.RowKit

def ledgerB (z : Int) (l : List Line) : Bool := amtB z && decide (l.length ≤ 320) && linesB l
def postingB (z : Int) (l : List Line) : Bool := inB z 1 1125899906842624 && decide (2 ≤ l.length) && decide (l.length ≤ 8) && linesB l
theorem ledgerB_iff {z : Int} {l : List Line} : ledgerB z l = true ↔ (0 ≤ z ∧ z ≤ 1125899906842624) ∧ l.length ≤ 320 ∧ linesB l = true := by
  simp only [ledgerB, Bool.and_eq_true, amtB_iff, decide_eq_true_eq, and_assoc]
theorem postingB_iff {z : Int} {l : List Line} : postingB z l = true ↔ (1 ≤ z ∧ z ≤ 1125899906842624) ∧ 2 ≤ l.length ∧ l.length ≤ 8 ∧ linesB l = true := by
  simp only [postingB, Bool.and_eq_true, inB_iff, decide_eq_true_eq, and_assoc]
theorem linesB_at {l : List Line} (h : linesB l = true) {k : Nat} (hk : k < l.length) : accB l[k].Kind l[k].Ch = true ∧ (l[k].Amt == 0) = false ∧ (-1125899906842624 ≤ l[k].Amt ∧ l[k].Amt ≤ 1125899906842624) := by
  simp only [linesB, Bool.and_eq_true] at h
  exact lineAt_ok hk (allTo_iff.1 h.1 k hk)
theorem i_LedgerOk (z : Int) (l : List Line) (A : Option Addr) (cap : Nat) (w : World) (hl : l.length ≤ 1048576) (hr : Rd w w.heap.size 3 A (l.map Line.cells)) :
    Calls Tryz.prog 47 #[.agg #[.int .i64 z, .slice A l.length cap]] w fun e w' => e = .returned (.bool (ledgerB z l)) ∧ Below w.heap.size w w' := by
  have HR := Lib.hid hr
  clear hr
  cases h1 : amtB z
  · have HE := Lib.hid (show ledgerB z l = false by simp [ledgerB, h1])
    go_enter Tryz.func47, Tryz.ntmps47
    go_wp2_with (go_at_call 78; refine (i_AmtOk _ _).mono ?_; rintro e w' ⟨rfl, rfl⟩)
    go_ret
    exact ⟨ret_bool HE.out.symm, by (first | ((repeat' first | (with_reducible (first | exact Below.refl _ _ | assumption | refine Below.setCell ?_ ?_ _ | refine Below.alloc ?_ ?_ _ | refine Below.drew ?_ | refine below_drewN ?_ _ | refine Below.trans ?_ (Below.mono (by assumption) ?_))) | omega | (simp; omega) | (simp; done)); done) | (repeat' first | exact Below.refl _ _ | assumption | refine Below.setCell ?_ (by first | omega | (simp; omega) | (simp; done)) _ | refine Below.alloc ?_ (by first | omega | (simp; omega) | (simp; done)) _ | refine Below.drew ?_ | refine below_drewN ?_ _ | refine Below.trans ?_ (Below.mono (by assumption) (by first | omega | (simp; omega) | (simp; done)))))⟩
  · by_cases h2 : l.length ≤ 320
    · have h2' : decide ((l.length : Int) ≤ 320) = true := decide_eq_true (by omega)
      have HE := Lib.hid (show ledgerB z l = linesB l by simp [ledgerB, h1, h2])
      go_enter Tryz.func47, Tryz.ntmps47
      go_wp2_with (go_at_call 78; refine (i_AmtOk _ _).mono ?_; rintro e w' ⟨rfl, rfl⟩)
      refine (i_LinesOk l _ _ _ (by omega) ((HR.out.below (by (first | ((repeat' first | (with_reducible (first | exact Below.refl _ _ | assumption | refine Below.setCell ?_ ?_ _ | refine Below.alloc ?_ ?_ _ | refine Below.drew ?_ | refine below_drewN ?_ _ | refine Below.trans ?_ (Below.mono (by assumption) ?_))) | omega | (simp; omega) | (simp; done)); done) | (repeat' first | exact Below.refl _ _ | assumption | refine Below.setCell ?_ (by first | omega | (simp; omega) | (simp; done)) _ | refine Below.alloc ?_ (by first | omega | (simp; omega) | (simp; done)) _ | refine Below.drew ?_ | refine below_drewN ?_ _ | refine Below.trans ?_ (Below.mono (by assumption) (by first | omega | (simp; omega) | (simp; done))))))).more (by first | omega | (simp; omega) | (simp; done)))).mono ?_
      rintro e w1 ⟨rfl, hb1⟩
      have z1 := hb1.size
      try simp at z1
      go_wp2_with fail
      go_ret
      exact ⟨ret_bool HE.out.symm, by (first | ((repeat' first | (with_reducible (first | exact Below.refl _ _ | assumption | refine Below.setCell ?_ ?_ _ | refine Below.alloc ?_ ?_ _ | refine Below.drew ?_ | refine below_drewN ?_ _ | refine Below.trans ?_ (Below.mono (by assumption) ?_))) | omega | (simp; omega) | (simp; done)); done) | (repeat' first | exact Below.refl _ _ | assumption | refine Below.setCell ?_ (by first | omega | (simp; omega) | (simp; done)) _ | refine Below.alloc ?_ (by first | omega | (simp; omega) | (simp; done)) _ | refine Below.drew ?_ | refine below_drewN ?_ _ | refine Below.trans ?_ (Below.mono (by assumption) (by first | omega | (simp; omega) | (simp; done)))))⟩
    · have h2' : decide ((l.length : Int) ≤ 320) = false := decide_eq_false (by omega)
      have HE := Lib.hid (show ledgerB z l = false by simp [ledgerB, h2])
      go_enter Tryz.func47, Tryz.ntmps47
      go_wp2_with (go_at_call 78; refine (i_AmtOk _ _).mono ?_; rintro e w' ⟨rfl, rfl⟩)
      go_ret
      exact ⟨ret_bool HE.out.symm, by (first | ((repeat' first | (with_reducible (first | exact Below.refl _ _ | assumption | refine Below.setCell ?_ ?_ _ | refine Below.alloc ?_ ?_ _ | refine Below.drew ?_ | refine below_drewN ?_ _ | refine Below.trans ?_ (Below.mono (by assumption) ?_))) | omega | (simp; omega) | (simp; done)); done) | (repeat' first | exact Below.refl _ _ | assumption | refine Below.setCell ?_ (by first | omega | (simp; omega) | (simp; done)) _ | refine Below.alloc ?_ (by first | omega | (simp; omega) | (simp; done)) _ | refine Below.drew ?_ | refine below_drewN ?_ _ | refine Below.trans ?_ (Below.mono (by assumption) (by first | omega | (simp; omega) | (simp; done)))))⟩
theorem s_LedgerOk (z : Int) (l : List Line) (A : Option Addr) (cap : Nat) (w : World) (hl : l.length ≤ 1048576) (hr : Rd w w.heap.size 3 A (l.map Line.cells)) :
    Calls Tryz.prog 52 #[.agg #[.int .i64 z, .slice A l.length cap]] w fun e w' => e = .returned (.bool (ledgerB z l)) ∧ Below w.heap.size w w' := by
  have HR := Lib.hid hr
  clear hr
  by_cases h0 : 0 ≤ z
  · by_cases h1 : z ≤ 1125899906842624
    · by_cases h2 : l.length ≤ 320
      · have h2' : decide ((l.length : Int) ≤ 320) = true := decide_eq_true (by omega)
        have HE := Lib.hid (show ledgerB z l = linesB l by simp [ledgerB, amtB, inB, h0, h1, h2])
        go_enter Tryz.func52, Tryz.ntmps52
        go_wp2_with fail
        refine (s_LinesOk l _ _ _ (by omega) ((HR.out.below (by (first | ((repeat' first | (with_reducible (first | exact Below.refl _ _ | assumption | refine Below.setCell ?_ ?_ _ | refine Below.alloc ?_ ?_ _ | refine Below.drew ?_ | refine below_drewN ?_ _ | refine Below.trans ?_ (Below.mono (by assumption) ?_))) | omega | (simp; omega) | (simp; done)); done) | (repeat' first | exact Below.refl _ _ | assumption | refine Below.setCell ?_ (by first | omega | (simp; omega) | (simp; done)) _ | refine Below.alloc ?_ (by first | omega | (simp; omega) | (simp; done)) _ | refine Below.drew ?_ | refine below_drewN ?_ _ | refine Below.trans ?_ (Below.mono (by assumption) (by first | omega | (simp; omega) | (simp; done))))))).more (by first | omega | (simp; omega) | (simp; done)))).mono ?_
        rintro e w1 ⟨rfl, hb1⟩
        have z1 := hb1.size
        try simp at z1
        go_wp2_with fail
        go_ret
        exact ⟨ret_bool HE.out.symm, by (first | ((repeat' first | (with_reducible (first | exact Below.refl _ _ | assumption | refine Below.setCell ?_ ?_ _ | refine Below.alloc ?_ ?_ _ | refine Below.drew ?_ | refine below_drewN ?_ _ | refine Below.trans ?_ (Below.mono (by assumption) ?_))) | omega | (simp; omega) | (simp; done)); done) | (repeat' first | exact Below.refl _ _ | assumption | refine Below.setCell ?_ (by first | omega | (simp; omega) | (simp; done)) _ | refine Below.alloc ?_ (by first | omega | (simp; omega) | (simp; done)) _ | refine Below.drew ?_ | refine below_drewN ?_ _ | refine Below.trans ?_ (Below.mono (by assumption) (by first | omega | (simp; omega) | (simp; done)))))⟩
      · have h2' : decide ((l.length : Int) ≤ 320) = false := decide_eq_false (by omega)
        have HE := Lib.hid (show ledgerB z l = false by simp [ledgerB, h2])
        go_enter Tryz.func52, Tryz.ntmps52
        go_wp2_with fail
        go_ret
        exact ⟨ret_bool HE.out.symm, by (first | ((repeat' first | (with_reducible (first | exact Below.refl _ _ | assumption | refine Below.setCell ?_ ?_ _ | refine Below.alloc ?_ ?_ _ | refine Below.drew ?_ | refine below_drewN ?_ _ | refine Below.trans ?_ (Below.mono (by assumption) ?_))) | omega | (simp; omega) | (simp; done)); done) | (repeat' first | exact Below.refl _ _ | assumption | refine Below.setCell ?_ (by first | omega | (simp; omega) | (simp; done)) _ | refine Below.alloc ?_ (by first | omega | (simp; omega) | (simp; done)) _ | refine Below.drew ?_ | refine below_drewN ?_ _ | refine Below.trans ?_ (Below.mono (by assumption) (by first | omega | (simp; omega) | (simp; done)))))⟩
    · have h1' : decide (z ≤ 1125899906842624) = false := decide_eq_false h1
      have HE := Lib.hid (show ledgerB z l = false by simp [ledgerB, amtB, inB, h1])
      go_enter Tryz.func52, Tryz.ntmps52
      go_wp2_with fail
      go_ret
      exact ⟨ret_bool HE.out.symm, by (first | ((repeat' first | (with_reducible (first | exact Below.refl _ _ | assumption | refine Below.setCell ?_ ?_ _ | refine Below.alloc ?_ ?_ _ | refine Below.drew ?_ | refine below_drewN ?_ _ | refine Below.trans ?_ (Below.mono (by assumption) ?_))) | omega | (simp; omega) | (simp; done)); done) | (repeat' first | exact Below.refl _ _ | assumption | refine Below.setCell ?_ (by first | omega | (simp; omega) | (simp; done)) _ | refine Below.alloc ?_ (by first | omega | (simp; omega) | (simp; done)) _ | refine Below.drew ?_ | refine below_drewN ?_ _ | refine Below.trans ?_ (Below.mono (by assumption) (by first | omega | (simp; omega) | (simp; done)))))⟩
  · have h0' : decide (0 ≤ z) = false := decide_eq_false h0
    have HE := Lib.hid (show ledgerB z l = false by simp [ledgerB, amtB, inB, h0])
    go_enter Tryz.func52, Tryz.ntmps52
    go_wp2_with fail
    go_ret
    exact ⟨ret_bool HE.out.symm, by (first | ((repeat' first | (with_reducible (first | exact Below.refl _ _ | assumption | refine Below.setCell ?_ ?_ _ | refine Below.alloc ?_ ?_ _ | refine Below.drew ?_ | refine below_drewN ?_ _ | refine Below.trans ?_ (Below.mono (by assumption) ?_))) | omega | (simp; omega) | (simp; done)); done) | (repeat' first | exact Below.refl _ _ | assumption | refine Below.setCell ?_ (by first | omega | (simp; omega) | (simp; done)) _ | refine Below.alloc ?_ (by first | omega | (simp; omega) | (simp; done)) _ | refine Below.drew ?_ | refine below_drewN ?_ _ | refine Below.trans ?_ (Below.mono (by assumption) (by first | omega | (simp; omega) | (simp; done)))))⟩
theorem i_PostingOk (z : Int) (l : List Line) (A : Option Addr) (cap : Nat) (w : World) (hl : l.length ≤ 1048576) (hr : Rd w w.heap.size 3 A (l.map Line.cells)) :
    Calls Tryz.prog 49 #[.agg #[.int .i64 z, .slice A l.length cap]] w fun e w' => e = .returned (.bool (postingB z l)) ∧ Below w.heap.size w w' := by
  have HR := Lib.hid hr
  clear hr
  cases h1 : inB z 1 1125899906842624
  · have HE := Lib.hid (show postingB z l = false by simp [postingB, h1])
    go_enter Tryz.func49, Tryz.ntmps49
    go_wp2_with (go_at_call 79; refine (i_in _ _ _ _).mono ?_; rintro e w' ⟨rfl, rfl⟩)
    go_ret
    exact ⟨ret_bool HE.out.symm, by (first | ((repeat' first | (with_reducible (first | exact Below.refl _ _ | assumption | refine Below.setCell ?_ ?_ _ | refine Below.alloc ?_ ?_ _ | refine Below.drew ?_ | refine below_drewN ?_ _ | refine Below.trans ?_ (Below.mono (by assumption) ?_))) | omega | (simp; omega) | (simp; done)); done) | (repeat' first | exact Below.refl _ _ | assumption | refine Below.setCell ?_ (by first | omega | (simp; omega) | (simp; done)) _ | refine Below.alloc ?_ (by first | omega | (simp; omega) | (simp; done)) _ | refine Below.drew ?_ | refine below_drewN ?_ _ | refine Below.trans ?_ (Below.mono (by assumption) (by first | omega | (simp; omega) | (simp; done)))))⟩
  · cases h2 : inB (l.length : Int) 2 8
    · have h2n : ¬ (2 ≤ l.length ∧ l.length ≤ 8) := fun hh => by rw [inB_iff.2 (by omega)] at h2; cases h2
      have HE := Lib.hid (show postingB z l = false by simp only [postingB]; rw [Bool.and_assoc, Bool.and_assoc]; simp only [Bool.and_eq_false_iff, decide_eq_false_iff_not]; omega)
      go_enter Tryz.func49, Tryz.ntmps49
      go_wp2_with (go_at_call 79; refine (i_in _ _ _ _).mono ?_; rintro e w' ⟨rfl, rfl⟩)
      go_ret
      exact ⟨ret_bool HE.out.symm, by (first | ((repeat' first | (with_reducible (first | exact Below.refl _ _ | assumption | refine Below.setCell ?_ ?_ _ | refine Below.alloc ?_ ?_ _ | refine Below.drew ?_ | refine below_drewN ?_ _ | refine Below.trans ?_ (Below.mono (by assumption) ?_))) | omega | (simp; omega) | (simp; done)); done) | (repeat' first | exact Below.refl _ _ | assumption | refine Below.setCell ?_ (by first | omega | (simp; omega) | (simp; done)) _ | refine Below.alloc ?_ (by first | omega | (simp; omega) | (simp; done)) _ | refine Below.drew ?_ | refine below_drewN ?_ _ | refine Below.trans ?_ (Below.mono (by assumption) (by first | omega | (simp; omega) | (simp; done)))))⟩
    · have h2n := inB_iff.1 h2
      have HE := Lib.hid (show postingB z l = linesB l by simp only [postingB, h1, Bool.true_and]; rw [decide_eq_true (by omega : 2 ≤ l.length), decide_eq_true (by omega : l.length ≤ 8)]; rfl)
      go_enter Tryz.func49, Tryz.ntmps49
      go_wp2_with (go_at_call 79; refine (i_in _ _ _ _).mono ?_; rintro e w' ⟨rfl, rfl⟩)
      refine (i_LinesOk l _ _ _ (by omega) ((HR.out.below (by (first | ((repeat' first | (with_reducible (first | exact Below.refl _ _ | assumption | refine Below.setCell ?_ ?_ _ | refine Below.alloc ?_ ?_ _ | refine Below.drew ?_ | refine below_drewN ?_ _ | refine Below.trans ?_ (Below.mono (by assumption) ?_))) | omega | (simp; omega) | (simp; done)); done) | (repeat' first | exact Below.refl _ _ | assumption | refine Below.setCell ?_ (by first | omega | (simp; omega) | (simp; done)) _ | refine Below.alloc ?_ (by first | omega | (simp; omega) | (simp; done)) _ | refine Below.drew ?_ | refine below_drewN ?_ _ | refine Below.trans ?_ (Below.mono (by assumption) (by first | omega | (simp; omega) | (simp; done))))))).more (by first | omega | (simp; omega) | (simp; done)))).mono ?_
      rintro e w1 ⟨rfl, hb1⟩
      have z1 := hb1.size
      try simp at z1
      go_wp2_with fail
      go_ret
      exact ⟨ret_bool HE.out.symm, by (first | ((repeat' first | (with_reducible (first | exact Below.refl _ _ | assumption | refine Below.setCell ?_ ?_ _ | refine Below.alloc ?_ ?_ _ | refine Below.drew ?_ | refine below_drewN ?_ _ | refine Below.trans ?_ (Below.mono (by assumption) ?_))) | omega | (simp; omega) | (simp; done)); done) | (repeat' first | exact Below.refl _ _ | assumption | refine Below.setCell ?_ (by first | omega | (simp; omega) | (simp; done)) _ | refine Below.alloc ?_ (by first | omega | (simp; omega) | (simp; done)) _ | refine Below.drew ?_ | refine below_drewN ?_ _ | refine Below.trans ?_ (Below.mono (by assumption) (by first | omega | (simp; omega) | (simp; done)))))⟩
theorem s_PostingOk (z : Int) (l : List Line) (A : Option Addr) (cap : Nat) (w : World) (hl : l.length ≤ 1048576) (hr : Rd w w.heap.size 3 A (l.map Line.cells)) :
    Calls Tryz.prog 54 #[.agg #[.int .i64 z, .slice A l.length cap]] w fun e w' => e = .returned (.bool (postingB z l)) ∧ Below w.heap.size w w' := by
  have HR := Lib.hid hr
  clear hr
  by_cases h0 : 1 ≤ z
  · by_cases h1 : z ≤ 1125899906842624
    · by_cases h2 : 2 ≤ l.length
      · have h2' : decide ((2 : Int) ≤ (l.length : Int)) = true := decide_eq_true (by omega)
        by_cases h3 : l.length ≤ 8
        · have h3' : decide ((l.length : Int) ≤ 8) = true := decide_eq_true (by omega)
          have HE := Lib.hid (show postingB z l = linesB l by simp [postingB, inB, h0, h1, h2, h3])
          go_enter Tryz.func54, Tryz.ntmps54
          go_wp2_with fail
          refine (s_LinesOk l _ _ _ (by omega) ((HR.out.below (by (first | ((repeat' first | (with_reducible (first | exact Below.refl _ _ | assumption | refine Below.setCell ?_ ?_ _ | refine Below.alloc ?_ ?_ _ | refine Below.drew ?_ | refine below_drewN ?_ _ | refine Below.trans ?_ (Below.mono (by assumption) ?_))) | omega | (simp; omega) | (simp; done)); done) | (repeat' first | exact Below.refl _ _ | assumption | refine Below.setCell ?_ (by first | omega | (simp; omega) | (simp; done)) _ | refine Below.alloc ?_ (by first | omega | (simp; omega) | (simp; done)) _ | refine Below.drew ?_ | refine below_drewN ?_ _ | refine Below.trans ?_ (Below.mono (by assumption) (by first | omega | (simp; omega) | (simp; done))))))).more (by first | omega | (simp; omega) | (simp; done)))).mono ?_
          rintro e w1 ⟨rfl, hb1⟩
          have z1 := hb1.size
          try simp at z1
          go_wp2_with fail
          go_ret
          exact ⟨ret_bool HE.out.symm, by (first | ((repeat' first | (with_reducible (first | exact Below.refl _ _ | assumption | refine Below.setCell ?_ ?_ _ | refine Below.alloc ?_ ?_ _ | refine Below.drew ?_ | refine below_drewN ?_ _ | refine Below.trans ?_ (Below.mono (by assumption) ?_))) | omega | (simp; omega) | (simp; done)); done) | (repeat' first | exact Below.refl _ _ | assumption | refine Below.setCell ?_ (by first | omega | (simp; omega) | (simp; done)) _ | refine Below.alloc ?_ (by first | omega | (simp; omega) | (simp; done)) _ | refine Below.drew ?_ | refine below_drewN ?_ _ | refine Below.trans ?_ (Below.mono (by assumption) (by first | omega | (simp; omega) | (simp; done)))))⟩
        · have h3' : decide ((l.length : Int) ≤ 8) = false := decide_eq_false (by omega)
          have HE := Lib.hid (show postingB z l = false by simp [postingB, h3])
          go_enter Tryz.func54, Tryz.ntmps54
          go_wp2_with fail
          go_ret
          exact ⟨ret_bool HE.out.symm, by (first | ((repeat' first | (with_reducible (first | exact Below.refl _ _ | assumption | refine Below.setCell ?_ ?_ _ | refine Below.alloc ?_ ?_ _ | refine Below.drew ?_ | refine below_drewN ?_ _ | refine Below.trans ?_ (Below.mono (by assumption) ?_))) | omega | (simp; omega) | (simp; done)); done) | (repeat' first | exact Below.refl _ _ | assumption | refine Below.setCell ?_ (by first | omega | (simp; omega) | (simp; done)) _ | refine Below.alloc ?_ (by first | omega | (simp; omega) | (simp; done)) _ | refine Below.drew ?_ | refine below_drewN ?_ _ | refine Below.trans ?_ (Below.mono (by assumption) (by first | omega | (simp; omega) | (simp; done)))))⟩
      · have h2' : decide ((2 : Int) ≤ (l.length : Int)) = false := decide_eq_false (by omega)
        have HE := Lib.hid (show postingB z l = false by simp [postingB, h2])
        go_enter Tryz.func54, Tryz.ntmps54
        go_wp2_with fail
        go_ret
        exact ⟨ret_bool HE.out.symm, by (first | ((repeat' first | (with_reducible (first | exact Below.refl _ _ | assumption | refine Below.setCell ?_ ?_ _ | refine Below.alloc ?_ ?_ _ | refine Below.drew ?_ | refine below_drewN ?_ _ | refine Below.trans ?_ (Below.mono (by assumption) ?_))) | omega | (simp; omega) | (simp; done)); done) | (repeat' first | exact Below.refl _ _ | assumption | refine Below.setCell ?_ (by first | omega | (simp; omega) | (simp; done)) _ | refine Below.alloc ?_ (by first | omega | (simp; omega) | (simp; done)) _ | refine Below.drew ?_ | refine below_drewN ?_ _ | refine Below.trans ?_ (Below.mono (by assumption) (by first | omega | (simp; omega) | (simp; done)))))⟩
    · have h1' : decide (z ≤ 1125899906842624) = false := decide_eq_false h1
      have HE := Lib.hid (show postingB z l = false by simp [postingB, inB, h1])
      go_enter Tryz.func54, Tryz.ntmps54
      go_wp2_with fail
      go_ret
      exact ⟨ret_bool HE.out.symm, by (first | ((repeat' first | (with_reducible (first | exact Below.refl _ _ | assumption | refine Below.setCell ?_ ?_ _ | refine Below.alloc ?_ ?_ _ | refine Below.drew ?_ | refine below_drewN ?_ _ | refine Below.trans ?_ (Below.mono (by assumption) ?_))) | omega | (simp; omega) | (simp; done)); done) | (repeat' first | exact Below.refl _ _ | assumption | refine Below.setCell ?_ (by first | omega | (simp; omega) | (simp; done)) _ | refine Below.alloc ?_ (by first | omega | (simp; omega) | (simp; done)) _ | refine Below.drew ?_ | refine below_drewN ?_ _ | refine Below.trans ?_ (Below.mono (by assumption) (by first | omega | (simp; omega) | (simp; done)))))⟩
  · have h0' : decide (1 ≤ z) = false := decide_eq_false h0
    have HE := Lib.hid (show postingB z l = false by simp [postingB, inB, h0])
    go_enter Tryz.func54, Tryz.ntmps54
    go_wp2_with fail
    go_ret
    exact ⟨ret_bool HE.out.symm, by (first | ((repeat' first | (with_reducible (first | exact Below.refl _ _ | assumption | refine Below.setCell ?_ ?_ _ | refine Below.alloc ?_ ?_ _ | refine Below.drew ?_ | refine below_drewN ?_ _ | refine Below.trans ?_ (Below.mono (by assumption) ?_))) | omega | (simp; omega) | (simp; done)); done) | (repeat' first | exact Below.refl _ _ | assumption | refine Below.setCell ?_ (by first | omega | (simp; omega) | (simp; done)) _ | refine Below.alloc ?_ (by first | omega | (simp; omega) | (simp; done)) _ | refine Below.drew ?_ | refine below_drewN ?_ _ | refine Below.trans ?_ (Below.mono (by assumption) (by first | omega | (simp; omega) | (simp; done)))))⟩
end Go.Proofs.YtgpledgjpjifcaaGreatDoor
