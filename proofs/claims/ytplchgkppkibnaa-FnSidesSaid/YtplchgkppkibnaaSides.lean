/- Both sides of a ledger: the walks. -/
import Derived.Test.YtplchgkppkibnaaRows
import Derived.Test.YtplchgkppkibnaaLed
namespace Go.Proofs.Ytplchgkppkibnaa
open Go.RowKit

def upF (s : Int) (x : Line) : Int := if 0 < x.Amt then s + x.Amt else s
def downF (s : Int) (x : Line) : Int := if 0 < x.Amt then s else s - x.Amt
def upTo_ (l : List Line) : Int := l.foldl upF 0
def downTo_ (l : List Line) : Int := l.foldl downF 0
theorem up_succ (l : List Line) {k : Nat} (hk : k < l.length) : upTo_ (l.take (k + 1)) = upF (upTo_ (l.take k)) l[k] := foldl_take_succ l _ _ hk
theorem down_succ (l : List Line) {k : Nat} (hk : k < l.length) : downTo_ (l.take (k + 1)) = downF (downTo_ (l.take k)) l[k] := foldl_take_succ l _ _ hk
def upOf (z : Int) (l : List Line) : Int := if ledgerB z l = true then upTo_ l else 0
def downOf (z : Int) (l : List Line) : Int := if ledgerB z l = true then downTo_ l else 0
set_option maxHeartbeats 1000000 in
theorem i_Sides (z : Int) (l : List Line) (A : Option Addr) (cap : Nat) (w : World) (hl : l.length ≤ 1048576) (hr : Rd w w.heap.size 3 A (l.map Line.cells)) :
    Calls Try.prog 26 #[.agg #[.int .i64 z, .slice A l.length cap]] w fun e w' => e = .returned (.tuple #[.int .i64 (upOf z l), .int .i64 (downOf z l)]) ∧ Below w.heap.size w w' := by
  have HR := Lib.hid hr
  clear hr
  have OK := fun W q => i_LedgerOk z l A cap W hl q
  cases h : ledgerB z l
  · rw [h] at OK
    have HOK := Lib.hid OK
    have HU := Lib.hid (show upOf z l = 0 by simp [upOf, h])
    have HD := Lib.hid (show downOf z l = 0 by simp [downOf, h])
    clear OK h
    go_enter Try.func26, Try.ntmps26
    go_wp2_with fail
    refine (HOK.out _ ((HR.out.below (by (first | ((repeat' first | (with_reducible (first | exact Below.refl _ _ | assumption | refine Below.setCell ?_ ?_ _ | refine Below.alloc ?_ ?_ _ | refine Below.drew ?_ | refine below_drewN ?_ _ | refine Below.trans ?_ (Below.mono (by assumption) ?_))) | omega | (simp; omega) | (simp; done)); done) | (repeat' first | exact Below.refl _ _ | assumption | refine Below.setCell ?_ (by first | omega | (simp; omega) | (simp; done)) _ | refine Below.alloc ?_ (by first | omega | (simp; omega) | (simp; done)) _ | refine Below.drew ?_ | refine below_drewN ?_ _ | refine Below.trans ?_ (Below.mono (by assumption) (by first | omega | (simp; omega) | (simp; done))))))).more (by first | omega | (simp; omega) | (simp; done)))).mono ?_
    rintro e w1 ⟨rfl, hb1⟩
    have z1 := hb1.size
    try simp at z1
    go_wp2_with fail
    go_ret2
    exact ⟨by rw [HU.out, HD.out]; rfl, by (first | ((repeat' first | (with_reducible (first | exact Below.refl _ _ | assumption | refine Below.setCell ?_ ?_ _ | refine Below.alloc ?_ ?_ _ | refine Below.drew ?_ | refine below_drewN ?_ _ | refine Below.trans ?_ (Below.mono (by assumption) ?_))) | omega | (simp; omega) | (simp; done)); done) | (repeat' first | exact Below.refl _ _ | assumption | refine Below.setCell ?_ (by first | omega | (simp; omega) | (simp; done)) _ | refine Below.alloc ?_ (by first | omega | (simp; omega) | (simp; done)) _ | refine Below.drew ?_ | refine below_drewN ?_ _ | refine Below.trans ?_ (Below.mono (by assumption) (by first | omega | (simp; omega) | (simp; done)))))⟩
  · rw [h] at OK
    have HOK := Lib.hid OK
    have HU := Lib.hid (show upOf z l = upTo_ l by simp [upOf, h])
    have HD := Lib.hid (show downOf z l = downTo_ l by simp [downOf, h])
    obtain ⟨_, h320, hlines⟩ := ledgerB_iff.1 h
    have HL := Lib.hid hlines
    clear OK h hlines
    go_enter Try.func26, Try.ntmps26
    go_wp2_with fail
    refine (HOK.out _ ((HR.out.below (by (first | ((repeat' first | (with_reducible (first | exact Below.refl _ _ | assumption | refine Below.setCell ?_ ?_ _ | refine Below.alloc ?_ ?_ _ | refine Below.drew ?_ | refine below_drewN ?_ _ | refine Below.trans ?_ (Below.mono (by assumption) ?_))) | omega | (simp; omega) | (simp; done)); done) | (repeat' first | exact Below.refl _ _ | assumption | refine Below.setCell ?_ (by first | omega | (simp; omega) | (simp; done)) _ | refine Below.alloc ?_ (by first | omega | (simp; omega) | (simp; done)) _ | refine Below.drew ?_ | refine below_drewN ?_ _ | refine Below.trans ?_ (Below.mono (by assumption) (by first | omega | (simp; omega) | (simp; done))))))).more (by first | omega | (simp; omega) | (simp; done)))).mono ?_
    rintro e w1 ⟨rfl, hb1⟩
    have z1 := hb1.size
    try simp at z1
    obtain ⟨kh, k0, k1, kf, kz⟩ := own2 (g := w.heap.size) hb1 (by first | omega | (simp; omega) | (simp; done)) (by (first | ((repeat' first | (with_reducible (first | assumption | (refine heap_at ?_; (first | rfl | (simp; done))) | refine heap_drew ?_ | refine heap_drewN ?_ | refine heap_past ?_ ?_ | refine heap_far ?_ ?_)) | (simp; done) | (simp; omega)); done) | (repeat' first | assumption | (refine heap_at ?_; (simp; done)) | refine heap_drew ?_ | refine heap_drewN ?_ | (refine heap_past ?_ ?_ <;> try (simp; done)) | (refine heap_far ?_ ?_ <;> try (simp; done)))))
    have hB1 : Below w.heap.size w w1 := by (first | ((repeat' first | (with_reducible (first | exact Below.refl _ _ | assumption | refine Below.setCell ?_ ?_ _ | refine Below.alloc ?_ ?_ _ | refine Below.drew ?_ | refine below_drewN ?_ _ | refine Below.trans ?_ (Below.mono (by assumption) ?_))) | omega | (simp; omega) | (simp; done)); done) | (repeat' first | exact Below.refl _ _ | assumption | refine Below.setCell ?_ (by first | omega | (simp; omega) | (simp; done)) _ | refine Below.alloc ?_ (by first | omega | (simp; omega) | (simp; done)) _ | refine Below.drew ?_ | refine below_drewN ?_ _ | refine Below.trans ?_ (Below.mono (by assumption) (by first | omega | (simp; omega) | (simp; done)))))
    clear hb1
    go_wp2_with fail
    go_loopw [4, 5, 14] (fun u d i wr => ∃ (k : Nat) (x y : Int), k ≤ l.length ∧ i = .int .i64 k ∧ u = .int .i64 x ∧ d = .int .i64 y ∧ Hid (upTo_ (l.take k) = x) ∧ Hid (downTo_ (l.take k) = y) ∧ (0 ≤ x ∧ x ≤ (k : Int) * 1125899906842624 ∧ 0 ≤ y ∧ y ≤ (k : Int) * 1125899906842624) ∧ Below w.heap.size w wr) (fun _ _ i _ => l.length - (intOf i).toNat)
    case atStart => exact ⟨0, 0, 0, Nat.zero_le _, rfl, rfl, rfl, Lib.hid rfl, Lib.hid rfl, by omega, hB1⟩
    case round =>
      obtain ⟨k, x, y, hk, rfl, rfl, rfl, HX, HY, ⟨x1, x2, y1, y2⟩, hbw⟩ := hrel
      clear hB1
      have hbz := hbw.size
      by_cases hlt : k < l.length
      · obtain ⟨b, off, rfl, hbB, c0, c1, c2⟩ := Line.rd (HR.out.below hbw) hlt
        obtain ⟨_, _, m1, m2⟩ := linesB_at HL.out hlt
        have HU2 := Lib.hid (up_succ l hlt)
        have HD2 := Lib.hid (down_succ l hlt)
        by_cases hp : 0 < l[k].Amt
        · have FU := Lib.hid (show upF x l[k] = x + l[k].Amt from if_pos hp)
          have FD := Lib.hid (show downF y l[k] = y from if_pos hp)
          go_wp2_with fail
          go_roundw
          case rel => exact ⟨k + 1, _, _, by omega, by go_num, rfl, rfl, Lib.hid (by rw [HU2.out, HX.out, FU.out]), Lib.hid (by rw [HD2.out, HY.out, FD.out]), by omega, by (first | ((repeat' first | (with_reducible (first | exact Below.refl _ _ | assumption | refine Below.setCell ?_ ?_ _ | refine Below.alloc ?_ ?_ _ | refine Below.drew ?_ | refine below_drewN ?_ _ | refine Below.trans ?_ (Below.mono (by assumption) ?_))) | omega | (simp; omega) | (simp; done)); done) | (repeat' first | exact Below.refl _ _ | assumption | refine Below.setCell ?_ (by first | omega | (simp; omega) | (simp; done)) _ | refine Below.alloc ?_ (by first | omega | (simp; omega) | (simp; done)) _ | refine Below.drew ?_ | refine below_drewN ?_ _ | refine Below.trans ?_ (Below.mono (by assumption) (by first | omega | (simp; omega) | (simp; done)))))⟩
          case measure => simp [intOf]; omega
        · have FU := Lib.hid (show upF x l[k] = x from if_neg hp)
          have FD := Lib.hid (show downF y l[k] = y - l[k].Amt from if_neg hp)
          have hp' : decide (0 < l[k].Amt) = false := decide_eq_false hp
          go_wp2_with fail
          go_roundw
          case rel => exact ⟨k + 1, _, _, by omega, by go_num, rfl, rfl, Lib.hid (by rw [HU2.out, HX.out, FU.out]), Lib.hid (by rw [HD2.out, HY.out, FD.out]), by omega, by (first | ((repeat' first | (with_reducible (first | exact Below.refl _ _ | assumption | refine Below.setCell ?_ ?_ _ | refine Below.alloc ?_ ?_ _ | refine Below.drew ?_ | refine below_drewN ?_ _ | refine Below.trans ?_ (Below.mono (by assumption) ?_))) | omega | (simp; omega) | (simp; done)); done) | (repeat' first | exact Below.refl _ _ | assumption | refine Below.setCell ?_ (by first | omega | (simp; omega) | (simp; done)) _ | refine Below.alloc ?_ (by first | omega | (simp; omega) | (simp; done)) _ | refine Below.drew ?_ | refine below_drewN ?_ _ | refine Below.trans ?_ (Below.mono (by assumption) (by first | omega | (simp; omega) | (simp; done)))))⟩
          case measure => simp [intOf]; omega
      · obtain rfl : k = l.length := by omega
        have hx := HX.out
        have hy := HY.out
        rw [List.take_length] at hx hy
        have HX2 := Lib.hid hx
        have HY2 := Lib.hid hy
        clear hx hy
        go_wp2_with fail
        go_ret2
        exact ⟨by rw [HU.out, HD.out, HX2.out, HY2.out]; rfl, by (first | ((repeat' first | (with_reducible (first | exact Below.refl _ _ | assumption | refine Below.setCell ?_ ?_ _ | refine Below.alloc ?_ ?_ _ | refine Below.drew ?_ | refine below_drewN ?_ _ | refine Below.trans ?_ (Below.mono (by assumption) ?_))) | omega | (simp; omega) | (simp; done)); done) | (repeat' first | exact Below.refl _ _ | assumption | refine Below.setCell ?_ (by first | omega | (simp; omega) | (simp; done)) _ | refine Below.alloc ?_ (by first | omega | (simp; omega) | (simp; done)) _ | refine Below.drew ?_ | refine below_drewN ?_ _ | refine Below.trans ?_ (Below.mono (by assumption) (by first | omega | (simp; omega) | (simp; done)))))⟩
set_option maxHeartbeats 1000000 in
theorem s_Sides (z : Int) (l : List Line) (A : Option Addr) (cap : Nat) (w : World) (hl : l.length ≤ 1048576) (hr : Rd w w.heap.size 3 A (l.map Line.cells)) :
    Calls Try.prog 27 #[.agg #[.int .i64 z, .slice A l.length cap]] w fun e w' => e = .returned (.tuple #[.int .i64 (upOf z l), .int .i64 (downOf z l)]) ∧ Below w.heap.size w w' := by
  have HR := Lib.hid hr
  clear hr
  have OK := fun W q => s_LedgerOk z l A cap W hl q
  cases h : ledgerB z l
  · rw [h] at OK
    have HOK := Lib.hid OK
    have HU := Lib.hid (show upOf z l = 0 by simp [upOf, h])
    have HD := Lib.hid (show downOf z l = 0 by simp [downOf, h])
    clear OK h
    go_enter Try.func27, Try.ntmps27
    go_wp2_with fail
    refine (HOK.out _ ((HR.out.below (by (first | ((repeat' first | (with_reducible (first | exact Below.refl _ _ | assumption | refine Below.setCell ?_ ?_ _ | refine Below.alloc ?_ ?_ _ | refine Below.drew ?_ | refine below_drewN ?_ _ | refine Below.trans ?_ (Below.mono (by assumption) ?_))) | omega | (simp; omega) | (simp; done)); done) | (repeat' first | exact Below.refl _ _ | assumption | refine Below.setCell ?_ (by first | omega | (simp; omega) | (simp; done)) _ | refine Below.alloc ?_ (by first | omega | (simp; omega) | (simp; done)) _ | refine Below.drew ?_ | refine below_drewN ?_ _ | refine Below.trans ?_ (Below.mono (by assumption) (by first | omega | (simp; omega) | (simp; done))))))).more (by first | omega | (simp; omega) | (simp; done)))).mono ?_
    rintro e w1 ⟨rfl, hb1⟩
    have z1 := hb1.size
    try simp at z1
    go_wp2_with fail
    go_ret2
    exact ⟨by rw [HU.out, HD.out]; rfl, by (first | ((repeat' first | (with_reducible (first | exact Below.refl _ _ | assumption | refine Below.setCell ?_ ?_ _ | refine Below.alloc ?_ ?_ _ | refine Below.drew ?_ | refine below_drewN ?_ _ | refine Below.trans ?_ (Below.mono (by assumption) ?_))) | omega | (simp; omega) | (simp; done)); done) | (repeat' first | exact Below.refl _ _ | assumption | refine Below.setCell ?_ (by first | omega | (simp; omega) | (simp; done)) _ | refine Below.alloc ?_ (by first | omega | (simp; omega) | (simp; done)) _ | refine Below.drew ?_ | refine below_drewN ?_ _ | refine Below.trans ?_ (Below.mono (by assumption) (by first | omega | (simp; omega) | (simp; done)))))⟩
  · rw [h] at OK
    have HOK := Lib.hid OK
    have HU := Lib.hid (show upOf z l = upTo_ l by simp [upOf, h])
    have HD := Lib.hid (show downOf z l = downTo_ l by simp [downOf, h])
    obtain ⟨_, h320, hlines⟩ := ledgerB_iff.1 h
    have HL := Lib.hid hlines
    clear OK h hlines
    go_enter Try.func27, Try.ntmps27
    go_wp2_with fail
    refine (HOK.out _ ((HR.out.below (by (first | ((repeat' first | (with_reducible (first | exact Below.refl _ _ | assumption | refine Below.setCell ?_ ?_ _ | refine Below.alloc ?_ ?_ _ | refine Below.drew ?_ | refine below_drewN ?_ _ | refine Below.trans ?_ (Below.mono (by assumption) ?_))) | omega | (simp; omega) | (simp; done)); done) | (repeat' first | exact Below.refl _ _ | assumption | refine Below.setCell ?_ (by first | omega | (simp; omega) | (simp; done)) _ | refine Below.alloc ?_ (by first | omega | (simp; omega) | (simp; done)) _ | refine Below.drew ?_ | refine below_drewN ?_ _ | refine Below.trans ?_ (Below.mono (by assumption) (by first | omega | (simp; omega) | (simp; done))))))).more (by first | omega | (simp; omega) | (simp; done)))).mono ?_
    rintro e w1 ⟨rfl, hb1⟩
    have z1 := hb1.size
    try simp at z1
    obtain ⟨kh, k0, k1, kf, kz⟩ := own2 (g := w.heap.size) hb1 (by first | omega | (simp; omega) | (simp; done)) (by (first | ((repeat' first | (with_reducible (first | assumption | (refine heap_at ?_; (first | rfl | (simp; done))) | refine heap_drew ?_ | refine heap_drewN ?_ | refine heap_past ?_ ?_ | refine heap_far ?_ ?_)) | (simp; done) | (simp; omega)); done) | (repeat' first | assumption | (refine heap_at ?_; (simp; done)) | refine heap_drew ?_ | refine heap_drewN ?_ | (refine heap_past ?_ ?_ <;> try (simp; done)) | (refine heap_far ?_ ?_ <;> try (simp; done)))))
    have hB1 : Below w.heap.size w w1 := by (first | ((repeat' first | (with_reducible (first | exact Below.refl _ _ | assumption | refine Below.setCell ?_ ?_ _ | refine Below.alloc ?_ ?_ _ | refine Below.drew ?_ | refine below_drewN ?_ _ | refine Below.trans ?_ (Below.mono (by assumption) ?_))) | omega | (simp; omega) | (simp; done)); done) | (repeat' first | exact Below.refl _ _ | assumption | refine Below.setCell ?_ (by first | omega | (simp; omega) | (simp; done)) _ | refine Below.alloc ?_ (by first | omega | (simp; omega) | (simp; done)) _ | refine Below.drew ?_ | refine below_drewN ?_ _ | refine Below.trans ?_ (Below.mono (by assumption) (by first | omega | (simp; omega) | (simp; done)))))
    clear hb1
    go_wp2_with fail
    go_loopw [4, 5, 14] (fun u d i wr => ∃ (k : Nat) (x y : Int), k ≤ l.length ∧ i = .int .i64 k ∧ u = .int .i64 x ∧ d = .int .i64 y ∧ Hid (upTo_ (l.take k) = x) ∧ Hid (downTo_ (l.take k) = y) ∧ (0 ≤ x ∧ x ≤ (k : Int) * 1125899906842624 ∧ 0 ≤ y ∧ y ≤ (k : Int) * 1125899906842624) ∧ Below w.heap.size w wr) (fun _ _ i _ => l.length - (intOf i).toNat)
    case atStart => exact ⟨0, 0, 0, Nat.zero_le _, rfl, rfl, rfl, Lib.hid rfl, Lib.hid rfl, by omega, hB1⟩
    case round =>
      obtain ⟨k, x, y, hk, rfl, rfl, rfl, HX, HY, ⟨x1, x2, y1, y2⟩, hbw⟩ := hrel
      clear hB1
      have hbz := hbw.size
      by_cases hlt : k < l.length
      · obtain ⟨b, off, rfl, hbB, c0, c1, c2⟩ := Line.rd (HR.out.below hbw) hlt
        obtain ⟨_, _, m1, m2⟩ := linesB_at HL.out hlt
        have HU2 := Lib.hid (up_succ l hlt)
        have HD2 := Lib.hid (down_succ l hlt)
        by_cases hp : 0 < l[k].Amt
        · have FU := Lib.hid (show upF x l[k] = x + l[k].Amt from if_pos hp)
          have FD := Lib.hid (show downF y l[k] = y from if_pos hp)
          go_wp2_with fail
          go_roundw
          case rel => exact ⟨k + 1, _, _, by omega, by go_num, rfl, rfl, Lib.hid (by rw [HU2.out, HX.out, FU.out]), Lib.hid (by rw [HD2.out, HY.out, FD.out]), by omega, by (first | ((repeat' first | (with_reducible (first | exact Below.refl _ _ | assumption | refine Below.setCell ?_ ?_ _ | refine Below.alloc ?_ ?_ _ | refine Below.drew ?_ | refine below_drewN ?_ _ | refine Below.trans ?_ (Below.mono (by assumption) ?_))) | omega | (simp; omega) | (simp; done)); done) | (repeat' first | exact Below.refl _ _ | assumption | refine Below.setCell ?_ (by first | omega | (simp; omega) | (simp; done)) _ | refine Below.alloc ?_ (by first | omega | (simp; omega) | (simp; done)) _ | refine Below.drew ?_ | refine below_drewN ?_ _ | refine Below.trans ?_ (Below.mono (by assumption) (by first | omega | (simp; omega) | (simp; done)))))⟩
          case measure => simp [intOf]; omega
        · have FU := Lib.hid (show upF x l[k] = x from if_neg hp)
          have FD := Lib.hid (show downF y l[k] = y - l[k].Amt from if_neg hp)
          have hp' : decide (0 < l[k].Amt) = false := decide_eq_false hp
          go_wp2_with fail
          go_roundw
          case rel => exact ⟨k + 1, _, _, by omega, by go_num, rfl, rfl, Lib.hid (by rw [HU2.out, HX.out, FU.out]), Lib.hid (by rw [HD2.out, HY.out, FD.out]), by omega, by (first | ((repeat' first | (with_reducible (first | exact Below.refl _ _ | assumption | refine Below.setCell ?_ ?_ _ | refine Below.alloc ?_ ?_ _ | refine Below.drew ?_ | refine below_drewN ?_ _ | refine Below.trans ?_ (Below.mono (by assumption) ?_))) | omega | (simp; omega) | (simp; done)); done) | (repeat' first | exact Below.refl _ _ | assumption | refine Below.setCell ?_ (by first | omega | (simp; omega) | (simp; done)) _ | refine Below.alloc ?_ (by first | omega | (simp; omega) | (simp; done)) _ | refine Below.drew ?_ | refine below_drewN ?_ _ | refine Below.trans ?_ (Below.mono (by assumption) (by first | omega | (simp; omega) | (simp; done)))))⟩
          case measure => simp [intOf]; omega
      · obtain rfl : k = l.length := by omega
        have hx := HX.out
        have hy := HY.out
        rw [List.take_length] at hx hy
        have HX2 := Lib.hid hx
        have HY2 := Lib.hid hy
        clear hx hy
        go_wp2_with fail
        go_ret2
        exact ⟨by rw [HU.out, HD.out, HX2.out, HY2.out]; rfl, by (first | ((repeat' first | (with_reducible (first | exact Below.refl _ _ | assumption | refine Below.setCell ?_ ?_ _ | refine Below.alloc ?_ ?_ _ | refine Below.drew ?_ | refine below_drewN ?_ _ | refine Below.trans ?_ (Below.mono (by assumption) ?_))) | omega | (simp; omega) | (simp; done)); done) | (repeat' first | exact Below.refl _ _ | assumption | refine Below.setCell ?_ (by first | omega | (simp; omega) | (simp; done)) _ | refine Below.alloc ?_ (by first | omega | (simp; omega) | (simp; done)) _ | refine Below.drew ?_ | refine below_drewN ?_ _ | refine Below.trans ?_ (Below.mono (by assumption) (by first | omega | (simp; omega) | (simp; done)))))⟩
end Go.Proofs.Ytplchgkppkibnaa
