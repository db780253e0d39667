/- Books: the laws' helpers of the whole book. -/
import Derived.Test.YtgpledgjpjifcaaDoorRows
import Derived.Test.YtgpledgjpjifcaaDoorBookF
namespace Go.Proofs.YtgpledgjpjifcaaDoor
open Go.RowKit

theorem l_szBook_ok (bt bn bw : Int) (cs : List Chan) (hs : List Htlc) (os : List Circle) (A1 A2 A3 : Option Addr) (p1 p2 p3 : Nat) (left : Int) (w : World) (h0 : left ≤ 1048576) (h1 : (cs.length : Int) + hs.length + os.length ≤ left) :
    Calls Tryd.prog 24 #[.agg #[.int .i64 bt, .int .i64 bn, .int .i64 bw, .slice A1 cs.length p1, .slice A2 hs.length p2, .slice A3 os.length p3], .int .i64 left] w fun e w' => e = .returned (.int .i64 (left - cs.length - hs.length - os.length)) ∧ Below w.heap.size w w' := by
  have q1 : decide (left - (cs.length : Int) < 0) = false := decide_eq_false (by omega)
  have q2 : decide (left - (cs.length : Int) - (hs.length : Int) < 0) = false := decide_eq_false (by omega)
  have q3 : decide (left - (cs.length : Int) - (hs.length : Int) - (os.length : Int) < 0) = false := decide_eq_false (by omega)
  go_enter Tryd.func24, Tryd.ntmps24
  go_wp2_with (first | (go_at_call 56; refine (l_szChanS_ok _ _ _ _ _ (by omega) (by omega)).mono ?_; rintro e w' ⟨rfl, rfl⟩) | (go_at_call 57; refine (l_szHtlcS_ok _ _ _ _ _ (by omega) (by omega)).mono ?_; rintro e w' ⟨rfl, rfl⟩) | (go_at_call 58; refine (l_szCircleS_ok _ _ _ _ _ (by omega) (by omega)).mono ?_; rintro e w' ⟨rfl, rfl⟩))
  go_ret
  refine ⟨rfl, ?_⟩
  (first | ((repeat' first | (with_reducible (first | exact Below.refl _ _ | assumption | refine Below.setCell ?_ ?_ _ | refine Below.alloc ?_ ?_ _ | refine Below.drew ?_ | refine below_drewN ?_ _ | refine Below.trans ?_ (Below.mono (by assumption) ?_))) | omega | (simp; omega) | (simp; done)); done) | (repeat' first | exact Below.refl _ _ | assumption | refine Below.setCell ?_ (by first | omega | (simp; omega) | (simp; done)) _ | refine Below.alloc ?_ (by first | omega | (simp; omega) | (simp; done)) _ | refine Below.drew ?_ | refine below_drewN ?_ _ | refine Below.trans ?_ (Below.mono (by assumption) (by first | omega | (simp; omega) | (simp; done)))))
theorem l_szBook_no (bt bn bw : Int) (cs : List Chan) (hs : List Htlc) (os : List Circle) (A1 A2 A3 : Option Addr) (p1 p2 p3 : Nat) (left : Int) (w : World) (h0 : 0 ≤ left) (h0' : left ≤ 1048576) (m1 : cs.length ≤ maxLen) (m2 : hs.length ≤ maxLen) (m3 : os.length ≤ maxLen) (h1 : left < (cs.length : Int) + hs.length + os.length) :
    Calls Tryd.prog 24 #[.agg #[.int .i64 bt, .int .i64 bn, .int .i64 bw, .slice A1 cs.length p1, .slice A2 hs.length p2, .slice A3 os.length p3], .int .i64 left] w fun e w' => e = .returned (.int .i64 (-1)) ∧ Below w.heap.size w w' := by
  have M1 := Lib.hid m1
  have M2 := Lib.hid m2
  have M3 := Lib.hid m3
  clear m1 m2 m3
  by_cases a1 : left < (cs.length : Int)
  · clear h1
    go_enter Tryd.func24, Tryd.ntmps24
    go_wp2_with (go_at_call 56; refine (l_szChanS_no _ _ _ _ _ (by omega) M1.out (by omega)).mono ?_; rintro e w' ⟨rfl, rfl⟩)
    go_ret
    refine ⟨rfl, ?_⟩
    (first | ((repeat' first | (with_reducible (first | exact Below.refl _ _ | assumption | refine Below.setCell ?_ ?_ _ | refine Below.alloc ?_ ?_ _ | refine Below.drew ?_ | refine below_drewN ?_ _ | refine Below.trans ?_ (Below.mono (by assumption) ?_))) | omega | (simp; omega) | (simp; done)); done) | (repeat' first | exact Below.refl _ _ | assumption | refine Below.setCell ?_ (by first | omega | (simp; omega) | (simp; done)) _ | refine Below.alloc ?_ (by first | omega | (simp; omega) | (simp; done)) _ | refine Below.drew ?_ | refine below_drewN ?_ _ | refine Below.trans ?_ (Below.mono (by assumption) (by first | omega | (simp; omega) | (simp; done)))))
  · have q1 : decide (left - (cs.length : Int) < 0) = false := decide_eq_false (by omega)
    by_cases a2 : left - (cs.length : Int) < (hs.length : Int)
    · clear h1
      go_enter Tryd.func24, Tryd.ntmps24
      go_wp2_with (first | (go_at_call 56; refine (l_szChanS_ok _ _ _ _ _ (by omega) (by omega)).mono ?_; rintro e w' ⟨rfl, rfl⟩) | (go_at_call 57; refine (l_szHtlcS_no _ _ _ _ _ (by omega) M2.out (by omega)).mono ?_; rintro e w' ⟨rfl, rfl⟩))
      go_ret
      refine ⟨rfl, ?_⟩
      (first | ((repeat' first | (with_reducible (first | exact Below.refl _ _ | assumption | refine Below.setCell ?_ ?_ _ | refine Below.alloc ?_ ?_ _ | refine Below.drew ?_ | refine below_drewN ?_ _ | refine Below.trans ?_ (Below.mono (by assumption) ?_))) | omega | (simp; omega) | (simp; done)); done) | (repeat' first | exact Below.refl _ _ | assumption | refine Below.setCell ?_ (by first | omega | (simp; omega) | (simp; done)) _ | refine Below.alloc ?_ (by first | omega | (simp; omega) | (simp; done)) _ | refine Below.drew ?_ | refine below_drewN ?_ _ | refine Below.trans ?_ (Below.mono (by assumption) (by first | omega | (simp; omega) | (simp; done)))))
    · have q2 : decide (left - (cs.length : Int) - (hs.length : Int) < 0) = false := decide_eq_false (by omega)
      go_enter Tryd.func24, Tryd.ntmps24
      go_wp2_with (first | (go_at_call 56; refine (l_szChanS_ok _ _ _ _ _ (by omega) (by omega)).mono ?_; rintro e w' ⟨rfl, rfl⟩) | (go_at_call 57; refine (l_szHtlcS_ok _ _ _ _ _ (by omega) (by omega)).mono ?_; rintro e w' ⟨rfl, rfl⟩) | (go_at_call 58; refine (l_szCircleS_no _ _ _ _ _ (by omega) M3.out (by omega)).mono ?_; rintro e w' ⟨rfl, rfl⟩))
      go_ret
      refine ⟨rfl, ?_⟩
      (first | ((repeat' first | (with_reducible (first | exact Below.refl _ _ | assumption | refine Below.setCell ?_ ?_ _ | refine Below.alloc ?_ ?_ _ | refine Below.drew ?_ | refine below_drewN ?_ _ | refine Below.trans ?_ (Below.mono (by assumption) ?_))) | omega | (simp; omega) | (simp; done)); done) | (repeat' first | exact Below.refl _ _ | assumption | refine Below.setCell ?_ (by first | omega | (simp; omega) | (simp; done)) _ | refine Below.alloc ?_ (by first | omega | (simp; omega) | (simp; done)) _ | refine Below.drew ?_ | refine below_drewN ?_ _ | refine Below.trans ?_ (Below.mono (by assumption) (by first | omega | (simp; omega) | (simp; done)))))
set_option maxRecDepth 100000 in
set_option maxHeartbeats 2000000 in
theorem l_eqBook (bt bn bw : Int) (cs : List Chan) (hs : List Htlc) (os : List Circle) (A1 A2 A3 B1 B2 B3 : Option Addr) (p1 p2 p3 q1 q2 q3 : Nat) (w : World) (hlc : cs.length ≤ 1048576) (hlh : hs.length ≤ 1048576) (hlo : os.length ≤ 1048576) (hr : RdBook w w.heap.size A1 cs A2 hs A3 os) (hr2 : RdBook w w.heap.size B1 cs B2 hs B3 os) :
    Calls Tryd.prog 28 #[.agg #[.int .i64 bt, .int .i64 bn, .int .i64 bw, .slice A1 cs.length p1, .slice A2 hs.length p2, .slice A3 os.length p3], .agg #[.int .i64 bt, .int .i64 bn, .int .i64 bw, .slice B1 cs.length q1, .slice B2 hs.length q2, .slice B3 os.length q3]] w fun e w' => e = .returned (.bool true) ∧ Below w.heap.size w w' := by
  have HR := Lib.hid hr
  have HS := Lib.hid hr2
  clear hr hr2
  go_enter Tryd.func28, Tryd.ntmps28
  go_wp2_with fail
  refine (l_eqChanS cs _ _ _ _ _ hlc ((HR.out.c.below (by (first | ((repeat' first | (with_reducible (first | exact Below.refl _ _ | assumption | refine Below.setCell ?_ ?_ _ | refine Below.alloc ?_ ?_ _ | refine Below.drew ?_ | refine below_drewN ?_ _ | refine Below.trans ?_ (Below.mono (by assumption) ?_))) | omega | (simp; omega) | (simp; done)); done) | (repeat' first | exact Below.refl _ _ | assumption | refine Below.setCell ?_ (by first | omega | (simp; omega) | (simp; done)) _ | refine Below.alloc ?_ (by first | omega | (simp; omega) | (simp; done)) _ | refine Below.drew ?_ | refine below_drewN ?_ _ | refine Below.trans ?_ (Below.mono (by assumption) (by first | omega | (simp; omega) | (simp; done))))))).more (by first | omega | (simp; omega) | (simp; done))) ((HS.out.c.below (by (first | ((repeat' first | (with_reducible (first | exact Below.refl _ _ | assumption | refine Below.setCell ?_ ?_ _ | refine Below.alloc ?_ ?_ _ | refine Below.drew ?_ | refine below_drewN ?_ _ | refine Below.trans ?_ (Below.mono (by assumption) ?_))) | omega | (simp; omega) | (simp; done)); done) | (repeat' first | exact Below.refl _ _ | assumption | refine Below.setCell ?_ (by first | omega | (simp; omega) | (simp; done)) _ | refine Below.alloc ?_ (by first | omega | (simp; omega) | (simp; done)) _ | refine Below.drew ?_ | refine below_drewN ?_ _ | refine Below.trans ?_ (Below.mono (by assumption) (by first | omega | (simp; omega) | (simp; done))))))).more (by first | omega | (simp; omega) | (simp; done)))).mono ?_
  rintro e w1 ⟨rfl, hb1⟩
  have z1 := hb1.size
  try simp at z1
  obtain ⟨k0h, k00, k01, k02, k03, k04, k05, k0f, k0z⟩ := own6 (g := w.heap.size) hb1 (by first | omega | (simp; omega) | (simp; done)) (by (first | ((repeat' first | (with_reducible (first | assumption | (refine heap_at ?_; (first | rfl | (simp; done))) | refine heap_drew ?_ | refine heap_drewN ?_ | refine heap_past ?_ ?_ | refine heap_far ?_ ?_)) | (simp; done) | (simp; omega)); done) | (repeat' first | assumption | (refine heap_at ?_; (simp; done)) | refine heap_drew ?_ | refine heap_drewN ?_ | (refine heap_past ?_ ?_ <;> try (simp; done)) | (refine heap_far ?_ ?_ <;> try (simp; done)))))
  obtain ⟨j0h, j00, j01, j02, j03, j04, j05, j0f, j0z⟩ := own6 (g := w.heap.size + 1) hb1 (by first | omega | (simp; omega) | (simp; done)) (by (first | ((repeat' first | (with_reducible (first | assumption | (refine heap_at ?_; (first | rfl | (simp; done))) | refine heap_drew ?_ | refine heap_drewN ?_ | refine heap_past ?_ ?_ | refine heap_far ?_ ?_)) | (simp; done) | (simp; omega)); done) | (repeat' first | assumption | (refine heap_at ?_; (simp; done)) | refine heap_drew ?_ | refine heap_drewN ?_ | (refine heap_past ?_ ?_ <;> try (simp; done)) | (refine heap_far ?_ ?_ <;> try (simp; done)))))
  go_wp2_with fail
  refine (l_eqHtlcS hs _ _ _ _ _ hlh ((HR.out.h.below (by (first | ((repeat' first | (with_reducible (first | exact Below.refl _ _ | assumption | refine Below.setCell ?_ ?_ _ | refine Below.alloc ?_ ?_ _ | refine Below.drew ?_ | refine below_drewN ?_ _ | refine Below.trans ?_ (Below.mono (by assumption) ?_))) | omega | (simp; omega) | (simp; done)); done) | (repeat' first | exact Below.refl _ _ | assumption | refine Below.setCell ?_ (by first | omega | (simp; omega) | (simp; done)) _ | refine Below.alloc ?_ (by first | omega | (simp; omega) | (simp; done)) _ | refine Below.drew ?_ | refine below_drewN ?_ _ | refine Below.trans ?_ (Below.mono (by assumption) (by first | omega | (simp; omega) | (simp; done))))))).more (by first | omega | (simp; omega) | (simp; done))) ((HS.out.h.below (by (first | ((repeat' first | (with_reducible (first | exact Below.refl _ _ | assumption | refine Below.setCell ?_ ?_ _ | refine Below.alloc ?_ ?_ _ | refine Below.drew ?_ | refine below_drewN ?_ _ | refine Below.trans ?_ (Below.mono (by assumption) ?_))) | omega | (simp; omega) | (simp; done)); done) | (repeat' first | exact Below.refl _ _ | assumption | refine Below.setCell ?_ (by first | omega | (simp; omega) | (simp; done)) _ | refine Below.alloc ?_ (by first | omega | (simp; omega) | (simp; done)) _ | refine Below.drew ?_ | refine below_drewN ?_ _ | refine Below.trans ?_ (Below.mono (by assumption) (by first | omega | (simp; omega) | (simp; done))))))).more (by first | omega | (simp; omega) | (simp; done)))).mono ?_
  rintro e w2 ⟨rfl, hb2⟩
  have z2 := hb2.size
  try simp at z2
  obtain ⟨k1h, k10, k11, k12, k13, k14, k15, k1f, k1z⟩ := own6 (g := w.heap.size) hb2 (by first | omega | (simp; omega) | (simp; done)) (by (first | ((repeat' first | (with_reducible (first | assumption | (refine heap_at ?_; (first | rfl | (simp; done))) | refine heap_drew ?_ | refine heap_drewN ?_ | refine heap_past ?_ ?_ | refine heap_far ?_ ?_)) | (simp; done) | (simp; omega)); done) | (repeat' first | assumption | (refine heap_at ?_; (simp; done)) | refine heap_drew ?_ | refine heap_drewN ?_ | (refine heap_past ?_ ?_ <;> try (simp; done)) | (refine heap_far ?_ ?_ <;> try (simp; done)))))
  obtain ⟨j1h, j10, j11, j12, j13, j14, j15, j1f, j1z⟩ := own6 (g := w.heap.size + 1) hb2 (by first | omega | (simp; omega) | (simp; done)) (by (first | ((repeat' first | (with_reducible (first | assumption | (refine heap_at ?_; (first | rfl | (simp; done))) | refine heap_drew ?_ | refine heap_drewN ?_ | refine heap_past ?_ ?_ | refine heap_far ?_ ?_)) | (simp; done) | (simp; omega)); done) | (repeat' first | assumption | (refine heap_at ?_; (simp; done)) | refine heap_drew ?_ | refine heap_drewN ?_ | (refine heap_past ?_ ?_ <;> try (simp; done)) | (refine heap_far ?_ ?_ <;> try (simp; done)))))
  clear k0h k00 k01 k02 k03 k04 k05 k0f k0z j0h j00 j01 j02 j03 j04 j05 j0f j0z
  go_wp2_with fail
  refine (l_eqCircleS os _ _ _ _ _ hlo ((HR.out.o.below (by (first | ((repeat' first | (with_reducible (first | exact Below.refl _ _ | assumption | refine Below.setCell ?_ ?_ _ | refine Below.alloc ?_ ?_ _ | refine Below.drew ?_ | refine below_drewN ?_ _ | refine Below.trans ?_ (Below.mono (by assumption) ?_))) | omega | (simp; omega) | (simp; done)); done) | (repeat' first | exact Below.refl _ _ | assumption | refine Below.setCell ?_ (by first | omega | (simp; omega) | (simp; done)) _ | refine Below.alloc ?_ (by first | omega | (simp; omega) | (simp; done)) _ | refine Below.drew ?_ | refine below_drewN ?_ _ | refine Below.trans ?_ (Below.mono (by assumption) (by first | omega | (simp; omega) | (simp; done))))))).more (by first | omega | (simp; omega) | (simp; done))) ((HS.out.o.below (by (first | ((repeat' first | (with_reducible (first | exact Below.refl _ _ | assumption | refine Below.setCell ?_ ?_ _ | refine Below.alloc ?_ ?_ _ | refine Below.drew ?_ | refine below_drewN ?_ _ | refine Below.trans ?_ (Below.mono (by assumption) ?_))) | omega | (simp; omega) | (simp; done)); done) | (repeat' first | exact Below.refl _ _ | assumption | refine Below.setCell ?_ (by first | omega | (simp; omega) | (simp; done)) _ | refine Below.alloc ?_ (by first | omega | (simp; omega) | (simp; done)) _ | refine Below.drew ?_ | refine below_drewN ?_ _ | refine Below.trans ?_ (Below.mono (by assumption) (by first | omega | (simp; omega) | (simp; done))))))).more (by first | omega | (simp; omega) | (simp; done)))).mono ?_
  rintro e w3 ⟨rfl, hb3⟩
  have z3 := hb3.size
  try simp at z3
  go_wp2_with fail
  go_ret
  refine ⟨rfl, ?_⟩
  (first | ((repeat' first | (with_reducible (first | exact Below.refl _ _ | assumption | refine Below.setCell ?_ ?_ _ | refine Below.alloc ?_ ?_ _ | refine Below.drew ?_ | refine below_drewN ?_ _ | refine Below.trans ?_ (Below.mono (by assumption) ?_))) | omega | (simp; omega) | (simp; done)); done) | (repeat' first | exact Below.refl _ _ | assumption | refine Below.setCell ?_ (by first | omega | (simp; omega) | (simp; done)) _ | refine Below.alloc ?_ (by first | omega | (simp; omega) | (simp; done)) _ | refine Below.drew ?_ | refine below_drewN ?_ _ | refine Below.trans ?_ (Below.mono (by assumption) (by first | omega | (simp; omega) | (simp; done)))))
/-- What toBook hands on. -/
def BookMade (w : World) (bt bn bw : Int) (cs : List Chan) (hs : List Htlc) (os : List Circle) (e : Ending) (w' : World) : Prop :=
  ∃ g1 g2 g3 : Nat, e = .returned (.agg #[.int .i64 bt, .int .i64 bn, .int .i64 bw, .slice (some ⟨g1, 0, none⟩) cs.length cs.length, .slice (some ⟨g2, 0, none⟩) hs.length hs.length, .slice (some ⟨g3, 0, none⟩) os.length os.length]) ∧ Ow w' w.heap.size 95 7 (.slice (some ⟨g1, 0, none⟩) cs.length cs.length) (cs.map Chan.cells) ∧ Ow w' w.heap.size 97 7 (.slice (some ⟨g2, 0, none⟩) hs.length hs.length) (hs.map Htlc.cells) ∧ Ow w' w.heap.size 99 5 (.slice (some ⟨g3, 0, none⟩) os.length os.length) (os.map Circle.cells) ∧ Below w.heap.size w w'
set_option maxRecDepth 100000 in
set_option maxHeartbeats 4000000 in
theorem l_toBook (bt bn bw : Int) (cs : List Chan) (hs : List Htlc) (os : List Circle) (A1 A2 A3 : Option Addr) (p1 p2 p3 : Nat) (w : World) (hlc : cs.length ≤ 1048576) (hlh : hs.length ≤ 1048576) (hlo : os.length ≤ 1048576) (hr : RdBook w w.heap.size A1 cs A2 hs A3 os) :
    Calls Tryd.prog 26 #[.agg #[.int .i64 bt, .int .i64 bn, .int .i64 bw, .slice A1 cs.length p1, .slice A2 hs.length p2, .slice A3 os.length p3]] w (BookMade w bt bn bw cs hs os) := by
  have HR := Lib.hid hr
  clear hr
  go_enter Tryd.func26, Tryd.ntmps26
  go_wp2_with fail
  refine (l_toChanS cs _ _ _ hlc ((HR.out.c.below (by (first | ((repeat' first | (with_reducible (first | exact Below.refl _ _ | assumption | refine Below.setCell ?_ ?_ _ | refine Below.alloc ?_ ?_ _ | refine Below.drew ?_ | refine below_drewN ?_ _ | refine Below.trans ?_ (Below.mono (by assumption) ?_))) | omega | (simp; omega) | (simp; done)); done) | (repeat' first | exact Below.refl _ _ | assumption | refine Below.setCell ?_ (by first | omega | (simp; omega) | (simp; done)) _ | refine Below.alloc ?_ (by first | omega | (simp; omega) | (simp; done)) _ | refine Below.drew ?_ | refine below_drewN ?_ _ | refine Below.trans ?_ (Below.mono (by assumption) (by first | omega | (simp; omega) | (simp; done))))))).more (by first | omega | (simp; omega) | (simp; done)))).mono ?_
  rintro e w1 ⟨rfl, how1, hb1⟩
  have z1 := hb1.size
  try simp at z1
  obtain ⟨kh, k0, k1, k2, k3, k4, k5, kf, kz⟩ := own6 (g := w.heap.size) hb1 (by first | omega | (simp; omega) | (simp; done)) (by (first | ((repeat' first | (with_reducible (first | assumption | (refine heap_at ?_; (first | rfl | (simp; done))) | refine heap_drew ?_ | refine heap_drewN ?_ | refine heap_past ?_ ?_ | refine heap_far ?_ ?_)) | (simp; done) | (simp; omega)); done) | (repeat' first | assumption | (refine heap_at ?_; (simp; done)) | refine heap_drew ?_ | refine heap_drewN ?_ | (refine heap_past ?_ ?_ <;> try (simp; done)) | (refine heap_far ?_ ?_ <;> try (simp; done)))))
  obtain ⟨jh, j0, j1, j2, j3, j4, j5, jf, jz⟩ := own6 (g := w.heap.size + 1) hb1 (by first | omega | (simp; omega) | (simp; done)) (by (first | ((repeat' first | (with_reducible (first | assumption | (refine heap_at ?_; (first | rfl | (simp; done))) | refine heap_drew ?_ | refine heap_drewN ?_ | refine heap_past ?_ ?_ | refine heap_far ?_ ?_)) | (simp; done) | (simp; omega)); done) | (repeat' first | assumption | (refine heap_at ?_; (simp; done)) | refine heap_drew ?_ | refine heap_drewN ?_ | (refine heap_past ?_ ?_ <;> try (simp; done)) | (refine heap_far ?_ ?_ <;> try (simp; done)))))
  obtain ⟨mh, m0, m1, m2, m3, m4, m5, mf, mz⟩ := own6 (g := w.heap.size + 2) hb1 (by first | omega | (simp; omega) | (simp; done)) (by (first | ((repeat' first | (with_reducible (first | assumption | (refine heap_at ?_; (first | rfl | (simp; done))) | refine heap_drew ?_ | refine heap_drewN ?_ | refine heap_past ?_ ?_ | refine heap_far ?_ ?_)) | (simp; done) | (simp; omega)); done) | (repeat' first | assumption | (refine heap_at ?_; (simp; done)) | refine heap_drew ?_ | refine heap_drewN ?_ | (refine heap_past ?_ ?_ <;> try (simp; done)) | (refine heap_far ?_ ?_ <;> try (simp; done)))))
  have O1 := Lib.hid how1
  have KH := Lib.hid kh
  have JH := Lib.hid jh
  have MH := Lib.hid mh
  have hbw1 : Below w.heap.size w w1 := by (first | ((repeat' first | (with_reducible (first | exact Below.refl _ _ | assumption | refine Below.setCell ?_ ?_ _ | refine Below.alloc ?_ ?_ _ | refine Below.drew ?_ | refine below_drewN ?_ _ | refine Below.trans ?_ (Below.mono (by assumption) ?_))) | omega | (simp; omega) | (simp; done)); done) | (repeat' first | exact Below.refl _ _ | assumption | refine Below.setCell ?_ (by first | omega | (simp; omega) | (simp; done)) _ | refine Below.alloc ?_ (by first | omega | (simp; omega) | (simp; done)) _ | refine Below.drew ?_ | refine below_drewN ?_ _ | refine Below.trans ?_ (Below.mono (by assumption) (by first | omega | (simp; omega) | (simp; done)))))
  clear how1 kh jh mh hb1
  go_wp2_with fail
  refine (l_toHtlcS hs _ _ _ hlh ((HR.out.h.below (by (first | ((repeat' first | (with_reducible (first | exact Below.refl _ _ | assumption | refine Below.setCell ?_ ?_ _ | refine Below.alloc ?_ ?_ _ | refine Below.drew ?_ | refine below_drewN ?_ _ | refine Below.trans ?_ (Below.mono (by assumption) ?_))) | omega | (simp; omega) | (simp; done)); done) | (repeat' first | exact Below.refl _ _ | assumption | refine Below.setCell ?_ (by first | omega | (simp; omega) | (simp; done)) _ | refine Below.alloc ?_ (by first | omega | (simp; omega) | (simp; done)) _ | refine Below.drew ?_ | refine below_drewN ?_ _ | refine Below.trans ?_ (Below.mono (by assumption) (by first | omega | (simp; omega) | (simp; done))))))).more (by first | omega | (simp; omega) | (simp; done)))).mono ?_
  rintro e w2 ⟨rfl, how2, hb2⟩
  have z2 := hb2.size
  try simp at z2
  obtain ⟨kah, ka0, ka1, ka2, ka3, ka4, ka5, kaf, kaz⟩ := own6 hb2 (by simp; omega) (heap_far (by first | (simp; done) | (simp; omega)) KH.out)
  obtain ⟨jah, ja0, ja1, ja2, ja3, ja4, ja5, jaf, jaz⟩ := own6 hb2 (by simp; omega) (heap_far (by first | (simp; done) | (simp; omega)) JH.out)
  have mh2 := heap_set (i := 3) (u := .slice (some ⟨w.heap.size + 3, 0, none⟩) cs.length cs.length) MH.out
  obtain ⟨mah, ma0, ma1, ma2, ma3, ma4, ma5, maf, maz⟩ := own6 hb2 (by simp; omega) mh2
  have O2 := Lib.hid how2
  have KA := Lib.hid kah
  have JA := Lib.hid jah
  have MA := Lib.hid mah
  have O1' := Lib.hid ((O1.out.far (a := ⟨w.heap.size + 2, 3, none⟩) (by simp) (.slice (some ⟨w.heap.size + 3, 0, none⟩) cs.length cs.length)).below hb2)
  have hbw2 : Below w.heap.size w w2 := by (first | ((repeat' first | (with_reducible (first | exact Below.refl _ _ | assumption | refine Below.setCell ?_ ?_ _ | refine Below.alloc ?_ ?_ _ | refine Below.drew ?_ | refine below_drewN ?_ _ | refine Below.trans ?_ (Below.mono (by assumption) ?_))) | omega | (simp; omega) | (simp; done)); done) | (repeat' first | exact Below.refl _ _ | assumption | refine Below.setCell ?_ (by first | omega | (simp; omega) | (simp; done)) _ | refine Below.alloc ?_ (by first | omega | (simp; omega) | (simp; done)) _ | refine Below.drew ?_ | refine below_drewN ?_ _ | refine Below.trans ?_ (Below.mono (by assumption) (by first | omega | (simp; omega) | (simp; done)))))
  clear how2 kah jah mah mh2 hb2 k0 k1 k2 k3 k4 k5 kf j0 j1 j2 j3 j4 j5 jf m0 m1 m2 m3 m4 m5 mf O1 KH JH MH
  go_wp2_with fail
  refine (l_toCircleS os _ _ _ hlo ((HR.out.o.below (by (first | ((repeat' first | (with_reducible (first | exact Below.refl _ _ | assumption | refine Below.setCell ?_ ?_ _ | refine Below.alloc ?_ ?_ _ | refine Below.drew ?_ | refine below_drewN ?_ _ | refine Below.trans ?_ (Below.mono (by assumption) ?_))) | omega | (simp; omega) | (simp; done)); done) | (repeat' first | exact Below.refl _ _ | assumption | refine Below.setCell ?_ (by first | omega | (simp; omega) | (simp; done)) _ | refine Below.alloc ?_ (by first | omega | (simp; omega) | (simp; done)) _ | refine Below.drew ?_ | refine below_drewN ?_ _ | refine Below.trans ?_ (Below.mono (by assumption) (by first | omega | (simp; omega) | (simp; done))))))).more (by first | omega | (simp; omega) | (simp; done)))).mono ?_
  rintro e w3 ⟨rfl, how3, hb3⟩
  have z3 := hb3.size
  try simp at z3
  obtain ⟨kbh, kb0, kb1, kb2, kb3, kb4, kb5, kbf, kbz⟩ := own6 hb3 (by simp; omega) (heap_far (by first | (simp; done) | (simp; omega)) KA.out)
  obtain ⟨jbh, jb0, jb1, jb2, jb3, jb4, jb5, jbf, jbz⟩ := own6 hb3 (by simp; omega) (heap_far (by first | (simp; done) | (simp; omega)) JA.out)
  have mh3 := heap_set (i := 4) (u := .slice (some ⟨w1.heap.size, 0, none⟩) hs.length hs.length) MA.out
  obtain ⟨mbh, mb0, mb1, mb2, mb3, mb4, mb5, mbf, mbz⟩ := own6 hb3 (by simp; omega) mh3
  have O3 := Lib.hid how3
  have O1'' := Lib.hid ((O1'.out.far (a := ⟨w.heap.size + 2, 4, none⟩) (by simp) (.slice (some ⟨w1.heap.size, 0, none⟩) hs.length hs.length)).below hb3)
  have O2' := Lib.hid ((O2.out.far (a := ⟨w.heap.size + 2, 4, none⟩) (by simp; omega) (.slice (some ⟨w1.heap.size, 0, none⟩) hs.length hs.length)).below hb3)
  have hbw3 : Below w.heap.size w w3 := by (first | ((repeat' first | (with_reducible (first | exact Below.refl _ _ | assumption | refine Below.setCell ?_ ?_ _ | refine Below.alloc ?_ ?_ _ | refine Below.drew ?_ | refine below_drewN ?_ _ | refine Below.trans ?_ (Below.mono (by assumption) ?_))) | omega | (simp; omega) | (simp; done)); done) | (repeat' first | exact Below.refl _ _ | assumption | refine Below.setCell ?_ (by first | omega | (simp; omega) | (simp; done)) _ | refine Below.alloc ?_ (by first | omega | (simp; omega) | (simp; done)) _ | refine Below.drew ?_ | refine below_drewN ?_ _ | refine Below.trans ?_ (Below.mono (by assumption) (by first | omega | (simp; omega) | (simp; done)))))
  clear how3 kbh jbh mbh mh3 hb3 ka0 ka1 ka2 ka3 ka4 ka5 kaf ja0 ja1 ja2 ja3 ja4 ja5 jaf ma0 ma1 ma2 ma3 ma4 ma5 maf O1' O2 KA JA MA
  go_wp2_with fail
  refine bodyPost_ret (v := .agg #[.int .i64 bt, .int .i64 bn, .int .i64 bw, .slice (some ⟨w.heap.size + 3, 0, none⟩) cs.length cs.length, .slice (some ⟨w1.heap.size, 0, none⟩) hs.length hs.length, .slice (some ⟨w2.heap.size, 0, none⟩) os.length os.length]) (by simp [results, Tryd.results26, go_sem, jb0, jb1, jb2, jb3, jb4, jb5]) rfl ⟨w.heap.size + 3, w1.heap.size, w2.heap.size, rfl, ?_, ?_, ?_, by (first | ((repeat' first | (with_reducible (first | exact Below.refl _ _ | assumption | refine Below.setCell ?_ ?_ _ | refine Below.alloc ?_ ?_ _ | refine Below.drew ?_ | refine below_drewN ?_ _ | refine Below.trans ?_ (Below.mono (by assumption) ?_))) | omega | (simp; omega) | (simp; done)); done) | (repeat' first | exact Below.refl _ _ | assumption | refine Below.setCell ?_ (by first | omega | (simp; omega) | (simp; done)) _ | refine Below.alloc ?_ (by first | omega | (simp; omega) | (simp; done)) _ | refine Below.drew ?_ | refine below_drewN ?_ _ | refine Below.trans ?_ (Below.mono (by assumption) (by first | omega | (simp; omega) | (simp; done)))))⟩
  · refine Ow.more (B := w.heap.size + 3) ?_ (by omega)
    repeat refine Ow.far ?_ (by first | omega | (simp; omega) | (simp; done)) _
    have h := O1''.out.more (B' := w.heap.size + 3) (by first | omega | (simp; omega) | (simp; done))
    simpa using h
  · refine Ow.more (B := w.heap.size + 3) ?_ (by omega)
    repeat refine Ow.far ?_ (by first | omega | (simp; omega) | (simp; done)) _
    have h := O2'.out.more (B' := w.heap.size + 3) (by first | omega | (simp; omega) | (simp; done))
    simpa using h
  · refine Ow.more (B := w.heap.size + 3) ?_ (by omega)
    repeat refine Ow.far ?_ (by first | omega | (simp; omega) | (simp; done)) _
    have h := O3.out.more (B' := w.heap.size + 3) (by first | omega | (simp; omega) | (simp; done))
    simpa using h
end Go.Proofs.YtgpledgjpjifcaaDoor
