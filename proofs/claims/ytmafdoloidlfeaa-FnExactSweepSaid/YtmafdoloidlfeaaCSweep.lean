/- The program's Sweep returns what the reference's returns, and memory of its own, for all arguments; no condition. -/
import Derived.Test.YtmafdoloidlfeaaRows
import Derived.Test.YtmafdoloidlfeaaBookHi
import Derived.Test.YtmafdoloidlfeaaBookHs
import Derived.Test.YtmafdoloidlfeaaBookL
import Derived.Test.YtmafdoloidlfeaaBookM
import Derived.Test.YtmafdoloidlfeaaBookR
import Derived.Test.YtmafdoloidlfeaaEventM
import Derived.Deep.RegionHeld3
namespace Go.Proofs.Ytmafdoloidlfeaa
open Go.ChangeShapes Go.WideShapes Go.ChangeAt Go.RowKit

theorem sizeUp (w : World) (o : Obj) : (w.alloc o).heap.size = w.heap.size + 1 := by simp
set_option maxRecDepth 100000 in
set_option maxHeartbeats 4000000 in
theorem l_FnExactSweep (bt bn bw : Int) (cs : List Chan) (hs : List Htlc) (os : List Circle) (A1 A2 A3 : Option Addr) (p1 p2 p3 : Nat) (age : Int) (w : World) (m1 : cs.length ≤ maxLen) (m2 : hs.length ≤ maxLen) (m3 : os.length ≤ maxLen) (hr : RdBook w w.heap.size A1 cs A2 hs A3 os) :
    Calls Try.prog 10 #[.agg #[.int .i64 bt, .int .i64 bn, .int .i64 bw, .slice A1 cs.length p1, .slice A2 hs.length p2, .slice A3 os.length p3], .int .i64 age] w fun e w' => e = .returned (.bool true) ∧ Below w.heap.size w w' := by
  have HR := Lib.hid hr
  have M1 := Lib.hid m1
  have M2 := Lib.hid m2
  have M3 := Lib.hid m3
  clear hr m1 m2 m3
  by_cases hl : (cs.length : Int) + hs.length + os.length ≤ 1048576
  · have hlc : cs.length ≤ 1048576 := by omega
    have hlh : hs.length ≤ 1048576 := by omega
    have hlo : os.length ≤ 1048576 := by omega
    have hz : decide ((1048576 : Int) - cs.length - hs.length - os.length < 0) = false := decide_eq_false (by omega)
    obtain ⟨l2, HS, HI, hl2⟩ : ∃ l2 : List Event, Hid (∀ (A1 A2 A3 : Option Addr) (p1 p2 p3 : Nat) (W : World), RdBook W W.heap.size A1 cs A2 hs A3 os → Calls Try.prog 46 #[.agg #[.int .i64 bt, .int .i64 bn, .int .i64 bw, .slice A1 cs.length p1, .slice A2 hs.length p2, .slice A3 os.length p3], .int .i64 age] W (fun e w' => ∃ A cap, e = .returned (.slice A l2.length cap) ∧ Ow w' W.heap.size 118 7 (.slice A l2.length cap) (l2.map Event.cells) ∧ Below W.heap.size W w')) ∧ Hid (∀ (A1 A2 A3 : Option Addr) (p1 p2 p3 : Nat) (W : World), RdBook W W.heap.size A1 cs A2 hs A3 os → Calls Try.prog 47 #[.agg #[.int .i64 bt, .int .i64 bn, .int .i64 bw, .slice A1 cs.length p1, .slice A2 hs.length p2, .slice A3 os.length p3], .int .i64 age] W (fun e w' => ∃ A cap, e = .returned (.slice A l2.length cap) ∧ Ow w' W.heap.size 118 7 (.slice A l2.length cap) (l2.map Event.cells) ∧ Below W.heap.size W w')) ∧ l2.length ≤ 1048576 :=
      ⟨sweepOf bt bn bw cs hs os age, Lib.hid fun A1 A2 A3 p1 p2 p3 W hq => s_Sweep bt bn bw cs hs os A1 A2 A3 p1 p2 p3 age W hlc hlh hlo hq, Lib.hid fun A1 A2 A3 p1 p2 p3 W hq => i_Sweep bt bn bw cs hs os A1 A2 A3 p1 p2 p3 age W hlc hlh hlo hq, Nat.le_trans (sweepOf_len bt bn bw cs hs os age) hlh⟩
    obtain ⟨Lx, hLx, hLx0⟩ : ∃ Lx : Int, (1 : Int) + (cs.length * 7 : Nat) + (hs.length * 7 : Nat) + (os.length * 5 : Nat) = Lx ∧ decide (Lx < 0) = false := ⟨_, rfl, by simp; omega⟩
    obtain ⟨Lg, hLg, hLg0⟩ : ∃ Lg : Int, (1 : Int) + (l2.length * 7 : Nat) = Lg ∧ decide (Lg < 0) = false := ⟨_, rfl, by simp; omega⟩
    have HLX := Lib.hid hLx
    have HLG := Lib.hid hLg
    clear hLx hLg
    go_enter Try.func10, Try.ntmps10
    go_wp2_with fail
    refine (l_szBook_ok bt bn bw cs hs os _ _ _ _ _ _ _ _ (by omega) hl).mono ?_
    rintro e w1 ⟨rfl, hb1⟩
    have z1 := hb1.size
    try simp at z1
    clear hl
    obtain ⟨kah, ka0, ka1, ka2, ka3, ka4, ka5, kaf, kaz⟩ := own6 (g := w.heap.size) hb1 (by first | omega | (simp; omega) | (simp; done)) (by (first | ((repeat' first | (with_reducible (first | assumption | (refine heap_at ?_; (first | rfl | (simp; done))) | refine heap_drew ?_ | refine heap_drewN ?_ | refine heap_past ?_ ?_ | refine heap_far ?_ ?_)) | (simp; done) | (simp; omega)); done) | (repeat' first | assumption | (refine heap_at ?_; (simp; done)) | refine heap_drew ?_ | refine heap_drewN ?_ | (refine heap_past ?_ ?_ <;> try (simp; done)) | (refine heap_far ?_ ?_ <;> try (simp; done)))))
    go_wp2_with fail
    refine (l_toBook bt bn bw cs hs os _ _ _ _ _ _ _ hlc hlh hlo ((HR.out.below (by (first | ((repeat' first | (with_reducible (first | exact Below.refl _ _ | assumption | refine Below.setCell ?_ ?_ _ | refine Below.alloc ?_ ?_ _ | refine Below.drew ?_ | refine below_drewN ?_ _ | refine Below.trans ?_ (Below.mono (by assumption) ?_))) | omega | (simp; omega) | (simp; done)); done) | (repeat' first | exact Below.refl _ _ | assumption | refine Below.setCell ?_ (by first | omega | (simp; omega) | (simp; done)) _ | refine Below.alloc ?_ (by first | omega | (simp; omega) | (simp; done)) _ | refine Below.drew ?_ | refine below_drewN ?_ _ | refine Below.trans ?_ (Below.mono (by assumption) (by first | omega | (simp; omega) | (simp; done))))))).more (by first | omega | (simp; omega) | (simp; done)))).mono ?_
    rintro e w2 ⟨g1, g2, g3, rfl, o1, o2, o3, hb2⟩
    have z2 := hb2.size
    have HO2 := Lib.hid (RdBook.mk o1.rd o2.rd o3.rd)
    clear o1 o2 o3
    obtain ⟨kbh, kb0, kb1, kb2, kb3, kb4, kb5, kbf, kbz⟩ := own6 (g := w.heap.size) hb2 (by first | omega | (simp; omega) | (simp; done)) (by (first | ((repeat' first | (with_reducible (first | assumption | (refine heap_at ?_; (first | rfl | (simp; done))) | refine heap_drew ?_ | refine heap_drewN ?_ | refine heap_past ?_ ?_ | refine heap_far ?_ ?_)) | (simp; done) | (simp; omega)); done) | (repeat' first | assumption | (refine heap_at ?_; (simp; done)) | refine heap_drew ?_ | refine heap_drewN ?_ | (refine heap_past ?_ ?_ <;> try (simp; done)) | (refine heap_far ?_ ?_ <;> try (simp; done)))))
    clear kah ka0 ka1 ka2 ka3 ka4 ka5 kaf kaz
    go_wp2_with fail
    refine (HS.out _ _ _ _ _ _ _ HO2.out).mono ?_
    rintro e w3 ⟨AW, capw, rfl, how3, hb3⟩
    have z3 := hb3.size
    have OW3 := Lib.hid how3
    have bkw := Lib.hid how3.block
    clear how3
    obtain ⟨kch, kc0, kc1, kc2, kc3, kc4, kc5, kcf, kcz⟩ := own6 (g := w.heap.size) hb3 (by first | omega | (simp; omega) | (simp; done)) (by (first | ((repeat' first | (with_reducible (first | assumption | (refine heap_at ?_; (first | rfl | (simp; done))) | refine heap_drew ?_ | refine heap_drewN ?_ | refine heap_past ?_ ?_ | refine heap_far ?_ ?_)) | (simp; done) | (simp; omega)); done) | (repeat' first | assumption | (refine heap_at ?_; (simp; done)) | refine heap_drew ?_ | refine heap_drewN ?_ | (refine heap_past ?_ ?_ <;> try (simp; done)) | (refine heap_far ?_ ?_ <;> try (simp; done)))))
    clear kbh kb0 kb1 kb2 kb3 kb4 kb5 kbf kbz
    go_wp2_with fail
    refine (l_toBook bt bn bw cs hs os _ _ _ _ _ _ _ hlc hlh hlo ((HR.out.below (by (first | ((repeat' first | (with_reducible (first | exact Below.refl _ _ | assumption | refine Below.setCell ?_ ?_ _ | refine Below.alloc ?_ ?_ _ | refine Below.drew ?_ | refine below_drewN ?_ _ | refine Below.trans ?_ (Below.mono (by assumption) ?_))) | omega | (simp; omega) | (simp; done)); done) | (repeat' first | exact Below.refl _ _ | assumption | refine Below.setCell ?_ (by first | omega | (simp; omega) | (simp; done)) _ | refine Below.alloc ?_ (by first | omega | (simp; omega) | (simp; done)) _ | refine Below.drew ?_ | refine below_drewN ?_ _ | refine Below.trans ?_ (Below.mono (by assumption) (by first | omega | (simp; omega) | (simp; done))))))).more (by first | omega | (simp; omega) | (simp; done)))).mono ?_
    rintro e w4 ⟨h1, h2, h3, rfl, o1, o2, o3, hb4⟩
    have z4 := hb4.size
    have HO4 := Lib.hid (RdBook.mk o1.rd o2.rd o3.rd)
    obtain ⟨u1, v1⟩ := o1.block _ rfl
    obtain ⟨u2, v2⟩ := o2.block _ rfl
    obtain ⟨u3, v3⟩ := o3.block _ rfl
    have Q1 := Lib.hid o1
    have Q2 := Lib.hid o2
    have Q3 := Lib.hid o3
    clear o1 o2 o3
    obtain ⟨kdh, kd0, kd1, kd2, kd3, kd4, kd5, kdf, kdz⟩ := own6 (g := w.heap.size) hb4 (by first | omega | (simp; omega) | (simp; done)) (by (first | ((repeat' first | (with_reducible (first | assumption | (refine heap_at ?_; (first | rfl | (simp; done))) | refine heap_drew ?_ | refine heap_drewN ?_ | refine heap_past ?_ ?_ | refine heap_far ?_ ?_)) | (simp; done) | (simp; omega)); done) | (repeat' first | assumption | (refine heap_at ?_; (simp; done)) | refine heap_drew ?_ | refine heap_drewN ?_ | (refine heap_past ?_ ?_ <;> try (simp; done)) | (refine heap_far ?_ ?_ <;> try (simp; done)))))
    clear kch kc0 kc1 kc2 kc3 kc4 kc5 kcf kcz
    go_wp2_with fail
    refine (HI.out _ _ _ _ _ _ _ ((HO4.out.below (by (first | ((repeat' first | (with_reducible (first | exact Below.refl _ _ | assumption | refine Below.setCell ?_ ?_ _ | refine Below.alloc ?_ ?_ _ | refine Below.drew ?_ | refine below_drewN ?_ _ | refine Below.trans ?_ (Below.mono (by assumption) ?_))) | omega | (simp; omega) | (simp; done)); done) | (repeat' first | exact Below.refl _ _ | assumption | refine Below.setCell ?_ (by first | omega | (simp; omega) | (simp; done)) _ | refine Below.alloc ?_ (by first | omega | (simp; omega) | (simp; done)) _ | refine Below.drew ?_ | refine below_drewN ?_ _ | refine Below.trans ?_ (Below.mono (by assumption) (by first | omega | (simp; omega) | (simp; done))))))).more (by first | omega | (simp; omega) | (simp; done)))).mono ?_
    rintro e w5 ⟨AG, capg, rfl, how5, hb5⟩
    have z5 := hb5.size
    try simp at z5
    rw [sizeUp] at how5
    have OG5 := Lib.hid how5
    have bkg := Lib.hid how5.block
    clear how5
    obtain ⟨keh, ke0, ke1, ke2, ke3, ke4, ke5, kef, kez⟩ := own6 (g := w.heap.size) hb5 (by first | omega | (simp; omega) | (simp; done)) (by (first | ((repeat' first | (with_reducible (first | assumption | (refine heap_at ?_; (first | rfl | (simp; done))) | refine heap_drew ?_ | refine heap_drewN ?_ | refine heap_past ?_ ?_ | refine heap_far ?_ ?_)) | (simp; done) | (simp; omega)); done) | (repeat' first | assumption | (refine heap_at ?_; (simp; done)) | refine heap_drew ?_ | refine heap_drewN ?_ | (refine heap_past ?_ ?_ <;> try (simp; done)) | (refine heap_far ?_ ?_ <;> try (simp; done)))))
    obtain ⟨jeh, je0, je1, je2, je3, je4, je5, jef, jez⟩ := own6 (g := w4.heap.size) hb5 (by first | omega | (simp; omega) | (simp; done)) (by (first | ((repeat' first | (with_reducible (first | assumption | (refine heap_at ?_; (first | rfl | (simp; done))) | refine heap_drew ?_ | refine heap_drewN ?_ | refine heap_past ?_ ?_ | refine heap_far ?_ ?_)) | (simp; done) | (simp; omega)); done) | (repeat' first | assumption | (refine heap_at ?_; (simp; done)) | refine heap_drew ?_ | refine heap_drewN ?_ | (refine heap_past ?_ ?_ <;> try (simp; done)) | (refine heap_far ?_ ?_ <;> try (simp; done)))))
    clear kdh kd0 kd1 kd2 kd3 kd4 kd5 kdf kdz
    go_wp2_with fail
    refine (l_eqEventS l2 _ _ _ _ _ hl2 ((OG5.out.rd.below (by (first | ((repeat' first | (with_reducible (first | exact Below.refl _ _ | assumption | refine Below.setCell ?_ ?_ _ | refine Below.alloc ?_ ?_ _ | refine Below.drew ?_ | refine below_drewN ?_ _ | refine Below.trans ?_ (Below.mono (by assumption) ?_))) | omega | (simp; omega) | (simp; done)); done) | (repeat' first | exact Below.refl _ _ | assumption | refine Below.setCell ?_ (by first | omega | (simp; omega) | (simp; done)) _ | refine Below.alloc ?_ (by first | omega | (simp; omega) | (simp; done)) _ | refine Below.drew ?_ | refine below_drewN ?_ _ | refine Below.trans ?_ (Below.mono (by assumption) (by first | omega | (simp; omega) | (simp; done))))))).more (by first | omega | (simp; omega) | (simp; done))) ((OW3.out.rd.below (by (first | ((repeat' first | (with_reducible (first | exact Below.refl _ _ | assumption | refine Below.setCell ?_ ?_ _ | refine Below.alloc ?_ ?_ _ | refine Below.drew ?_ | refine below_drewN ?_ _ | refine Below.trans ?_ (Below.mono (by assumption) ?_))) | omega | (simp; omega) | (simp; done)); done) | (repeat' first | exact Below.refl _ _ | assumption | refine Below.setCell ?_ (by first | omega | (simp; omega) | (simp; done)) _ | refine Below.alloc ?_ (by first | omega | (simp; omega) | (simp; done)) _ | refine Below.drew ?_ | refine below_drewN ?_ _ | refine Below.trans ?_ (Below.mono (by assumption) (by first | omega | (simp; omega) | (simp; done))))))).more (by first | omega | (simp; omega) | (simp; done)))).mono ?_
    rintro e w6 ⟨rfl, hb6⟩
    have z6 := hb6.size
    try simp at z6
    obtain ⟨kfh, kf0, kf1, kf2, kf3, kf4, kf5, kff, kfz⟩ := own6 (g := w.heap.size) hb6 (by first | omega | (simp; omega) | (simp; done)) (by (first | ((repeat' first | (with_reducible (first | assumption | (refine heap_at ?_; (first | rfl | (simp; done))) | refine heap_drew ?_ | refine heap_drewN ?_ | refine heap_past ?_ ?_ | refine heap_far ?_ ?_)) | (simp; done) | (simp; omega)); done) | (repeat' first | assumption | (refine heap_at ?_; (simp; done)) | refine heap_drew ?_ | refine heap_drewN ?_ | (refine heap_past ?_ ?_ <;> try (simp; done)) | (refine heap_far ?_ ?_ <;> try (simp; done)))))
    obtain ⟨jfh, jf0, jf1, jf2, jf3, jf4, jf5, jff, jfz⟩ := own6 (g := w4.heap.size) hb6 (by first | omega | (simp; omega) | (simp; done)) (by (first | ((repeat' first | (with_reducible (first | assumption | (refine heap_at ?_; (first | rfl | (simp; done))) | refine heap_drew ?_ | refine heap_drewN ?_ | refine heap_past ?_ ?_ | refine heap_far ?_ ?_)) | (simp; done) | (simp; omega)); done) | (repeat' first | assumption | (refine heap_at ?_; (simp; done)) | refine heap_drew ?_ | refine heap_drewN ?_ | (refine heap_past ?_ ?_ <;> try (simp; done)) | (refine heap_far ?_ ?_ <;> try (simp; done)))))
    clear keh ke0 ke1 ke2 ke3 ke4 ke5 kef kez jeh je0 je1 je2 je3 je4 je5 jef jez
    go_wp2_with fail
    have OG6 := Lib.hid (OG5.out.below (w' := w6) (by (first | ((repeat' first | (with_reducible (first | exact Below.refl _ _ | assumption | refine Below.setCell ?_ ?_ _ | refine Below.alloc ?_ ?_ _ | refine Below.drew ?_ | refine below_drewN ?_ _ | refine Below.trans ?_ (Below.mono (by assumption) ?_))) | omega | (simp; omega) | (simp; done)); done) | (repeat' first | exact Below.refl _ _ | assumption | refine Below.setCell ?_ (by first | omega | (simp; omega) | (simp; done)) _ | refine Below.alloc ?_ (by first | omega | (simp; omega) | (simp; done)) _ | refine Below.drew ?_ | refine below_drewN ?_ _ | refine Below.trans ?_ (Below.mono (by assumption) (by first | omega | (simp; omega) | (simp; done)))))))
    have OW6 := Lib.hid (OW3.out.below (w' := w6) (by (first | ((repeat' first | (with_reducible (first | exact Below.refl _ _ | assumption | refine Below.setCell ?_ ?_ _ | refine Below.alloc ?_ ?_ _ | refine Below.drew ?_ | refine below_drewN ?_ _ | refine Below.trans ?_ (Below.mono (by assumption) ?_))) | omega | (simp; omega) | (simp; done)); done) | (repeat' first | exact Below.refl _ _ | assumption | refine Below.setCell ?_ (by first | omega | (simp; omega) | (simp; done)) _ | refine Below.alloc ?_ (by first | omega | (simp; omega) | (simp; done)) _ | refine Below.drew ?_ | refine below_drewN ?_ _ | refine Below.trans ?_ (Below.mono (by assumption) (by first | omega | (simp; omega) | (simp; done)))))))
    have R1 := Lib.hid (Q1.out.below (w' := w6) (by (first | ((repeat' first | (with_reducible (first | exact Below.refl _ _ | assumption | refine Below.setCell ?_ ?_ _ | refine Below.alloc ?_ ?_ _ | refine Below.drew ?_ | refine below_drewN ?_ _ | refine Below.trans ?_ (Below.mono (by assumption) ?_))) | omega | (simp; omega) | (simp; done)); done) | (repeat' first | exact Below.refl _ _ | assumption | refine Below.setCell ?_ (by first | omega | (simp; omega) | (simp; done)) _ | refine Below.alloc ?_ (by first | omega | (simp; omega) | (simp; done)) _ | refine Below.drew ?_ | refine below_drewN ?_ _ | refine Below.trans ?_ (Below.mono (by assumption) (by first | omega | (simp; omega) | (simp; done)))))))
    have R2 := Lib.hid (Q2.out.below (w' := w6) (by (first | ((repeat' first | (with_reducible (first | exact Below.refl _ _ | assumption | refine Below.setCell ?_ ?_ _ | refine Below.alloc ?_ ?_ _ | refine Below.drew ?_ | refine below_drewN ?_ _ | refine Below.trans ?_ (Below.mono (by assumption) ?_))) | omega | (simp; omega) | (simp; done)); done) | (repeat' first | exact Below.refl _ _ | assumption | refine Below.setCell ?_ (by first | omega | (simp; omega) | (simp; done)) _ | refine Below.alloc ?_ (by first | omega | (simp; omega) | (simp; done)) _ | refine Below.drew ?_ | refine below_drewN ?_ _ | refine Below.trans ?_ (Below.mono (by assumption) (by first | omega | (simp; omega) | (simp; done)))))))
    have R3 := Lib.hid (Q3.out.below (w' := w6) (by (first | ((repeat' first | (with_reducible (first | exact Below.refl _ _ | assumption | refine Below.setCell ?_ ?_ _ | refine Below.alloc ?_ ?_ _ | refine Below.drew ?_ | refine below_drewN ?_ _ | refine Below.trans ?_ (Below.mono (by assumption) ?_))) | omega | (simp; omega) | (simp; done)); done) | (repeat' first | exact Below.refl _ _ | assumption | refine Below.setCell ?_ (by first | omega | (simp; omega) | (simp; done)) _ | refine Below.alloc ?_ (by first | omega | (simp; omega) | (simp; done)) _ | refine Below.drew ?_ | refine below_drewN ?_ _ | refine Below.trans ?_ (Below.mono (by assumption) (by first | omega | (simp; omega) | (simp; done)))))))
    clear OG5 OW3 Q1 Q2 Q3
    go_region_held3 (fun w' => w'.cell? ⟨w4.heap.size, 0, none⟩ = some (.int .i64 bt) ∧ w'.cell? ⟨w4.heap.size, 1, none⟩ = some (.int .i64 bn) ∧ w'.cell? ⟨w4.heap.size, 2, none⟩ = some (.int .i64 bw) ∧ w'.cell? ⟨w4.heap.size, 3, none⟩ = some (.slice (some ⟨h1, 0, none⟩) cs.length cs.length) ∧ w'.cell? ⟨w4.heap.size, 4, none⟩ = some (.slice (some ⟨h2, 0, none⟩) hs.length hs.length) ∧ w'.cell? ⟨w4.heap.size, 5, none⟩ = some (.slice (some ⟨h3, 0, none⟩) os.length os.length) ∧ w'.cell? ⟨w.heap.size, 0, none⟩ = some (.int .i64 bt) ∧ w'.cell? ⟨w.heap.size, 1, none⟩ = some (.int .i64 bn) ∧ w'.cell? ⟨w.heap.size, 2, none⟩ = some (.int .i64 bw) ∧ w'.cell? ⟨w.heap.size, 3, none⟩ = some (.slice A1 cs.length p1) ∧ w'.cell? ⟨w.heap.size, 4, none⟩ = some (.slice A2 hs.length p2) ∧ w'.cell? ⟨w.heap.size, 5, none⟩ = some (.slice A3 os.length p3)) (first | exact ⟨jf0, jf1, jf2, jf3, jf4, jf5, kf0, kf1, kf2, kf3, kf4, kf5⟩ | exact ⟨jg0, jg1, jg2, jg3, jg4, jg5, kg0, kg1, kg2, kg3, kg4, kg5⟩ | exact ⟨ju0, ju1, ju2, ju3, ju4, ju5, ku0, ku1, ku2, ku3, ku4, ku5⟩)
      (first | (go_at_call 13; refine (l_toBook bt bn bw cs hs os _ _ _ _ _ _ _ hlc hlh hlo ((HR.out.below (by (first | ((repeat' first | (with_reducible (first | exact Below.refl _ _ | assumption | refine Below.setCell ?_ ?_ _ | refine Below.alloc ?_ ?_ _ | refine Below.drew ?_ | refine below_drewN ?_ _ | refine Below.trans ?_ (Below.mono (by assumption) ?_))) | omega | (simp; omega) | (simp; done)); done) | (repeat' first | exact Below.refl _ _ | assumption | refine Below.setCell ?_ (by first | omega | (simp; omega) | (simp; done)) _ | refine Below.alloc ?_ (by first | omega | (simp; omega) | (simp; done)) _ | refine Below.drew ?_ | refine below_drewN ?_ _ | refine Below.trans ?_ (Below.mono (by assumption) (by first | omega | (simp; omega) | (simp; done))))))).more (by first | omega | (simp; omega) | (simp; done)))).mono ?_; rintro e w7 ⟨i1, i2, i3, rfl, o1, o2, o3, hb7⟩; have z7 := hb7.size; (try simp at z7); have HO7 := Lib.hid (RdBook.mk o1.rd o2.rd o3.rd); clear o1 o2 o3; obtain ⟨kgh, kg0, kg1, kg2, kg3, kg4, kg5, kgf, kgz⟩ := own6 (g := w.heap.size) hb7 (by first | omega | (simp; omega) | (simp; done)) (by (first | ((repeat' first | (with_reducible (first | assumption | (refine heap_at ?_; (first | rfl | (simp; done))) | refine heap_drew ?_ | refine heap_drewN ?_ | refine heap_past ?_ ?_ | refine heap_far ?_ ?_)) | (simp; done) | (simp; omega)); done) | (repeat' first | assumption | (refine heap_at ?_; (simp; done)) | refine heap_drew ?_ | refine heap_drewN ?_ | (refine heap_past ?_ ?_ <;> try (simp; done)) | (refine heap_far ?_ ?_ <;> try (simp; done))))); obtain ⟨jgh, jg0, jg1, jg2, jg3, jg4, jg5, jgf, jgz⟩ := own6 (g := w4.heap.size) hb7 (by first | omega | (simp; omega) | (simp; done)) (by (first | ((repeat' first | (with_reducible (first | assumption | (refine heap_at ?_; (first | rfl | (simp; done))) | refine heap_drew ?_ | refine heap_drewN ?_ | refine heap_past ?_ ?_ | refine heap_far ?_ ?_)) | (simp; done) | (simp; omega)); done) | (repeat' first | assumption | (refine heap_at ?_; (simp; done)) | refine heap_drew ?_ | refine heap_drewN ?_ | (refine heap_past ?_ ?_ <;> try (simp; done)) | (refine heap_far ?_ ?_ <;> try (simp; done))))); clear kfh kf0 kf1 kf2 kf3 kf4 kf5 kff kfz jfh jf0 jf1 jf2 jf3 jf4 jf5 jff jfz)
             | (go_at_call 15; refine (l_eqBook bt bn bw cs hs os _ _ _ _ _ _ _ _ _ _ _ _ _ hlc hlh hlo ((HO4.out.below (by (first | ((repeat' first | (with_reducible (first | exact Below.refl _ _ | assumption | refine Below.setCell ?_ ?_ _ | refine Below.alloc ?_ ?_ _ | refine Below.drew ?_ | refine below_drewN ?_ _ | refine Below.trans ?_ (Below.mono (by assumption) ?_))) | omega | (simp; omega) | (simp; done)); done) | (repeat' first | exact Below.refl _ _ | assumption | refine Below.setCell ?_ (by first | omega | (simp; omega) | (simp; done)) _ | refine Below.alloc ?_ (by first | omega | (simp; omega) | (simp; done)) _ | refine Below.drew ?_ | refine below_drewN ?_ _ | refine Below.trans ?_ (Below.mono (by assumption) (by first | omega | (simp; omega) | (simp; done))))))).more (by first | omega | (simp; omega) | (simp; done))) ((HO7.out.below (by (first | ((repeat' first | (with_reducible (first | exact Below.refl _ _ | assumption | refine Below.setCell ?_ ?_ _ | refine Below.alloc ?_ ?_ _ | refine Below.drew ?_ | refine below_drewN ?_ _ | refine Below.trans ?_ (Below.mono (by assumption) ?_))) | omega | (simp; omega) | (simp; done)); done) | (repeat' first | exact Below.refl _ _ | assumption | refine Below.setCell ?_ (by first | omega | (simp; omega) | (simp; done)) _ | refine Below.alloc ?_ (by first | omega | (simp; omega) | (simp; done)) _ | refine Below.drew ?_ | refine below_drewN ?_ _ | refine Below.trans ?_ (Below.mono (by assumption) (by first | omega | (simp; omega) | (simp; done))))))).more (by first | omega | (simp; omega) | (simp; done)))).mono ?_; rintro e w8 ⟨rfl, hb8⟩; have z8 := hb8.size; (try simp at z8); obtain ⟨kuh, ku0, ku1, ku2, ku3, ku4, ku5, kuf, kuz⟩ := own6 (g := w.heap.size) hb8 (by first | omega | (simp; omega) | (simp; done)) (by (first | ((repeat' first | (with_reducible (first | assumption | (refine heap_at ?_; (first | rfl | (simp; done))) | refine heap_drew ?_ | refine heap_drewN ?_ | refine heap_past ?_ ?_ | refine heap_far ?_ ?_)) | (simp; done) | (simp; omega)); done) | (repeat' first | assumption | (refine heap_at ?_; (simp; done)) | refine heap_drew ?_ | refine heap_drewN ?_ | (refine heap_past ?_ ?_ <;> try (simp; done)) | (refine heap_far ?_ ?_ <;> try (simp; done))))); obtain ⟨juh, ju0, ju1, ju2, ju3, ju4, ju5, juf, juz⟩ := own6 (g := w4.heap.size) hb8 (by first | omega | (simp; omega) | (simp; done)) (by (first | ((repeat' first | (with_reducible (first | assumption | (refine heap_at ?_; (first | rfl | (simp; done))) | refine heap_drew ?_ | refine heap_drewN ?_ | refine heap_past ?_ ?_ | refine heap_far ?_ ?_)) | (simp; done) | (simp; omega)); done) | (repeat' first | assumption | (refine heap_at ?_; (simp; done)) | refine heap_drew ?_ | refine heap_drewN ?_ | (refine heap_past ?_ ?_ <;> try (simp; done)) | (refine heap_far ?_ ?_ <;> try (simp; done))))); clear kgh kg0 kg1 kg2 kg3 kg4 kg5 kgf kgz jgh jg0 jg1 jg2 jg3 jg4 jg5 jgf jgz))
    go_wp2_with fail
    have OG8 := Lib.hid (OG6.out.below (w' := w8) (by (first | ((repeat' first | (with_reducible (first | exact Below.refl _ _ | assumption | refine Below.setCell ?_ ?_ _ | refine Below.alloc ?_ ?_ _ | refine Below.drew ?_ | refine below_drewN ?_ _ | refine Below.trans ?_ (Below.mono (by assumption) ?_))) | omega | (simp; omega) | (simp; done)); done) | (repeat' first | exact Below.refl _ _ | assumption | refine Below.setCell ?_ (by first | omega | (simp; omega) | (simp; done)) _ | refine Below.alloc ?_ (by first | omega | (simp; omega) | (simp; done)) _ | refine Below.drew ?_ | refine below_drewN ?_ _ | refine Below.trans ?_ (Below.mono (by assumption) (by first | omega | (simp; omega) | (simp; done)))))))
    have OW8 := Lib.hid (OW6.out.below (w' := w8) (by (first | ((repeat' first | (with_reducible (first | exact Below.refl _ _ | assumption | refine Below.setCell ?_ ?_ _ | refine Below.alloc ?_ ?_ _ | refine Below.drew ?_ | refine below_drewN ?_ _ | refine Below.trans ?_ (Below.mono (by assumption) ?_))) | omega | (simp; omega) | (simp; done)); done) | (repeat' first | exact Below.refl _ _ | assumption | refine Below.setCell ?_ (by first | omega | (simp; omega) | (simp; done)) _ | refine Below.alloc ?_ (by first | omega | (simp; omega) | (simp; done)) _ | refine Below.drew ?_ | refine below_drewN ?_ _ | refine Below.trans ?_ (Below.mono (by assumption) (by first | omega | (simp; omega) | (simp; done)))))))
    have T1 := Lib.hid (R1.out.below (w' := w8) (by (first | ((repeat' first | (with_reducible (first | exact Below.refl _ _ | assumption | refine Below.setCell ?_ ?_ _ | refine Below.alloc ?_ ?_ _ | refine Below.drew ?_ | refine below_drewN ?_ _ | refine Below.trans ?_ (Below.mono (by assumption) ?_))) | omega | (simp; omega) | (simp; done)); done) | (repeat' first | exact Below.refl _ _ | assumption | refine Below.setCell ?_ (by first | omega | (simp; omega) | (simp; done)) _ | refine Below.alloc ?_ (by first | omega | (simp; omega) | (simp; done)) _ | refine Below.drew ?_ | refine below_drewN ?_ _ | refine Below.trans ?_ (Below.mono (by assumption) (by first | omega | (simp; omega) | (simp; done)))))))
    have T2 := Lib.hid (R2.out.below (w' := w8) (by (first | ((repeat' first | (with_reducible (first | exact Below.refl _ _ | assumption | refine Below.setCell ?_ ?_ _ | refine Below.alloc ?_ ?_ _ | refine Below.drew ?_ | refine below_drewN ?_ _ | refine Below.trans ?_ (Below.mono (by assumption) ?_))) | omega | (simp; omega) | (simp; done)); done) | (repeat' first | exact Below.refl _ _ | assumption | refine Below.setCell ?_ (by first | omega | (simp; omega) | (simp; done)) _ | refine Below.alloc ?_ (by first | omega | (simp; omega) | (simp; done)) _ | refine Below.drew ?_ | refine below_drewN ?_ _ | refine Below.trans ?_ (Below.mono (by assumption) (by first | omega | (simp; omega) | (simp; done)))))))
    have T3 := Lib.hid (R3.out.below (w' := w8) (by (first | ((repeat' first | (with_reducible (first | exact Below.refl _ _ | assumption | refine Below.setCell ?_ ?_ _ | refine Below.alloc ?_ ?_ _ | refine Below.drew ?_ | refine below_drewN ?_ _ | refine Below.trans ?_ (Below.mono (by assumption) ?_))) | omega | (simp; omega) | (simp; done)); done) | (repeat' first | exact Below.refl _ _ | assumption | refine Below.setCell ?_ (by first | omega | (simp; omega) | (simp; done)) _ | refine Below.alloc ?_ (by first | omega | (simp; omega) | (simp; done)) _ | refine Below.drew ?_ | refine below_drewN ?_ _ | refine Below.trans ?_ (Below.mono (by assumption) (by first | omega | (simp; omega) | (simp; done)))))))
    have hbw8 : Below w.heap.size w w8 := by (first | ((repeat' first | (with_reducible (first | exact Below.refl _ _ | assumption | refine Below.setCell ?_ ?_ _ | refine Below.alloc ?_ ?_ _ | refine Below.drew ?_ | refine below_drewN ?_ _ | refine Below.trans ?_ (Below.mono (by assumption) ?_))) | omega | (simp; omega) | (simp; done)); done) | (repeat' first | exact Below.refl _ _ | assumption | refine Below.setCell ?_ (by first | omega | (simp; omega) | (simp; done)) _ | refine Below.alloc ?_ (by first | omega | (simp; omega) | (simp; done)) _ | refine Below.drew ?_ | refine below_drewN ?_ _ | refine Below.trans ?_ (Below.mono (by assumption) (by first | omega | (simp; omega) | (simp; done)))))
    clear OG6 OW6 R1 R2 R3
    refine (l_markBook bt bn bw h1 h2 h3 cs.length hs.length os.length _ _ _ 1 _ (by decide) (by decide) hlc hlh hlo (Nat.le_refl _) (Nat.le_refl _) (Nat.le_refl _) (Fill.of_ow T1.out) (Fill.of_ow T2.out) (Fill.of_ow T3.out)).mono ?_
    rintro e w9 ⟨he, wa, wb, ga, gb, gc⟩
    rw [HLX.out] at he
    subst he
    have za := ga.size
    have zb := gb.size
    have z9 := gc.size
    have kv := heap_grown gc (n := w.heap.size) (by simp; omega) (heap_grown gb (n := w.heap.size) (by simp; omega) (heap_grown ga (n := w.heap.size) (by simp; omega) kuh))
    obtain ⟨kvv, kv0, kv1, kv2, kv3, kv4, kv5, kvf, kvz⟩ := own6 (Below.refl w9.heap.size w9) (Array.getElem?_eq_some_iff.1 kv).1 kv
    have OG9 := Lib.hid (((OG8.out.grown ga (.inr (fun e => by have := bkg.out _ e; omega))).grown gb (.inr (fun e => by have := bkg.out _ e; omega))).grown gc (.inr (fun e => by have := bkg.out _ e; omega)))
    have OW9 := Lib.hid (((OW8.out.grown ga (.inr (fun e => by have := bkw.out _ e; omega))).grown gb (.inr (fun e => by have := bkw.out _ e; omega))).grown gc (.inr (fun e => by have := bkw.out _ e; omega)))
    have hbw9 : Below w.heap.size w w9 := ((hbw8.grown ga (by omega) (fun k e => by cases e; omega)).grown gb (by omega) (fun k e => by cases e; omega)).grown gc (by omega) (fun k e => by cases e; omega)
    clear OG8 OW8 T1 T2 T3 ga gb gc kv kuh ku0 ku1 ku2 ku3 ku4 ku5 kuf kuz juh ju0 ju1 ju2 ju3 ju4 ju5 juf juz
    go_wp2_with fail
    refine (l_eqEventS l2 _ _ _ _ _ hl2 (OG9.out.rd.more (by omega)) (OW9.out.rd.more (by omega))).mono ?_
    rintro e w10 ⟨rfl, hb10⟩
    have z10 := hb10.size
    obtain ⟨kmh, km0, km1, km2, km3, km4, km5, kmf, kmz⟩ := own6 (g := w.heap.size) hb10 (by first | omega | (simp; omega) | (simp; done)) (by (first | ((repeat' first | (with_reducible (first | assumption | (refine heap_at ?_; (first | rfl | (simp; done))) | refine heap_drew ?_ | refine heap_drewN ?_ | refine heap_past ?_ ?_ | refine heap_far ?_ ?_)) | (simp; done) | (simp; omega)); done) | (repeat' first | assumption | (refine heap_at ?_; (simp; done)) | refine heap_drew ?_ | refine heap_drewN ?_ | (refine heap_past ?_ ?_ <;> try (simp; done)) | (refine heap_far ?_ ?_ <;> try (simp; done)))))
    have OG10 := Lib.hid (OG9.out.below hb10)
    have OW10 := Lib.hid (OW9.out.below hb10)
    have hbw10 : Below w.heap.size w w10 := by (first | ((repeat' first | (with_reducible (first | exact Below.refl _ _ | assumption | refine Below.setCell ?_ ?_ _ | refine Below.alloc ?_ ?_ _ | refine Below.drew ?_ | refine below_drewN ?_ _ | refine Below.trans ?_ (Below.mono (by assumption) ?_))) | omega | (simp; omega) | (simp; done)); done) | (repeat' first | exact Below.refl _ _ | assumption | refine Below.setCell ?_ (by first | omega | (simp; omega) | (simp; done)) _ | refine Below.alloc ?_ (by first | omega | (simp; omega) | (simp; done)) _ | refine Below.drew ?_ | refine below_drewN ?_ _ | refine Below.trans ?_ (Below.mono (by assumption) (by first | omega | (simp; omega) | (simp; done)))))
    clear OG9 OW9
    clear kvv kv0 kv1 kv2 kv3 kv4 kv5 kvf kvz
    go_wp2_with fail
    refine (l_markEventS (w4.heap.size + 1) _ (l2.map Event.cells) _ _ (by decide) (by decide) (by rw [List.length_map]; omega) OG10.out).mono ?_
    rintro e w11 ⟨he, hmk, hgr11⟩
    rw [List.length_map] at he hmk
    rw [HLG.out] at he
    subst he
    have HMK := Lib.hid (hmk _ _ _ rfl)
    have z11 := hgr11.size
    obtain ⟨knh, kn0, kn1, kn2, kn3, kn4, kn5, knf, knz⟩ := ownG6 hgr11 (OG10.out.ne_ kmh (by decide)) kmh
    have OW11 := Lib.hid (OW10.out.grown hgr11 (by
      cases hv : (Value.slice AW l2.length capw).ownBlock with
      | none => exact .inl rfl
      | some k =>
        refine .inr (fun e => ?_)
        have h1 := bkw.out k hv
        have h2 := bkg.out k e.symm
        omega))
    have hbw11 : Below w.heap.size w w11 := hbw10.grown hgr11 (by omega) (fun k e => by have := (bkg.out k e).1; omega)
    clear OG10 OW10 hmk hgr11
    clear kmh km0 km1 km2 km3 km4 km5 kmf kmz
    go_wp2_with fail
    refine (l_heldEventS _ _ _ _ _ (by decide) (by decide) (by omega) HMK.out).mono ?_
    rintro e _ ⟨he, rfl⟩
    rw [HLG.out] at he
    subst he
    go_wp2_with fail
    refine (l_toBook bt bn bw cs hs os _ _ _ _ _ _ _ hlc hlh hlo ((HR.out.below (by (first | ((repeat' first | (with_reducible (first | exact Below.refl _ _ | assumption | refine Below.setCell ?_ ?_ _ | refine Below.alloc ?_ ?_ _ | refine Below.drew ?_ | refine below_drewN ?_ _ | refine Below.trans ?_ (Below.mono (by assumption) ?_))) | omega | (simp; omega) | (simp; done)); done) | (repeat' first | exact Below.refl _ _ | assumption | refine Below.setCell ?_ (by first | omega | (simp; omega) | (simp; done)) _ | refine Below.alloc ?_ (by first | omega | (simp; omega) | (simp; done)) _ | refine Below.drew ?_ | refine below_drewN ?_ _ | refine Below.trans ?_ (Below.mono (by assumption) (by first | omega | (simp; omega) | (simp; done))))))).more (by first | omega | (simp; omega) | (simp; done)))).mono ?_
    rintro e w13 ⟨i1, i2, i3, rfl, o1, o2, o3, hb13⟩
    have z13 := hb13.size
    have HO13 := Lib.hid (RdBook.mk o1.rd o2.rd o3.rd)
    clear o1 o2 o3
    obtain ⟨koh, ko0, ko1, ko2, ko3, ko4, ko5, kof, koz⟩ := own6 (g := w.heap.size) hb13 (by first | omega | (simp; omega) | (simp; done)) (by (first | ((repeat' first | (with_reducible (first | assumption | (refine heap_at ?_; (first | rfl | (simp; done))) | refine heap_drew ?_ | refine heap_drewN ?_ | refine heap_past ?_ ?_ | refine heap_far ?_ ?_)) | (simp; done) | (simp; omega)); done) | (repeat' first | assumption | (refine heap_at ?_; (simp; done)) | refine heap_drew ?_ | refine heap_drewN ?_ | (refine heap_past ?_ ?_ <;> try (simp; done)) | (refine heap_far ?_ ?_ <;> try (simp; done)))))
    clear knh kn0 kn1 kn2 kn3 kn4 kn5 knf knz
    go_wp2_with fail
    refine (HI.out _ _ _ _ _ _ _ HO13.out).mono ?_
    rintro e w14 ⟨A14, cap14, rfl, how14, hb14⟩
    have z14 := hb14.size
    have OH14 := Lib.hid how14
    clear how14
    go_wp2_with fail
    refine (l_eqEventS l2 _ _ _ _ _ hl2 ((OH14.out.rd.below (by (first | ((repeat' first | (with_reducible (first | exact Below.refl _ _ | assumption | refine Below.setCell ?_ ?_ _ | refine Below.alloc ?_ ?_ _ | refine Below.drew ?_ | refine below_drewN ?_ _ | refine Below.trans ?_ (Below.mono (by assumption) ?_))) | omega | (simp; omega) | (simp; done)); done) | (repeat' first | exact Below.refl _ _ | assumption | refine Below.setCell ?_ (by first | omega | (simp; omega) | (simp; done)) _ | refine Below.alloc ?_ (by first | omega | (simp; omega) | (simp; done)) _ | refine Below.drew ?_ | refine below_drewN ?_ _ | refine Below.trans ?_ (Below.mono (by assumption) (by first | omega | (simp; omega) | (simp; done))))))).more (by first | omega | (simp; omega) | (simp; done))) ((OW11.out.rd.below (by (first | ((repeat' first | (with_reducible (first | exact Below.refl _ _ | assumption | refine Below.setCell ?_ ?_ _ | refine Below.alloc ?_ ?_ _ | refine Below.drew ?_ | refine below_drewN ?_ _ | refine Below.trans ?_ (Below.mono (by assumption) ?_))) | omega | (simp; omega) | (simp; done)); done) | (repeat' first | exact Below.refl _ _ | assumption | refine Below.setCell ?_ (by first | omega | (simp; omega) | (simp; done)) _ | refine Below.alloc ?_ (by first | omega | (simp; omega) | (simp; done)) _ | refine Below.drew ?_ | refine below_drewN ?_ _ | refine Below.trans ?_ (Below.mono (by assumption) (by first | omega | (simp; omega) | (simp; done))))))).more (by first | omega | (simp; omega) | (simp; done)))).mono ?_
    rintro e w15 ⟨rfl, hb15⟩
    have z15 := hb15.size
    try simp at z15
    go_wp2_with fail
    refine (l_heldEventS _ _ _ _ _ (by decide) (by decide) (by omega) (HMK.out.below (by (first | ((repeat' first | (with_reducible (first | exact Below.refl _ _ | assumption | refine Below.setCell ?_ ?_ _ | refine Below.alloc ?_ ?_ _ | refine Below.drew ?_ | refine below_drewN ?_ _ | refine Below.trans ?_ (Below.mono (by assumption) ?_))) | omega | (simp; omega) | (simp; done)); done) | (repeat' first | exact Below.refl _ _ | assumption | refine Below.setCell ?_ (by first | omega | (simp; omega) | (simp; done)) _ | refine Below.alloc ?_ (by first | omega | (simp; omega) | (simp; done)) _ | refine Below.drew ?_ | refine below_drewN ?_ _ | refine Below.trans ?_ (Below.mono (by assumption) (by first | omega | (simp; omega) | (simp; done)))))))).mono ?_
    rintro e _ ⟨he, rfl⟩
    rw [HLG.out] at he
    subst he
    go_wp2_with fail
    go_ret
    refine ⟨rfl, ?_⟩
    (first | ((repeat' first | (with_reducible (first | exact Below.refl _ _ | assumption | refine Below.setCell ?_ ?_ _ | refine Below.alloc ?_ ?_ _ | refine Below.drew ?_ | refine below_drewN ?_ _ | refine Below.trans ?_ (Below.mono (by assumption) ?_))) | omega | (simp; omega) | (simp; done)); done) | (repeat' first | exact Below.refl _ _ | assumption | refine Below.setCell ?_ (by first | omega | (simp; omega) | (simp; done)) _ | refine Below.alloc ?_ (by first | omega | (simp; omega) | (simp; done)) _ | refine Below.drew ?_ | refine below_drewN ?_ _ | refine Below.trans ?_ (Below.mono (by assumption) (by first | omega | (simp; omega) | (simp; done)))))
  · have hl' : (1048576 : Int) < (cs.length : Int) + hs.length + os.length := by omega
    clear hl
    have HL := Lib.hid hl'
    clear hl'
    go_enter Try.func10, Try.ntmps10
    go_wp2_with fail
    refine (l_szBook_no bt bn bw cs hs os _ _ _ _ _ _ _ _ (by omega) (by omega) M1.out M2.out M3.out HL.out).mono ?_
    rintro e w1 ⟨rfl, hb1⟩
    have z1 := hb1.size
    try simp at z1
    go_wp2_with fail
    go_ret
    refine ⟨rfl, ?_⟩
    (first | ((repeat' first | (with_reducible (first | exact Below.refl _ _ | assumption | refine Below.setCell ?_ ?_ _ | refine Below.alloc ?_ ?_ _ | refine Below.drew ?_ | refine below_drewN ?_ _ | refine Below.trans ?_ (Below.mono (by assumption) ?_))) | omega | (simp; omega) | (simp; done)); done) | (repeat' first | exact Below.refl _ _ | assumption | refine Below.setCell ?_ (by first | omega | (simp; omega) | (simp; done)) _ | refine Below.alloc ?_ (by first | omega | (simp; omega) | (simp; done)) _ | refine Below.drew ?_ | refine below_drewN ?_ _ | refine Below.trans ?_ (Below.mono (by assumption) (by first | omega | (simp; omega) | (simp; done)))))
theorem FnExactSweep_own : ownKnob Try.prog.godebug = none := by kernel_rfl
theorem FnExactSweep_laidOut : laidOutB Try.prog = true := by kernel_rfl
set_option maxRecDepth 100000 in
theorem FnExactSweep_lifted (os : Os) (started : os.Started) (H : Type) (enc : TypeId × Value → H) :
    ReturnsInHanded {} Try.checked os 10 .any (Rows.fnExactSweepSpec.pre6 enc Try.prog Try.f10 Rows.fnExactSweepRow.domain false) (Rows.fnExactSweepSpec.post enc Try.prog Try.f10 false true false false) := by
  refine returnsInHanded_of_change (C := Try.checked) FnExactSweep_own started (by kernel_rfl) Try.func10
    (ChangeSpec.witness6 (enc := enc) (C := Try.checked) false ⟨#[], #[.agg #[.int .i64 0, .int .i64 0, .int .i64 0, .slice none 0 0, .slice none 0 0, .slice none 0 0], .int .i64 0], []⟩ 8 (by kernel_rfl) (by kernel_rfl) (by kernel_rfl) (by kernel_rfl)) ?_
  intro W base args ds gs before hval0 hW hcnd _
  have hval : ∀ (j : Nat) t v, Try.f10.params[j]? = some t → args[j]? = some v → Value.okWide Try.prog W .any base t v := hval0
  have hW' := hW
  obtain ⟨p, q, hA0, hV, rfl, hfz, hnd⟩ := hW
  have hA : DataW.TrodAll enc Try.prog W 0 (fun _ => true) true Try.f10.params.toList args.toList ds p := hA0
  rw [Try.params10] at hA hval
  obtain ⟨v0, vs0, d0, ds0, p0, q0, hargs, rfl, rfl, h0, r0⟩ := trodAll_cons hA
  obtain ⟨v1, vs1, d1, ds1, p1, q1, rfl, rfl, rfl, h1, r1⟩ := trodAll_cons r0
  obtain ⟨rfl, rfl, rfl⟩ := trodAll_nil r1
  obtain rfl : args = #[v0, v1] := by cases args; simp_all
  obtain ⟨c0_0, c0_1, c0_2, c0_3, c0_4, c0_5, y0_0, y0_1, y0_2, y0_3, y0_4, y0_5, m0, rfl, _, _, hy0_0, hy0_1, hy0_2, hy0_3, hy0_4, hy0_5⟩ := open_agg6 Try.underlying26 (by kernel_rfl) (by kernel_rfl) (hval 0 26 v0 rfl rfl) h0
  obtain ⟨a0_0, e0_0, _, _⟩ := DataW.trod_int Try.underlying3 hy0_0
  simp only [List.cons.injEq, and_true] at e0_0
  subst e0_0
  obtain ⟨a0_1, e0_1, _, _⟩ := DataW.trod_int Try.underlying3 hy0_1
  simp only [List.cons.injEq, and_true] at e0_1
  subst e0_1
  obtain ⟨a0_2, e0_2, _, _⟩ := DataW.trod_int Try.underlying3 hy0_2
  simp only [List.cons.injEq, and_true] at e0_2
  subst e0_2
  obtain ⟨A0_3, len0_3, cap0_3, rows0_3, rfl, hlen0_3, hflat0_3, hrd0_3, hlc0_3, hcm0_3⟩ := rd_of_trod' (n := 4) (ks := [true, true, true, true, true, true, true]) Try.underlying22 (by kernel_rfl) (by kernel_rfl) (by decide) hy0_3
  obtain ⟨l0_3, rfl, _⟩ := rows_of Chan.cells (fun _ => True) rows0_3 (fun r hr => Chan.of_flat (hflat0_3 r hr))
  rw [List.length_map] at hlen0_3
  subst hlen0_3
  obtain ⟨A0_4, len0_4, cap0_4, rows0_4, rfl, hlen0_4, hflat0_4, hrd0_4, hlc0_4, hcm0_4⟩ := rd_of_trod' (n := 4) (ks := [true, true, true, true, true, false, true]) Try.underlying23 (by kernel_rfl) (by kernel_rfl) (by decide) hy0_4
  obtain ⟨l0_4, rfl, _⟩ := rows_of Htlc.cells (fun _ => True) rows0_4 (fun r hr => Htlc.of_flat (hflat0_4 r hr))
  rw [List.length_map] at hlen0_4
  subst hlen0_4
  obtain ⟨A0_5, len0_5, cap0_5, rows0_5, rfl, hlen0_5, hflat0_5, hrd0_5, hlc0_5, hcm0_5⟩ := rd_of_trod' (n := 4) (ks := [true, true, true, true, true]) Try.underlying24 (by kernel_rfl) (by kernel_rfl) (by decide) hy0_5
  obtain ⟨l0_5, rfl, _⟩ := rows_of Circle.cells (fun _ => True) rows0_5 (fun r hr => Circle.of_flat (hflat0_5 r hr))
  rw [List.length_map] at hlen0_5
  subst hlen0_5
  obtain ⟨x1, rfl, _, _, w1⟩ := open_int Try.underlying3 (hval 1 3 v1 rfl rfl) h1
  refine (l_FnExactSweep _ _ _ _ _ _ _ _ _ _ _ _ x1 W (by omega) (by omega) (by omega) ⟨hrd0_3, hrd0_4, hrd0_5⟩).mono fun e W' ⟨he, hb⟩ => ⟨_, he, ?_⟩
  exact law_post FnExactSweep_laidOut (by kernel_rfl) (tb := 4) rfl Try.underlying4 rfl (fun ds' hl => by match ds', hl with | [_, _], _ => rfl) hW' hb

theorem FnExactSweep_holds : Rows.FnExactSweepSaid :=
  OpenClaim.holds_of_wide 10 Try.f10 rfl rfl rfl rfl rfl rfl rfl ⟨rfl, rfl, rfl, rfl, rfl⟩ rfl rfl rfl rfl rfl (by kernel_rfl) Try.func10 (by kernel_rfl)
    (of_decide_eq_true (by kernel_rfl)) (by unfold Func.isWrapper; first | (rw [if_pos (by decide +kernel)]; kernel_rfl) | (rw [if_neg (by decide +kernel)]; exact ⟨rfl, rfl⟩))
    (fun os started H enc _ => FnExactSweep_lifted os started H enc)
#print axioms FnExactSweep_holds
end Go.Proofs.Ytmafdoloidlfeaa
