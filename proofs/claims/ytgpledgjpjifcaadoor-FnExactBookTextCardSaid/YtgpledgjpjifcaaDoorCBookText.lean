/- The program's BookText returns what the reference's returns, for all arguments; the tied card. -/
import Derived.Test.YtgpledgjpjifcaaDoorRows
import Derived.Test.YtgpledgjpjifcaaDoorCards
import Derived.Test.YtgpledgjpjifcaaDoorTie
import Derived.Test.YtgpledgjpjifcaaDoorBkTx
import Derived.Test.YtgpledgjpjifcaaDoorBookL
import Derived.Test.YtgpledgjpjifcaaDoorBookR
import Derived.Test.YtgpledgjpjifcaaDoorLdRow
import Derived.SevenTiedAt
import Derived.Deep.RegionHeld3
namespace Go.Proofs.YtgpledgjpjifcaaDoor
open Go.ChangeShapes Go.WideShapes Go.ChangeAt Go.RowKit

set_option maxRecDepth 100000 in
set_option maxHeartbeats 4000000 in
theorem l_FnExactBookText (bt bn bw : Int) (cs : List Chan) (hs : List Htlc) (os : List Circle) (A1 A2 A3 : Option Addr) (p1 p2 p3 : Nat) (w : World) (hld : Ld w) (m1 : cs.length ≤ maxLen) (m2 : hs.length ≤ maxLen) (m3 : os.length ≤ maxLen) (hr : RdBook w w.heap.size A1 cs A2 hs A3 os) :
    Calls Tryd.prog 6 #[.agg #[.int .i64 bt, .int .i64 bn, .int .i64 bw, .slice A1 cs.length p1, .slice A2 hs.length p2, .slice A3 os.length p3]] w fun e w' => e = .returned (.bool true) ∧ Below w.heap.size w w' := by
  have HR := Lib.hid hr
  have HLD := Lib.hid hld
  clear hld
  have M1 := Lib.hid m1
  have M2 := Lib.hid m2
  have M3 := Lib.hid m3
  clear hr m1 m2 m3
  by_cases hl : (cs.length : Int) + hs.length + os.length ≤ 1048576
  · have hlc : cs.length ≤ 1048576 := by omega
    have hlh : hs.length ≤ 1048576 := by omega
    have hlo : os.length ≤ 1048576 := by omega
    have hz : decide ((1048576 : Int) - cs.length - hs.length - os.length < 0) = false := decide_eq_false (by omega)
    obtain ⟨S, CS, CI⟩ : ∃ S : ByteArray, Hid (∀ (A1 A2 A3 : Option Addr) (p1 p2 p3 : Nat) (W : World), cs.length ≤ 1048576 → hs.length ≤ 1048576 → os.length ≤ 1048576 → RdBook W W.heap.size A1 cs A2 hs A3 os → Calls Tryd.prog 25 #[.agg #[.int .i64 bt, .int .i64 bn, .int .i64 bw, .slice A1 cs.length p1, .slice A2 hs.length p2, .slice A3 os.length p3]] W fun e w' => e = .returned (.string S) ∧ Below W.heap.size W w') ∧
        Hid (∀ (A1 A2 A3 : Option Addr) (p1 p2 p3 : Nat) (W : World), Ld W → cs.length ≤ 1048576 → hs.length ≤ 1048576 → os.length ≤ 1048576 → RdBook W W.heap.size A1 cs A2 hs A3 os → Calls Tryd.prog 27 #[.agg #[.int .i64 bt, .int .i64 bn, .int .i64 bw, .slice A1 cs.length p1, .slice A2 hs.length p2, .slice A3 os.length p3]] W fun e w' => e = .returned (.string S) ∧ Below W.heap.size W w') :=
      ⟨_, Lib.hid fun A1 A2 A3 p1 p2 p3 W h1 h2 h3 h4 => s_BookText bt bn bw cs hs os A1 A2 A3 p1 p2 p3 W h1 h2 h3 h4, Lib.hid fun A1 A2 A3 p1 p2 p3 W h h1 h2 h3 h4 => i_BookText bt bn bw cs hs os A1 A2 A3 p1 p2 p3 W h h1 h2 h3 h4⟩
    go_enter Tryd.func6, Tryd.ntmps6
    go_wp2_with fail
    refine (l_szBook_ok bt bn bw cs hs os _ _ _ _ _ _ _ _ (by omega) hl).mono ?_
    rintro e w1 ⟨rfl, hb1⟩
    have z1 := hb1.size
    try simp at z1
    clear hl
    obtain ⟨kah, ka0, ka1, ka2, ka3, ka4, ka5, kaf, kaz⟩ := own6 (g := w.heap.size) hb1 (by first | omega | (simp; omega) | (simp; done)) (by (first | ((repeat' first | (with_reducible (first | assumption | (refine heap_at ?_; (first | rfl | (simp; done))) | refine heap_drew ?_ | refine heap_drewN ?_ | refine heap_past ?_ ?_ | refine heap_far ?_ ?_)) | (simp; done) | (simp; omega)); done) | (repeat' first | assumption | (refine heap_at ?_; (simp; done)) | refine heap_drew ?_ | refine heap_drewN ?_ | (refine heap_past ?_ ?_ <;> try (simp; done)) | (refine heap_far ?_ ?_ <;> try (simp; done)))))
    go_wp2_with fail
    refine (l_toBook bt bn bw cs hs os _ _ _ _ _ _ _ hlc hlh hlo ((HR.out.below (by (first | ((repeat' first | (with_reducible (first | exact Below.refl _ _ | assumption | refine Below.setCell ?_ ?_ _ | refine Below.alloc ?_ ?_ _ | refine Below.drew ?_ | refine below_drewN ?_ _ | refine Below.trans ?_ (Below.mono (by assumption) ?_))) | omega | (simp; omega) | (simp; done)); done) | (repeat' first | exact Below.refl _ _ | assumption | refine Below.setCell ?_ (by first | omega | (simp; omega) | (simp; done)) _ | refine Below.alloc ?_ (by first | omega | (simp; omega) | (simp; done)) _ | refine Below.drew ?_ | refine below_drewN ?_ _ | refine Below.trans ?_ (Below.mono (by assumption) (by first | omega | (simp; omega) | (simp; done))))))).more (by first | omega | (simp; omega) | (simp; done)))).mono ?_
    rintro e w2 ⟨g1, g2, g3, rfl, o1, o2, o3, hb2⟩
    have z2 := hb2.size
    have HO2 := Lib.hid (RdBook.mk o1.rd o2.rd o3.rd)
    clear o1 o2 o3
    obtain ⟨kbh, kb0, kb1, kb2, kb3, kb4, kb5, kbf, kbz⟩ := own6 (g := w.heap.size) hb2 (by first | omega | (simp; omega) | (simp; done)) (by (first | ((repeat' first | (with_reducible (first | assumption | (refine heap_at ?_; (first | rfl | (simp; done))) | refine heap_drew ?_ | refine heap_drewN ?_ | refine heap_past ?_ ?_ | refine heap_far ?_ ?_)) | (simp; done) | (simp; omega)); done) | (repeat' first | assumption | (refine heap_at ?_; (simp; done)) | refine heap_drew ?_ | refine heap_drewN ?_ | (refine heap_past ?_ ?_ <;> try (simp; done)) | (refine heap_far ?_ ?_ <;> try (simp; done)))))
    clear kah ka0 ka1 ka2 ka3 ka4 ka5 kaf kaz
    go_wp2_with fail
    refine (CS.out _ _ _ _ _ _ _ hlc hlh hlo HO2.out).mono ?_
    rintro e w3 ⟨rfl, hb3⟩
    have z3 := hb3.size
    try simp at z3
    obtain ⟨kch, kc0, kc1, kc2, kc3, kc4, kc5, kcf, kcz⟩ := own6 (g := w.heap.size) hb3 (by first | omega | (simp; omega) | (simp; done)) (by (first | ((repeat' first | (with_reducible (first | assumption | (refine heap_at ?_; (first | rfl | (simp; done))) | refine heap_drew ?_ | refine heap_drewN ?_ | refine heap_past ?_ ?_ | refine heap_far ?_ ?_)) | (simp; done) | (simp; omega)); done) | (repeat' first | assumption | (refine heap_at ?_; (simp; done)) | refine heap_drew ?_ | refine heap_drewN ?_ | (refine heap_past ?_ ?_ <;> try (simp; done)) | (refine heap_far ?_ ?_ <;> try (simp; done)))))
    clear kbh kb0 kb1 kb2 kb3 kb4 kb5 kbf kbz
    go_wp2_with fail
    refine (l_toBook bt bn bw cs hs os _ _ _ _ _ _ _ hlc hlh hlo ((HR.out.below (by (first | ((repeat' first | (with_reducible (first | exact Below.refl _ _ | assumption | refine Below.setCell ?_ ?_ _ | refine Below.alloc ?_ ?_ _ | refine Below.drew ?_ | refine below_drewN ?_ _ | refine Below.trans ?_ (Below.mono (by assumption) ?_))) | omega | (simp; omega) | (simp; done)); done) | (repeat' first | exact Below.refl _ _ | assumption | refine Below.setCell ?_ (by first | omega | (simp; omega) | (simp; done)) _ | refine Below.alloc ?_ (by first | omega | (simp; omega) | (simp; done)) _ | refine Below.drew ?_ | refine below_drewN ?_ _ | refine Below.trans ?_ (Below.mono (by assumption) (by first | omega | (simp; omega) | (simp; done))))))).more (by first | omega | (simp; omega) | (simp; done)))).mono ?_
    rintro e w4 ⟨h1, h2, h3, rfl, o1, o2, o3, hb4⟩
    have z4 := hb4.size
    have HO4 := Lib.hid (RdBook.mk o1.rd o2.rd o3.rd)
    clear o1 o2 o3
    obtain ⟨kdh, kd0, kd1, kd2, kd3, kd4, kd5, kdf, kdz⟩ := own6 (g := w.heap.size) hb4 (by first | omega | (simp; omega) | (simp; done)) (by (first | ((repeat' first | (with_reducible (first | assumption | (refine heap_at ?_; (first | rfl | (simp; done))) | refine heap_drew ?_ | refine heap_drewN ?_ | refine heap_past ?_ ?_ | refine heap_far ?_ ?_)) | (simp; done) | (simp; omega)); done) | (repeat' first | assumption | (refine heap_at ?_; (simp; done)) | refine heap_drew ?_ | refine heap_drewN ?_ | (refine heap_past ?_ ?_ <;> try (simp; done)) | (refine heap_far ?_ ?_ <;> try (simp; done)))))
    clear kch kc0 kc1 kc2 kc3 kc4 kc5 kcf kcz
    go_wp2_with fail
    refine (CI.out _ _ _ _ _ _ _ (HLD.out.below (by (first | ((repeat' first | (with_reducible (first | exact Below.refl _ _ | assumption | refine Below.setCell ?_ ?_ _ | refine Below.alloc ?_ ?_ _ | refine Below.drew ?_ | refine below_drewN ?_ _ | refine Below.trans ?_ (Below.mono (by assumption) ?_))) | omega | (simp; omega) | (simp; done)); done) | (repeat' first | exact Below.refl _ _ | assumption | refine Below.setCell ?_ (by first | omega | (simp; omega) | (simp; done)) _ | refine Below.alloc ?_ (by first | omega | (simp; omega) | (simp; done)) _ | refine Below.drew ?_ | refine below_drewN ?_ _ | refine Below.trans ?_ (Below.mono (by assumption) (by first | omega | (simp; omega) | (simp; done))))))) hlc hlh hlo ((HO4.out.below (by (first | ((repeat' first | (with_reducible (first | exact Below.refl _ _ | assumption | refine Below.setCell ?_ ?_ _ | refine Below.alloc ?_ ?_ _ | refine Below.drew ?_ | refine below_drewN ?_ _ | refine Below.trans ?_ (Below.mono (by assumption) ?_))) | omega | (simp; omega) | (simp; done)); done) | (repeat' first | exact Below.refl _ _ | assumption | refine Below.setCell ?_ (by first | omega | (simp; omega) | (simp; done)) _ | refine Below.alloc ?_ (by first | omega | (simp; omega) | (simp; done)) _ | refine Below.drew ?_ | refine below_drewN ?_ _ | refine Below.trans ?_ (Below.mono (by assumption) (by first | omega | (simp; omega) | (simp; done))))))).more (by first | omega | (simp; omega) | (simp; done)))).mono ?_
    rintro e w5 ⟨rfl, hb5⟩
    have z5 := hb5.size
    try simp at z5
    obtain ⟨keh, ke0, ke1, ke2, ke3, ke4, ke5, kef, kez⟩ := own6 (g := w.heap.size) hb5 (by first | omega | (simp; omega) | (simp; done)) (by (first | ((repeat' first | (with_reducible (first | assumption | (refine heap_at ?_; (first | rfl | (simp; done))) | refine heap_drew ?_ | refine heap_drewN ?_ | refine heap_past ?_ ?_ | refine heap_far ?_ ?_)) | (simp; done) | (simp; omega)); done) | (repeat' first | assumption | (refine heap_at ?_; (simp; done)) | refine heap_drew ?_ | refine heap_drewN ?_ | (refine heap_past ?_ ?_ <;> try (simp; done)) | (refine heap_far ?_ ?_ <;> try (simp; done)))))
    obtain ⟨jeh, je0, je1, je2, je3, je4, je5, jef, jez⟩ := own6 (g := w4.heap.size) hb5 (by first | omega | (simp; omega) | (simp; done)) (by (first | ((repeat' first | (with_reducible (first | assumption | (refine heap_at ?_; (first | rfl | (simp; done))) | refine heap_drew ?_ | refine heap_drewN ?_ | refine heap_past ?_ ?_ | refine heap_far ?_ ?_)) | (simp; done) | (simp; omega)); done) | (repeat' first | assumption | (refine heap_at ?_; (simp; done)) | refine heap_drew ?_ | refine heap_drewN ?_ | (refine heap_past ?_ ?_ <;> try (simp; done)) | (refine heap_far ?_ ?_ <;> try (simp; done)))))
    clear kdh kd0 kd1 kd2 kd3 kd4 kd5 kdf kdz
    go_wp2_with fail
    go_region_held3 (fun w' => w'.cell? ⟨w4.heap.size, 0, none⟩ = some (.int .i64 bt) ∧ w'.cell? ⟨w4.heap.size, 1, none⟩ = some (.int .i64 bn) ∧ w'.cell? ⟨w4.heap.size, 2, none⟩ = some (.int .i64 bw) ∧ w'.cell? ⟨w4.heap.size, 3, none⟩ = some (.slice (some ⟨h1, 0, none⟩) cs.length cs.length) ∧ w'.cell? ⟨w4.heap.size, 4, none⟩ = some (.slice (some ⟨h2, 0, none⟩) hs.length hs.length) ∧ w'.cell? ⟨w4.heap.size, 5, none⟩ = some (.slice (some ⟨h3, 0, none⟩) os.length os.length) ∧ w'.cell? ⟨w.heap.size, 0, none⟩ = some (.int .i64 bt) ∧ w'.cell? ⟨w.heap.size, 1, none⟩ = some (.int .i64 bn) ∧ w'.cell? ⟨w.heap.size, 2, none⟩ = some (.int .i64 bw) ∧ w'.cell? ⟨w.heap.size, 3, none⟩ = some (.slice A1 cs.length p1) ∧ w'.cell? ⟨w.heap.size, 4, none⟩ = some (.slice A2 hs.length p2) ∧ w'.cell? ⟨w.heap.size, 5, none⟩ = some (.slice A3 os.length p3)) (first | exact ⟨je0, je1, je2, je3, je4, je5, ke0, ke1, ke2, ke3, ke4, ke5⟩ | exact ⟨jf0, jf1, jf2, jf3, jf4, jf5, kf0, kf1, kf2, kf3, kf4, kf5⟩ | exact ⟨jg0, jg1, jg2, jg3, jg4, jg5, kg0, kg1, kg2, kg3, kg4, kg5⟩)
      (first | (go_at_call 26; refine (l_toBook bt bn bw cs hs os _ _ _ _ _ _ _ hlc hlh hlo ((HR.out.below (by (first | ((repeat' first | (with_reducible (first | exact Below.refl _ _ | assumption | refine Below.setCell ?_ ?_ _ | refine Below.alloc ?_ ?_ _ | refine Below.drew ?_ | refine below_drewN ?_ _ | refine Below.trans ?_ (Below.mono (by assumption) ?_))) | omega | (simp; omega) | (simp; done)); done) | (repeat' first | exact Below.refl _ _ | assumption | refine Below.setCell ?_ (by first | omega | (simp; omega) | (simp; done)) _ | refine Below.alloc ?_ (by first | omega | (simp; omega) | (simp; done)) _ | refine Below.drew ?_ | refine below_drewN ?_ _ | refine Below.trans ?_ (Below.mono (by assumption) (by first | omega | (simp; omega) | (simp; done))))))).more (by first | omega | (simp; omega) | (simp; done)))).mono ?_; rintro e w6 ⟨i1, i2, i3, rfl, o1, o2, o3, hb6⟩; have z6 := hb6.size; (try simp at z6); have HO6 := Lib.hid (RdBook.mk o1.rd o2.rd o3.rd); clear o1 o2 o3; obtain ⟨kfh, kf0, kf1, kf2, kf3, kf4, kf5, kff, kfz⟩ := own6 (g := w.heap.size) hb6 (by first | omega | (simp; omega) | (simp; done)) (by (first | ((repeat' first | (with_reducible (first | assumption | (refine heap_at ?_; (first | rfl | (simp; done))) | refine heap_drew ?_ | refine heap_drewN ?_ | refine heap_past ?_ ?_ | refine heap_far ?_ ?_)) | (simp; done) | (simp; omega)); done) | (repeat' first | assumption | (refine heap_at ?_; (simp; done)) | refine heap_drew ?_ | refine heap_drewN ?_ | (refine heap_past ?_ ?_ <;> try (simp; done)) | (refine heap_far ?_ ?_ <;> try (simp; done))))); obtain ⟨jfh, jf0, jf1, jf2, jf3, jf4, jf5, jff, jfz⟩ := own6 (g := w4.heap.size) hb6 (by first | omega | (simp; omega) | (simp; done)) (by (first | ((repeat' first | (with_reducible (first | assumption | (refine heap_at ?_; (first | rfl | (simp; done))) | refine heap_drew ?_ | refine heap_drewN ?_ | refine heap_past ?_ ?_ | refine heap_far ?_ ?_)) | (simp; done) | (simp; omega)); done) | (repeat' first | assumption | (refine heap_at ?_; (simp; done)) | refine heap_drew ?_ | refine heap_drewN ?_ | (refine heap_past ?_ ?_ <;> try (simp; done)) | (refine heap_far ?_ ?_ <;> try (simp; done))))); clear keh ke0 ke1 ke2 ke3 ke4 ke5 kef kez jeh je0 je1 je2 je3 je4 je5 jef jez)
             | (go_at_call 28; refine (l_eqBook bt bn bw cs hs os _ _ _ _ _ _ _ _ _ _ _ _ _ hlc hlh hlo ((HO4.out.below (by (first | ((repeat' first | (with_reducible (first | exact Below.refl _ _ | assumption | refine Below.setCell ?_ ?_ _ | refine Below.alloc ?_ ?_ _ | refine Below.drew ?_ | refine below_drewN ?_ _ | refine Below.trans ?_ (Below.mono (by assumption) ?_))) | omega | (simp; omega) | (simp; done)); done) | (repeat' first | exact Below.refl _ _ | assumption | refine Below.setCell ?_ (by first | omega | (simp; omega) | (simp; done)) _ | refine Below.alloc ?_ (by first | omega | (simp; omega) | (simp; done)) _ | refine Below.drew ?_ | refine below_drewN ?_ _ | refine Below.trans ?_ (Below.mono (by assumption) (by first | omega | (simp; omega) | (simp; done))))))).more (by first | omega | (simp; omega) | (simp; done))) ((HO6.out.below (by (first | ((repeat' first | (with_reducible (first | exact Below.refl _ _ | assumption | refine Below.setCell ?_ ?_ _ | refine Below.alloc ?_ ?_ _ | refine Below.drew ?_ | refine below_drewN ?_ _ | refine Below.trans ?_ (Below.mono (by assumption) ?_))) | omega | (simp; omega) | (simp; done)); done) | (repeat' first | exact Below.refl _ _ | assumption | refine Below.setCell ?_ (by first | omega | (simp; omega) | (simp; done)) _ | refine Below.alloc ?_ (by first | omega | (simp; omega) | (simp; done)) _ | refine Below.drew ?_ | refine below_drewN ?_ _ | refine Below.trans ?_ (Below.mono (by assumption) (by first | omega | (simp; omega) | (simp; done))))))).more (by first | omega | (simp; omega) | (simp; done)))).mono ?_; rintro e w7 ⟨rfl, hb7⟩; have z7 := hb7.size; (try simp at z7); obtain ⟨kgh, kg0, kg1, kg2, kg3, kg4, kg5, kgf, kgz⟩ := own6 (g := w.heap.size) hb7 (by first | omega | (simp; omega) | (simp; done)) (by (first | ((repeat' first | (with_reducible (first | assumption | (refine heap_at ?_; (first | rfl | (simp; done))) | refine heap_drew ?_ | refine heap_drewN ?_ | refine heap_past ?_ ?_ | refine heap_far ?_ ?_)) | (simp; done) | (simp; omega)); done) | (repeat' first | assumption | (refine heap_at ?_; (simp; done)) | refine heap_drew ?_ | refine heap_drewN ?_ | (refine heap_past ?_ ?_ <;> try (simp; done)) | (refine heap_far ?_ ?_ <;> try (simp; done))))); obtain ⟨jgh, jg0, jg1, jg2, jg3, jg4, jg5, jgf, jgz⟩ := own6 (g := w4.heap.size) hb7 (by first | omega | (simp; omega) | (simp; done)) (by (first | ((repeat' first | (with_reducible (first | assumption | (refine heap_at ?_; (first | rfl | (simp; done))) | refine heap_drew ?_ | refine heap_drewN ?_ | refine heap_past ?_ ?_ | refine heap_far ?_ ?_)) | (simp; done) | (simp; omega)); done) | (repeat' first | assumption | (refine heap_at ?_; (simp; done)) | refine heap_drew ?_ | refine heap_drewN ?_ | (refine heap_past ?_ ?_ <;> try (simp; done)) | (refine heap_far ?_ ?_ <;> try (simp; done))))); clear kfh kf0 kf1 kf2 kf3 kf4 kf5 kff kfz jfh jf0 jf1 jf2 jf3 jf4 jf5 jff jfz))
    go_wp2_with fail
    go_ret
    refine ⟨rfl, ?_⟩
    (first | ((repeat' first | (with_reducible (first | exact Below.refl _ _ | assumption | refine Below.setCell ?_ ?_ _ | refine Below.alloc ?_ ?_ _ | refine Below.drew ?_ | refine below_drewN ?_ _ | refine Below.trans ?_ (Below.mono (by assumption) ?_))) | omega | (simp; omega) | (simp; done)); done) | (repeat' first | exact Below.refl _ _ | assumption | refine Below.setCell ?_ (by first | omega | (simp; omega) | (simp; done)) _ | refine Below.alloc ?_ (by first | omega | (simp; omega) | (simp; done)) _ | refine Below.drew ?_ | refine below_drewN ?_ _ | refine Below.trans ?_ (Below.mono (by assumption) (by first | omega | (simp; omega) | (simp; done)))))
  · have hl' : (1048576 : Int) < (cs.length : Int) + hs.length + os.length := by omega
    clear hl
    have HL := Lib.hid hl'
    clear hl'
    go_enter Tryd.func6, Tryd.ntmps6
    go_wp2_with fail
    refine (l_szBook_no bt bn bw cs hs os _ _ _ _ _ _ _ _ (by omega) (by omega) M1.out M2.out M3.out HL.out).mono ?_
    rintro e w1 ⟨rfl, hb1⟩
    have z1 := hb1.size
    try simp at z1
    go_wp2_with fail
    go_ret
    refine ⟨rfl, ?_⟩
    (first | ((repeat' first | (with_reducible (first | exact Below.refl _ _ | assumption | refine Below.setCell ?_ ?_ _ | refine Below.alloc ?_ ?_ _ | refine Below.drew ?_ | refine below_drewN ?_ _ | refine Below.trans ?_ (Below.mono (by assumption) ?_))) | omega | (simp; omega) | (simp; done)); done) | (repeat' first | exact Below.refl _ _ | assumption | refine Below.setCell ?_ (by first | omega | (simp; omega) | (simp; done)) _ | refine Below.alloc ?_ (by first | omega | (simp; omega) | (simp; done)) _ | refine Below.drew ?_ | refine below_drewN ?_ _ | refine Below.trans ?_ (Below.mono (by assumption) (by first | omega | (simp; omega) | (simp; done)))))
theorem FnExactBookText_own : ownKnob Tryd.prog.godebug = none := by kernel_rfl
theorem FnExactBookText_laidOut : laidOutB Tryd.prog = true := by kernel_rfl
set_option maxRecDepth 100000 in
theorem FnExactBookText_lifted (os : Os) (started : os.Started) (H : Type) (enc : TypeId × Value → H) :
    ReturnsInHanded {} Tryd.checked os 6 .any (fun w args => (Rows.fnExactBookTextSpec.pre enc Tryd.prog Tryd.f6 Rows.fnExactBookTextRow.domain false w args ∧ laidMetH Tryd.prog Rows.fnExactBookTextRow.laid w) ∧ sizedMet enc Tryd.prog Tryd.f6 (OpenSpec.ofChange Rows.fnExactBookTextSpec) false w args)
      (Rows.fnExactBookTextSpec.post enc Tryd.prog Tryd.f6 false true false false) := by
  refine returnsInHanded_laid (C := Tryd.checked) FnExactBookText_own started (by kernel_rfl) Tryd.func6
    (ChangeSpec.witness_shaped (enc := enc) (C := Tryd.checked) (os := os) (X := fun w _ => laidMetH Tryd.prog Rows.fnExactBookTextRow.laid w) false (World.laidAll Tryd.prog os Rows.fnExactBookTextRow.laid) #[.agg #[.int .i64 0, .int .i64 0, .int .i64 0, .slice none 0 0, .slice none 0 0, .slice none 0 0]] 8 (World.laidAll_os _ _ _)
      (World.shaped_of_ZipB (by kernel_rfl) (by kernel_rfl)) (by kernel_rfl) (by kernel_rfl) (by kernel_rfl)
      (by rw [MakeChecks.laidMetH_plain _ _ _ (by kernel_rfl)]; exact laidMet_laidAll _ (by kernel_rfl) (by kernel_rfl))) ?_
  intro W base args ds gs before hval0 hW hcnd hlaid hshape
  have hval : ∀ (j : Nat) t v, Tryd.f6.params[j]? = some t → args[j]? = some v → Value.okWide Tryd.prog W .any base t v := hval0
  have hW' := hW
  obtain ⟨p, q, hA0, hV, rfl, hfz, hnd⟩ := hW
  have hA : DataW.TrodAll enc Tryd.prog W 0 (fun _ => true) true Tryd.f6.params.toList args.toList ds p := hA0
  rw [Tryd.params6] at hA hval
  obtain ⟨v0, vs0, d0, ds0, p0, q0, hargs, rfl, rfl, h0, r0⟩ := trodAll_cons hA
  obtain ⟨rfl, rfl, rfl⟩ := trodAll_nil r0
  obtain rfl : args = #[v0] := by cases args; simp_all
  obtain ⟨c0_0, c0_1, c0_2, c0_3, c0_4, c0_5, y0_0, y0_1, y0_2, y0_3, y0_4, y0_5, m0, rfl, _, _, hy0_0, hy0_1, hy0_2, hy0_3, hy0_4, hy0_5⟩ := open_agg6 Tryd.underlying52 (by kernel_rfl) (by kernel_rfl) (hval 0 52 v0 rfl rfl) h0
  obtain ⟨a0_0, e0_0, _, _⟩ := DataW.trod_int Tryd.underlying3 hy0_0
  simp only [List.cons.injEq, and_true] at e0_0
  subst e0_0
  obtain ⟨a0_1, e0_1, _, _⟩ := DataW.trod_int Tryd.underlying3 hy0_1
  simp only [List.cons.injEq, and_true] at e0_1
  subst e0_1
  obtain ⟨a0_2, e0_2, _, _⟩ := DataW.trod_int Tryd.underlying3 hy0_2
  simp only [List.cons.injEq, and_true] at e0_2
  subst e0_2
  obtain ⟨A0_3, len0_3, cap0_3, rows0_3, rfl, hlen0_3, hflat0_3, hrd0_3, hlc0_3, hcm0_3⟩ := rd_of_trod' (n := 4) (ks := [true, true, true, true, true, true, true]) Tryd.underlying48 (by kernel_rfl) (by kernel_rfl) (by decide) hy0_3
  obtain ⟨l0_3, rfl, _⟩ := rows_of Chan.cells (fun _ => True) rows0_3 (fun r hr => Chan.of_flat (hflat0_3 r hr))
  rw [List.length_map] at hlen0_3
  subst hlen0_3
  obtain ⟨A0_4, len0_4, cap0_4, rows0_4, rfl, hlen0_4, hflat0_4, hrd0_4, hlc0_4, hcm0_4⟩ := rd_of_trod' (n := 4) (ks := [true, true, true, true, true, false, true]) Tryd.underlying49 (by kernel_rfl) (by kernel_rfl) (by decide) hy0_4
  obtain ⟨l0_4, rfl, _⟩ := rows_of Htlc.cells (fun _ => True) rows0_4 (fun r hr => Htlc.of_flat (hflat0_4 r hr))
  rw [List.length_map] at hlen0_4
  subst hlen0_4
  obtain ⟨A0_5, len0_5, cap0_5, rows0_5, rfl, hlen0_5, hflat0_5, hrd0_5, hlc0_5, hcm0_5⟩ := rd_of_trod' (n := 4) (ks := [true, true, true, true, true]) Tryd.underlying50 (by kernel_rfl) (by kernel_rfl) (by decide) hy0_5
  obtain ⟨l0_5, rfl, _⟩ := rows_of Circle.cells (fun _ => True) rows0_5 (fun r hr => Circle.of_flat (hflat0_5 r hr))
  rw [List.length_map] at hlen0_5
  subst hlen0_5
  refine (l_FnExactBookText _ _ _ _ _ _ _ _ _ _ _ _ W (Ld.laid hlaid hshape (by kernel_rfl)) (by omega) (by omega) (by omega) ⟨hrd0_3, hrd0_4, hrd0_5⟩).mono fun e W' ⟨he, hb⟩ => ⟨_, he, ?_⟩
  exact law_post FnExactBookText_laidOut (by kernel_rfl) (tb := 4) rfl Tryd.underlying4 rfl (fun ds' hl => by match ds', hl with | [_], _ => rfl) hW' hb

theorem FnExactBookText_holds : Rows.FnExactBookTextSaid :=
  OpenClaim.holds_of_wide 6 Tryd.f6 rfl rfl rfl rfl rfl rfl rfl ⟨rfl, rfl, rfl, rfl, rfl⟩ rfl rfl rfl rfl rfl (by kernel_rfl) Tryd.func6 (by kernel_rfl)
    (of_decide_eq_true (by kernel_rfl)) (by unfold Func.isWrapper; first | (rw [if_pos (by decide +kernel)]; kernel_rfl) | (rw [if_neg (by decide +kernel)]; exact ⟨rfl, rfl⟩))
    (fun os started H enc _ => FnExactBookText_lifted os started H enc)
theorem FnExactBookText_card : Rows.FnExactBookTextCardSaid :=
  Claim7.holds_tied_plain_at .later [] [.data, .data, .data] true (true, "6eef4d0427dfcc49cc2f17c2c579f52b9dad0a4380fd061067d30a79de12441a") true FnExactBookText_holds (fun _ h => by cases h) (by kernel_rfl) (fun _ h => by cases h) fnExactBookText_row_tie rfl ⟨rfl, rfl⟩ (by kernel_rfl) rfl
    (fun f fn hf hfn => by
      obtain rfl : f = 6 := Option.some.inj ((show Tryd.prog.funcNamed "loop.example/g00400/laws.FnExactBookText" = some 6 by kernel_rfl).symm.trans hf) |>.symm
      obtain rfl : fn = Tryd.f6 := (Option.some.inj (Tryd.func6.symm.trans hfn)).symm
      exact ⟨by kernel_rfl, fun j t ht => by
        rw [Tryd.params6] at ht
        have hm : t ∈ [52] := by simpa using Array.mem_of_getElem? ht
        have hall : ([52].all fun u => !Tryd.prog.wantsStandIn u) = true := by kernel_rfl
        exact (show Tryd.prog.wantsStandIn t = false by simpa using List.all_eq_true.1 hall t hm)⟩)
    (by kernel_rfl)
#print axioms FnExactBookText_card
end Go.Proofs.YtgpledgjpjifcaaDoor
