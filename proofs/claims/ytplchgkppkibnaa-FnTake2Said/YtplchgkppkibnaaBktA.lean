/- Buckets: at a time, taken: the walks. -/
import Derived.Test.YtplchgkppkibnaaRows
import Derived.Test.YtplchgkppkibnaaBktW
import Derived.Test.YtplchgkppkibnaaMulI
namespace Go.Proofs.Ytplchgkppkibnaa
open Go.RowKit

def bktHave (s r q t a : Int) : Int := min (q + r * (a - t)) s
theorem bktHave_bd {s r q t a : Int} (h1 : bktB s r q t = true) (h2 : inB a t 1000000000 = true) : 0 ≤ bktHave s r q t a ∧ bktHave s r q t a ≤ s := by
  obtain ⟨⟨a1, a2⟩, ⟨a3, a4⟩, ⟨a5, a6⟩, a7, a8⟩ := bktB_iff.1 h1
  obtain ⟨b1, b2⟩ := inB_iff.1 h2
  have h3 : 0 ≤ r * (a - t) := Int.mul_nonneg a3 (by omega)
  unfold bktHave
  omega
theorem mulOk_one {a b : Int} (ha : amtB a = true) (hb : amtB b = true) : mulOk a b 1 = decide (a * b ≤ 1125899906842624) ∧ (a * b ≤ 1125899906842624 → mulQ a b 1 = a * b) := by
  have hm : mulArgs a b 1 = true := by simp [mulArgs, ha, hb]
  refine ⟨by simp [mulOk, hm, divB], fun h => ?_⟩
  unfold mulQ divQ
  rw [if_pos hm, if_pos (by simp [divB]; omega), Int.ediv_one]
set_option maxHeartbeats 1000000 in
theorem i_BucketAt_yes (s r q t a : Int) (w : World) (h1 : bktB s r q t = true) (h2 : inB a t 1000000000 = true) :
    Calls Try.prog 13 #[.agg #[.int .i64 s, .int .i64 r, .int .i64 q, .int .i64 t], .int .i64 a] w fun e w' =>
      e = .returned (.tuple #[.agg #[.int .i64 s, .int .i64 r, .int .i64 (bktHave s r q t a), .int .i64 a], .bool true]) ∧ Below w.heap.size w w' := by
  obtain ⟨⟨a1, a2⟩, ⟨a3, a4⟩, ⟨a5, a6⟩, a7, a8⟩ := bktB_iff.1 h1
  obtain ⟨b1, b2⟩ := inB_iff.1 h2
  obtain ⟨ok, qq⟩ := mulOk_one (a := r) (b := a - t) (amtB_iff.2 ⟨a3, a4⟩) (amtB_iff.2 ⟨by omega, by omega⟩)
  have hp0 : 0 ≤ r * (a - t) := Int.mul_nonneg a3 (by omega)
  have hh : bktHave s r q t a = min (q + r * (a - t)) s := rfl
  obtain ⟨P, hP⟩ : ∃ P, r * (a - t) = P := ⟨_, rfl⟩
  rw [hP] at ok qq hh hp0
  have HH := Lib.hid hh
  clear hh hP
  by_cases hbig : P ≤ 1125899906842624
  · have hok : mulOk r (a - t) 1 = true := by rw [ok]; exact decide_eq_true hbig
    have hq := qq hbig
    have HQ := Lib.hid hq
    have HO := Lib.hid hok
    clear ok qq hok hq
    go_enter Try.func13, Try.ntmps13
    go_wp2_with fail
    refine (i_BucketOk _ _ _ _ _).mono ?_
    rintro e w1 ⟨rfl, hb⟩
    obtain ⟨kh, k0, k1, k2, k3, kf, kz⟩ := own4 (g := w.heap.size) hb (by first | omega | (simp; omega) | (simp; done)) (by (first | ((repeat' first | (with_reducible (first | assumption | (refine heap_at ?_; (first | rfl | (simp; done))) | refine heap_drew ?_ | refine heap_drewN ?_ | refine heap_past ?_ ?_ | refine heap_far ?_ ?_)) | (simp; done) | (simp; omega)); done) | (repeat' first | assumption | (refine heap_at ?_; (simp; done)) | refine heap_drew ?_ | refine heap_drewN ?_ | (refine heap_past ?_ ?_ <;> try (simp; done)) | (refine heap_far ?_ ?_ <;> try (simp; done)))))
    obtain ⟨mh, m0, m1, m2, m3, mf, mz⟩ := own4 (g := w.heap.size + 1) hb (by first | omega | (simp; omega) | (simp; done)) (by (first | ((repeat' first | (with_reducible (first | assumption | (refine heap_at ?_; (first | rfl | (simp; done))) | refine heap_drew ?_ | refine heap_drewN ?_ | refine heap_past ?_ ?_ | refine heap_far ?_ ?_)) | (simp; done) | (simp; omega)); done) | (repeat' first | assumption | (refine heap_at ?_; (simp; done)) | refine heap_drew ?_ | refine heap_drewN ?_ | (refine heap_past ?_ ?_ <;> try (simp; done)) | (refine heap_far ?_ ?_ <;> try (simp; done)))))
    go_wp2_with (go_at_call 57; refine (i_in _ _ _ _).mono ?_; rintro e w' ⟨rfl, rfl⟩)
    refine (i_MulDiv r (a - t) 1 _).mono ?_
    rintro e w2 ⟨rfl, hb2⟩
    rw [HQ.out, HO.out]
    have z2 := hb2.size
    obtain ⟨nh, n0, n1, n2, n3, nf, nz⟩ := own4 (g := w.heap.size) hb2 (by first | omega | (simp; omega) | (simp; done)) (by (first | ((repeat' first | (with_reducible (first | assumption | (refine heap_at ?_; (first | rfl | (simp; done))) | refine heap_drew ?_ | refine heap_drewN ?_ | refine heap_past ?_ ?_ | refine heap_far ?_ ?_)) | (simp; done) | (simp; omega)); done) | (repeat' first | assumption | (refine heap_at ?_; (simp; done)) | refine heap_drew ?_ | refine heap_drewN ?_ | (refine heap_past ?_ ?_ <;> try (simp; done)) | (refine heap_far ?_ ?_ <;> try (simp; done)))))
    obtain ⟨ph, p0, p1, p2, p3, pf, pz⟩ := own4 (g := w.heap.size + 1) hb2 (by first | omega | (simp; omega) | (simp; done)) (by (first | ((repeat' first | (with_reducible (first | assumption | (refine heap_at ?_; (first | rfl | (simp; done))) | refine heap_drew ?_ | refine heap_drewN ?_ | refine heap_past ?_ ?_ | refine heap_far ?_ ?_)) | (simp; done) | (simp; omega)); done) | (repeat' first | assumption | (refine heap_at ?_; (simp; done)) | refine heap_drew ?_ | refine heap_drewN ?_ | (refine heap_past ?_ ?_ <;> try (simp; done)) | (refine heap_far ?_ ?_ <;> try (simp; done)))))
    go_wp2_with fail
    all_goals
      refine bodyPost_ret (v := .tuple #[.agg #[.int .i64 s, .int .i64 r, .int .i64 (bktHave s r q t a), .int .i64 a], .bool true]) (by rw [HH.out]; simp [results, Try.results13, go_sem, *] <;> omega) rfl ⟨rfl, ?_⟩
      (first | ((repeat' first | (with_reducible (first | exact Below.refl _ _ | assumption | refine Below.setCell ?_ ?_ _ | refine Below.alloc ?_ ?_ _ | refine Below.drew ?_ | refine below_drewN ?_ _ | refine Below.trans ?_ (Below.mono (by assumption) ?_))) | omega | (simp; omega) | (simp; done)); done) | (repeat' first | exact Below.refl _ _ | assumption | refine Below.setCell ?_ (by first | omega | (simp; omega) | (simp; done)) _ | refine Below.alloc ?_ (by first | omega | (simp; omega) | (simp; done)) _ | refine Below.drew ?_ | refine below_drewN ?_ _ | refine Below.trans ?_ (Below.mono (by assumption) (by first | omega | (simp; omega) | (simp; done)))))
  · have hok : mulOk r (a - t) 1 = false := by rw [ok]; exact decide_eq_false hbig
    have HO := Lib.hid hok
    clear ok qq hok
    obtain ⟨Q, hQ⟩ : ∃ Q, mulQ r (a - t) 1 = Q := ⟨_, rfl⟩
    have HQ := Lib.hid hQ
    clear hQ
    go_enter Try.func13, Try.ntmps13
    go_wp2_with fail
    refine (i_BucketOk _ _ _ _ _).mono ?_
    rintro e w1 ⟨rfl, hb⟩
    obtain ⟨kh, k0, k1, k2, k3, kf, kz⟩ := own4 (g := w.heap.size) hb (by first | omega | (simp; omega) | (simp; done)) (by (first | ((repeat' first | (with_reducible (first | assumption | (refine heap_at ?_; (first | rfl | (simp; done))) | refine heap_drew ?_ | refine heap_drewN ?_ | refine heap_past ?_ ?_ | refine heap_far ?_ ?_)) | (simp; done) | (simp; omega)); done) | (repeat' first | assumption | (refine heap_at ?_; (simp; done)) | refine heap_drew ?_ | refine heap_drewN ?_ | (refine heap_past ?_ ?_ <;> try (simp; done)) | (refine heap_far ?_ ?_ <;> try (simp; done)))))
    obtain ⟨mh, m0, m1, m2, m3, mf, mz⟩ := own4 (g := w.heap.size + 1) hb (by first | omega | (simp; omega) | (simp; done)) (by (first | ((repeat' first | (with_reducible (first | assumption | (refine heap_at ?_; (first | rfl | (simp; done))) | refine heap_drew ?_ | refine heap_drewN ?_ | refine heap_past ?_ ?_ | refine heap_far ?_ ?_)) | (simp; done) | (simp; omega)); done) | (repeat' first | assumption | (refine heap_at ?_; (simp; done)) | refine heap_drew ?_ | refine heap_drewN ?_ | (refine heap_past ?_ ?_ <;> try (simp; done)) | (refine heap_far ?_ ?_ <;> try (simp; done)))))
    go_wp2_with (go_at_call 57; refine (i_in _ _ _ _).mono ?_; rintro e w' ⟨rfl, rfl⟩)
    refine (i_MulDiv r (a - t) 1 _).mono ?_
    rintro e w2 ⟨rfl, hb2⟩
    rw [HQ.out, HO.out]
    have z2 := hb2.size
    obtain ⟨nh, n0, n1, n2, n3, nf, nz⟩ := own4 (g := w.heap.size) hb2 (by first | omega | (simp; omega) | (simp; done)) (by (first | ((repeat' first | (with_reducible (first | assumption | (refine heap_at ?_; (first | rfl | (simp; done))) | refine heap_drew ?_ | refine heap_drewN ?_ | refine heap_past ?_ ?_ | refine heap_far ?_ ?_)) | (simp; done) | (simp; omega)); done) | (repeat' first | assumption | (refine heap_at ?_; (simp; done)) | refine heap_drew ?_ | refine heap_drewN ?_ | (refine heap_past ?_ ?_ <;> try (simp; done)) | (refine heap_far ?_ ?_ <;> try (simp; done)))))
    obtain ⟨ph, p0, p1, p2, p3, pf, pz⟩ := own4 (g := w.heap.size + 1) hb2 (by first | omega | (simp; omega) | (simp; done)) (by (first | ((repeat' first | (with_reducible (first | assumption | (refine heap_at ?_; (first | rfl | (simp; done))) | refine heap_drew ?_ | refine heap_drewN ?_ | refine heap_past ?_ ?_ | refine heap_far ?_ ?_)) | (simp; done) | (simp; omega)); done) | (repeat' first | assumption | (refine heap_at ?_; (simp; done)) | refine heap_drew ?_ | refine heap_drewN ?_ | (refine heap_past ?_ ?_ <;> try (simp; done)) | (refine heap_far ?_ ?_ <;> try (simp; done)))))
    go_wp2_with fail
    all_goals
      refine bodyPost_ret (v := .tuple #[.agg #[.int .i64 s, .int .i64 r, .int .i64 (bktHave s r q t a), .int .i64 a], .bool true]) (by rw [HH.out]; simp [results, Try.results13, go_sem, *] <;> omega) rfl ⟨rfl, ?_⟩
      (first | ((repeat' first | (with_reducible (first | exact Below.refl _ _ | assumption | refine Below.setCell ?_ ?_ _ | refine Below.alloc ?_ ?_ _ | refine Below.drew ?_ | refine below_drewN ?_ _ | refine Below.trans ?_ (Below.mono (by assumption) ?_))) | omega | (simp; omega) | (simp; done)); done) | (repeat' first | exact Below.refl _ _ | assumption | refine Below.setCell ?_ (by first | omega | (simp; omega) | (simp; done)) _ | refine Below.alloc ?_ (by first | omega | (simp; omega) | (simp; done)) _ | refine Below.drew ?_ | refine below_drewN ?_ _ | refine Below.trans ?_ (Below.mono (by assumption) (by first | omega | (simp; omega) | (simp; done)))))
theorem i_BucketAt_no (s r q t a : Int) (w : World) (hno : (bktB s r q t && inB a t 1000000000) = false) :
    Calls Try.prog 13 #[.agg #[.int .i64 s, .int .i64 r, .int .i64 q, .int .i64 t], .int .i64 a] w fun e w' =>
      e = .returned (.tuple #[.agg #[.int .i64 0, .int .i64 0, .int .i64 0, .int .i64 0], .bool false]) ∧ Below w.heap.size w w' := by
  cases h1 : bktB s r q t <;> cases h2 : inB a t 1000000000
  case true.true => simp [h1, h2] at hno
  all_goals
    clear hno
    go_enter Try.func13, Try.ntmps13
    go_wp2_with fail
    refine (i_BucketOk _ _ _ _ _).mono ?_
    rintro e w1 ⟨rfl, hb⟩
    obtain ⟨kh, k0, k1, k2, k3, kf, kz⟩ := own4 (g := w.heap.size) hb (by first | omega | (simp; omega) | (simp; done)) (by (first | ((repeat' first | (with_reducible (first | assumption | (refine heap_at ?_; (first | rfl | (simp; done))) | refine heap_drew ?_ | refine heap_drewN ?_ | refine heap_past ?_ ?_ | refine heap_far ?_ ?_)) | (simp; done) | (simp; omega)); done) | (repeat' first | assumption | (refine heap_at ?_; (simp; done)) | refine heap_drew ?_ | refine heap_drewN ?_ | (refine heap_past ?_ ?_ <;> try (simp; done)) | (refine heap_far ?_ ?_ <;> try (simp; done)))))
    obtain ⟨mh, m0, m1, m2, m3, mf, mz⟩ := own4 (g := w.heap.size + 1) hb (by first | omega | (simp; omega) | (simp; done)) (by (first | ((repeat' first | (with_reducible (first | assumption | (refine heap_at ?_; (first | rfl | (simp; done))) | refine heap_drew ?_ | refine heap_drewN ?_ | refine heap_past ?_ ?_ | refine heap_far ?_ ?_)) | (simp; done) | (simp; omega)); done) | (repeat' first | assumption | (refine heap_at ?_; (simp; done)) | refine heap_drew ?_ | refine heap_drewN ?_ | (refine heap_past ?_ ?_ <;> try (simp; done)) | (refine heap_far ?_ ?_ <;> try (simp; done)))))
    go_wp2_with (go_at_call 57; refine (i_in _ _ _ _).mono ?_; rintro e w' ⟨rfl, rfl⟩)
    refine bodyPost_ret (v := .tuple #[.agg #[.int .i64 0, .int .i64 0, .int .i64 0, .int .i64 0], .bool false]) (by simp [results, Try.results13, go_sem, *]) rfl ⟨rfl, ?_⟩
    (first | ((repeat' first | (with_reducible (first | exact Below.refl _ _ | assumption | refine Below.setCell ?_ ?_ _ | refine Below.alloc ?_ ?_ _ | refine Below.drew ?_ | refine below_drewN ?_ _ | refine Below.trans ?_ (Below.mono (by assumption) ?_))) | omega | (simp; omega) | (simp; done)); done) | (repeat' first | exact Below.refl _ _ | assumption | refine Below.setCell ?_ (by first | omega | (simp; omega) | (simp; done)) _ | refine Below.alloc ?_ (by first | omega | (simp; omega) | (simp; done)) _ | refine Below.drew ?_ | refine below_drewN ?_ _ | refine Below.trans ?_ (Below.mono (by assumption) (by first | omega | (simp; omega) | (simp; done)))))
theorem bktNeed_full {s r q d : Int} (hr : 0 ≤ r) (hd : 0 ≤ d) (h0 : 0 ≤ bktNeed r (s - q)) (h : bktNeed r (s - q) ≤ d) : min (q + r * d) s = s := by
  have : s - q ≤ r * d := by
    unfold bktNeed at h h0
    by_cases h1 : s - q ≤ 0
    · have := Int.mul_nonneg hr hd
      omega
    · rw [if_neg h1] at h h0
      by_cases h2 : r = 0
      · rw [if_pos h2] at h0; omega
      · rw [if_neg h2] at h h0
        have e1 := Int.lt_mul_ediv_self_add (x := s - q + r - 1) (k := r) (by omega)
        have e2 : r * ((s - q + r - 1) / r) ≤ r * d := Int.mul_le_mul_of_nonneg_left h hr
        omega
  omega
theorem bktNeed_part {s r q d : Int} (hr : 0 ≤ r) (hd : 0 ≤ d) (h : bktNeed r (s - q) < 0 ∨ d < bktNeed r (s - q)) : q + r * d ≤ s := by
  unfold bktNeed at h
  by_cases h1 : s - q ≤ 0
  · rw [if_pos h1] at h; omega
  · rw [if_neg h1] at h
    by_cases h2 : r = 0
    · subst h2; omega
    · rw [if_neg h2] at h
      have h3 : 0 ≤ (s - q + r - 1) / r := Int.ediv_nonneg (by omega) hr
      have h4 : d + 1 ≤ (s - q + r - 1) / r := by omega
      have h5 := (Int.le_ediv_iff_mul_le (by omega : 0 < r)).1 h4
      rw [Int.add_mul, Int.one_mul, Int.mul_comm] at h5
      omega
end Go.Proofs.Ytplchgkppkibnaa
