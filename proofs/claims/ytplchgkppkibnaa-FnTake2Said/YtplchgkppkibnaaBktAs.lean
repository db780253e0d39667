/- Buckets: at a time: the reference's walks. -/
import Derived.Test.YtplchgkppkibnaaRows
import Derived.Test.YtplchgkppkibnaaBktA
namespace Go.Proofs.Ytplchgkppkibnaa
open Go.RowKit

set_option maxHeartbeats 1000000 in
theorem s_BucketAt_yes (s r q t a : Int) (w : World) (h1 : bktB s r q t = true) (h2 : inB a t 1000000000 = true) :
    Calls Try.prog 72 #[.agg #[.int .i64 s, .int .i64 r, .int .i64 q, .int .i64 t], .int .i64 a] w fun e w' =>
      e = .returned (.tuple #[.agg #[.int .i64 s, .int .i64 r, .int .i64 (bktHave s r q t a), .int .i64 a], .bool true]) ∧ Below w.heap.size w w' := by
  obtain ⟨⟨a1, a2⟩, ⟨a3, a4⟩, ⟨a5, a6⟩, a7, a8⟩ := bktB_iff.1 h1
  obtain ⟨b1, b2⟩ := inB_iff.1 h2
  have ht : timeB a = true := timeB_iff.2 ⟨by omega, b2⟩
  have hlt : decide (a < t) = false := decide_eq_false (by omega)
  obtain ⟨n1, n2⟩ := bktNeed_bd (r := r) (m := s - q) (by omega) (by omega)
  have F1 := fun h => bktNeed_full (s := s) (r := r) (q := q) (d := a - t) a3 (by omega) h
  have F2 := bktNeed_part (s := s) (r := r) (q := q) (d := a - t) a3 (by omega)
  have hh : bktHave s r q t a = min (q + r * (a - t)) s := rfl
  have hp0 : 0 ≤ r * (a - t) := Int.mul_nonneg a3 (by omega)
  obtain ⟨P, hP⟩ : ∃ P, r * (a - t) = P := ⟨_, rfl⟩
  rw [hP] at hh hp0 F1 F2
  have NEED := Lib.hid (fun W => s_l18Need r (s - q) W ⟨a3, a4⟩ ⟨by omega, by omega⟩)
  obtain ⟨N, hN⟩ : ∃ N, bktNeed r (s - q) = N := ⟨_, rfl⟩
  rw [hN] at NEED n1 n2 F1 F2
  clear hN
  have HT := Lib.hid ht
  clear ht
  by_cases hc : 0 ≤ N ∧ N ≤ a - t
  · obtain ⟨c1, c2⟩ := hc
    have HH := Lib.hid (hh.trans (F1 c1 c2))
    clear hh F1 F2 hP
    go_enter Try.func72, Try.ntmps72
    go_wp2_with fail
    refine (s_BucketOk _ _ _ _ _).mono ?_
    rintro e w1 ⟨rfl, hb⟩
    obtain ⟨kh, k0, k1, k2, k3, kf, kz⟩ := own4 (g := w.heap.size) hb (by first | omega | (simp; omega) | (simp; done)) (by (first | ((repeat' first | (with_reducible (first | assumption | (refine heap_at ?_; (first | rfl | (simp; done))) | refine heap_drew ?_ | refine heap_drewN ?_ | refine heap_past ?_ ?_ | refine heap_far ?_ ?_)) | (simp; done) | (simp; omega)); done) | (repeat' first | assumption | (refine heap_at ?_; (simp; done)) | refine heap_drew ?_ | refine heap_drewN ?_ | (refine heap_past ?_ ?_ <;> try (simp; done)) | (refine heap_far ?_ ?_ <;> try (simp; done)))))
    obtain ⟨mh, m0, m1, m2, m3, mf, mz⟩ := own4 (g := w.heap.size + 1) hb (by first | omega | (simp; omega) | (simp; done)) (by (first | ((repeat' first | (with_reducible (first | assumption | (refine heap_at ?_; (first | rfl | (simp; done))) | refine heap_drew ?_ | refine heap_drewN ?_ | refine heap_past ?_ ?_ | refine heap_far ?_ ?_)) | (simp; done) | (simp; omega)); done) | (repeat' first | assumption | (refine heap_at ?_; (simp; done)) | refine heap_drew ?_ | refine heap_drewN ?_ | (refine heap_past ?_ ?_ <;> try (simp; done)) | (refine heap_far ?_ ?_ <;> try (simp; done)))))
    go_wp2_with (first | (go_at_call 56; refine (s_l15Time _ _).mono ?_; rintro e w' ⟨rfl, rfl⟩; rw [HT.out]) | (go_at_call 55; refine (NEED.out _).mono ?_; rintro e w' ⟨rfl, rfl⟩))
    refine bodyPost_ret (v := .tuple #[.agg #[.int .i64 s, .int .i64 r, .int .i64 (bktHave s r q t a), .int .i64 a], .bool true]) (by rw [HH.out]; simp [results, Try.results72, go_sem, m0, m1, m2, m3]) rfl ⟨rfl, ?_⟩
    (first | ((repeat' first | (with_reducible (first | exact Below.refl _ _ | assumption | refine Below.setCell ?_ ?_ _ | refine Below.alloc ?_ ?_ _ | refine Below.drew ?_ | refine below_drewN ?_ _ | refine Below.trans ?_ (Below.mono (by assumption) ?_))) | omega | (simp; omega) | (simp; done)); done) | (repeat' first | exact Below.refl _ _ | assumption | refine Below.setCell ?_ (by first | omega | (simp; omega) | (simp; done)) _ | refine Below.alloc ?_ (by first | omega | (simp; omega) | (simp; done)) _ | refine Below.drew ?_ | refine below_drewN ?_ _ | refine Below.trans ?_ (Below.mono (by assumption) (by first | omega | (simp; omega) | (simp; done)))))
  · have hle := F2 (by omega)
    have HH := Lib.hid (hh.trans (by omega : min (q + P) s = q + P))
    have hw : IntKind.i64.wrap (r * (a - t)) = P := by rw [hP]; exact IntWalk.i64_in _ ⟨by omega, by omega⟩
    have HW := Lib.hid hw
    clear hh F1 F2 hP hw
    by_cases h0 : 0 ≤ N
    · have hd : decide (N ≤ a - t) = false := decide_eq_false (by omega)
      clear hc
      go_enter Try.func72, Try.ntmps72
      go_wp2_with fail
      refine (s_BucketOk _ _ _ _ _).mono ?_
      rintro e w1 ⟨rfl, hb⟩
      obtain ⟨kh, k0, k1, k2, k3, kf, kz⟩ := own4 (g := w.heap.size) hb (by first | omega | (simp; omega) | (simp; done)) (by (first | ((repeat' first | (with_reducible (first | assumption | (refine heap_at ?_; (first | rfl | (simp; done))) | refine heap_drew ?_ | refine heap_drewN ?_ | refine heap_past ?_ ?_ | refine heap_far ?_ ?_)) | (simp; done) | (simp; omega)); done) | (repeat' first | assumption | (refine heap_at ?_; (simp; done)) | refine heap_drew ?_ | refine heap_drewN ?_ | (refine heap_past ?_ ?_ <;> try (simp; done)) | (refine heap_far ?_ ?_ <;> try (simp; done)))))
      obtain ⟨mh, m0, m1, m2, m3, mf, mz⟩ := own4 (g := w.heap.size + 1) hb (by first | omega | (simp; omega) | (simp; done)) (by (first | ((repeat' first | (with_reducible (first | assumption | (refine heap_at ?_; (first | rfl | (simp; done))) | refine heap_drew ?_ | refine heap_drewN ?_ | refine heap_past ?_ ?_ | refine heap_far ?_ ?_)) | (simp; done) | (simp; omega)); done) | (repeat' first | assumption | (refine heap_at ?_; (simp; done)) | refine heap_drew ?_ | refine heap_drewN ?_ | (refine heap_past ?_ ?_ <;> try (simp; done)) | (refine heap_far ?_ ?_ <;> try (simp; done)))))
      go_wp2_with (first | (go_at_call 56; refine (s_l15Time _ _).mono ?_; rintro e w' ⟨rfl, rfl⟩; rw [HT.out]))
      refine (NEED.out _).mono ?_
      rintro e w' ⟨rfl, rfl⟩
      have hw := HW.out
      go_wp2_with fail
      refine bodyPost_ret (v := .tuple #[.agg #[.int .i64 s, .int .i64 r, .int .i64 (bktHave s r q t a), .int .i64 a], .bool true]) (by rw [HH.out]; simp [results, Try.results72, go_sem, m0, m1, m2, m3]) rfl ⟨rfl, ?_⟩
      (first | ((repeat' first | (with_reducible (first | exact Below.refl _ _ | assumption | refine Below.setCell ?_ ?_ _ | refine Below.alloc ?_ ?_ _ | refine Below.drew ?_ | refine below_drewN ?_ _ | refine Below.trans ?_ (Below.mono (by assumption) ?_))) | omega | (simp; omega) | (simp; done)); done) | (repeat' first | exact Below.refl _ _ | assumption | refine Below.setCell ?_ (by first | omega | (simp; omega) | (simp; done)) _ | refine Below.alloc ?_ (by first | omega | (simp; omega) | (simp; done)) _ | refine Below.drew ?_ | refine below_drewN ?_ _ | refine Below.trans ?_ (Below.mono (by assumption) (by first | omega | (simp; omega) | (simp; done)))))
    · have hd : decide (0 ≤ N) = false := decide_eq_false h0
      clear hc
      go_enter Try.func72, Try.ntmps72
      go_wp2_with fail
      refine (s_BucketOk _ _ _ _ _).mono ?_
      rintro e w1 ⟨rfl, hb⟩
      obtain ⟨kh, k0, k1, k2, k3, kf, kz⟩ := own4 (g := w.heap.size) hb (by first | omega | (simp; omega) | (simp; done)) (by (first | ((repeat' first | (with_reducible (first | assumption | (refine heap_at ?_; (first | rfl | (simp; done))) | refine heap_drew ?_ | refine heap_drewN ?_ | refine heap_past ?_ ?_ | refine heap_far ?_ ?_)) | (simp; done) | (simp; omega)); done) | (repeat' first | assumption | (refine heap_at ?_; (simp; done)) | refine heap_drew ?_ | refine heap_drewN ?_ | (refine heap_past ?_ ?_ <;> try (simp; done)) | (refine heap_far ?_ ?_ <;> try (simp; done)))))
      obtain ⟨mh, m0, m1, m2, m3, mf, mz⟩ := own4 (g := w.heap.size + 1) hb (by first | omega | (simp; omega) | (simp; done)) (by (first | ((repeat' first | (with_reducible (first | assumption | (refine heap_at ?_; (first | rfl | (simp; done))) | refine heap_drew ?_ | refine heap_drewN ?_ | refine heap_past ?_ ?_ | refine heap_far ?_ ?_)) | (simp; done) | (simp; omega)); done) | (repeat' first | assumption | (refine heap_at ?_; (simp; done)) | refine heap_drew ?_ | refine heap_drewN ?_ | (refine heap_past ?_ ?_ <;> try (simp; done)) | (refine heap_far ?_ ?_ <;> try (simp; done)))))
      go_wp2_with (first | (go_at_call 56; refine (s_l15Time _ _).mono ?_; rintro e w' ⟨rfl, rfl⟩; rw [HT.out]))
      refine (NEED.out _).mono ?_
      rintro e w' ⟨rfl, rfl⟩
      have hw := HW.out
      go_wp2_with fail
      refine bodyPost_ret (v := .tuple #[.agg #[.int .i64 s, .int .i64 r, .int .i64 (bktHave s r q t a), .int .i64 a], .bool true]) (by rw [HH.out]; simp [results, Try.results72, go_sem, m0, m1, m2, m3]) rfl ⟨rfl, ?_⟩
      (first | ((repeat' first | (with_reducible (first | exact Below.refl _ _ | assumption | refine Below.setCell ?_ ?_ _ | refine Below.alloc ?_ ?_ _ | refine Below.drew ?_ | refine below_drewN ?_ _ | refine Below.trans ?_ (Below.mono (by assumption) ?_))) | omega | (simp; omega) | (simp; done)); done) | (repeat' first | exact Below.refl _ _ | assumption | refine Below.setCell ?_ (by first | omega | (simp; omega) | (simp; done)) _ | refine Below.alloc ?_ (by first | omega | (simp; omega) | (simp; done)) _ | refine Below.drew ?_ | refine below_drewN ?_ _ | refine Below.trans ?_ (Below.mono (by assumption) (by first | omega | (simp; omega) | (simp; done)))))
theorem s_BucketAt_no (s r q t a : Int) (w : World) (hno : (bktB s r q t && inB a t 1000000000) = false) :
    Calls Try.prog 72 #[.agg #[.int .i64 s, .int .i64 r, .int .i64 q, .int .i64 t], .int .i64 a] w fun e w' =>
      e = .returned (.tuple #[.agg #[.int .i64 0, .int .i64 0, .int .i64 0, .int .i64 0], .bool false]) ∧ Below w.heap.size w w' := by
  have hcase : bktB s r q t = false ∨ (bktB s r q t = true ∧ timeB a = false) ∨ (bktB s r q t = true ∧ timeB a = true ∧ decide (a < t) = true) := by
    cases h1 : bktB s r q t
    · exact .inl rfl
    · cases h3 : timeB a
      · exact .inr (.inl ⟨rfl, rfl⟩)
      · refine .inr (.inr ⟨rfl, rfl, ?_⟩)
        rw [h1] at hno
        have := timeB_iff.1 h3
        simp only [inB, Bool.true_and, decide_eq_false_iff_not] at hno
        exact decide_eq_true (by omega)
  clear hno
  rcases hcase with h1 | ⟨h1, h2⟩ | ⟨h1, h2, h3⟩
  all_goals
    go_enter Try.func72, Try.ntmps72
    go_wp2_with fail
    refine (s_BucketOk _ _ _ _ _).mono ?_
    rintro e w1 ⟨rfl, hb⟩
    obtain ⟨kh, k0, k1, k2, k3, kf, kz⟩ := own4 (g := w.heap.size) hb (by first | omega | (simp; omega) | (simp; done)) (by (first | ((repeat' first | (with_reducible (first | assumption | (refine heap_at ?_; (first | rfl | (simp; done))) | refine heap_drew ?_ | refine heap_drewN ?_ | refine heap_past ?_ ?_ | refine heap_far ?_ ?_)) | (simp; done) | (simp; omega)); done) | (repeat' first | assumption | (refine heap_at ?_; (simp; done)) | refine heap_drew ?_ | refine heap_drewN ?_ | (refine heap_past ?_ ?_ <;> try (simp; done)) | (refine heap_far ?_ ?_ <;> try (simp; done)))))
    obtain ⟨mh, m0, m1, m2, m3, mf, mz⟩ := own4 (g := w.heap.size + 1) hb (by first | omega | (simp; omega) | (simp; done)) (by (first | ((repeat' first | (with_reducible (first | assumption | (refine heap_at ?_; (first | rfl | (simp; done))) | refine heap_drew ?_ | refine heap_drewN ?_ | refine heap_past ?_ ?_ | refine heap_far ?_ ?_)) | (simp; done) | (simp; omega)); done) | (repeat' first | assumption | (refine heap_at ?_; (simp; done)) | refine heap_drew ?_ | refine heap_drewN ?_ | (refine heap_past ?_ ?_ <;> try (simp; done)) | (refine heap_far ?_ ?_ <;> try (simp; done)))))
    go_wp2_with (go_at_call 56; refine (s_l15Time _ _).mono ?_; rintro e w' ⟨rfl, rfl⟩)
    refine bodyPost_ret (v := .tuple #[.agg #[.int .i64 0, .int .i64 0, .int .i64 0, .int .i64 0], .bool false]) (by simp [results, Try.results72, go_sem, m0, m1, m2, m3]) rfl ⟨rfl, ?_⟩
    (first | ((repeat' first | (with_reducible (first | exact Below.refl _ _ | assumption | refine Below.setCell ?_ ?_ _ | refine Below.alloc ?_ ?_ _ | refine Below.drew ?_ | refine below_drewN ?_ _ | refine Below.trans ?_ (Below.mono (by assumption) ?_))) | omega | (simp; omega) | (simp; done)); done) | (repeat' first | exact Below.refl _ _ | assumption | refine Below.setCell ?_ (by first | omega | (simp; omega) | (simp; done)) _ | refine Below.alloc ?_ (by first | omega | (simp; omega) | (simp; done)) _ | refine Below.drew ?_ | refine below_drewN ?_ _ | refine Below.trans ?_ (Below.mono (by assumption) (by first | omega | (simp; omega) | (simp; done)))))
end Go.Proofs.Ytplchgkppkibnaa
