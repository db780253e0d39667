/- Buckets: taken: the walks. -/
import Derived.Test.YtplchgkppkibnaaRows
import Derived.Test.YtplchgkppkibnaaBktAs
namespace Go.Proofs.Ytplchgkppkibnaa
open Go.RowKit

def bktCode (s r q t a n : Int) : Int := if (bktB s r q t && inB a t 1000000000 && amtB n) = false then 1 else if bktHave s r q t a < n then 2 else 0
theorem i_BucketTake_1 (s r q t a n : Int) (w : World) (hno : (bktB s r q t && inB a t 1000000000 && amtB n) = false) :
    Calls Try.prog 30 #[.agg #[.int .i64 s, .int .i64 r, .int .i64 q, .int .i64 t], .int .i64 a, .int .i64 n] w fun e w' =>
      e = .returned (.tuple #[.agg #[.int .i64 0, .int .i64 0, .int .i64 0, .int .i64 0], .int .i64 1]) ∧ Below w.heap.size w w' := by
  cases h1 : (bktB s r q t && inB a t 1000000000)
  · have H1 := Lib.hid h1
    clear h1 hno
    go_enter Try.func30, Try.ntmps30
    go_wp2_with fail
    refine (i_BucketAt_no _ _ _ _ _ _ H1.out).mono ?_
    rintro e w1 ⟨rfl, hb⟩
    obtain ⟨mh, m0, m1, m2, m3, mf, mz⟩ := own4 (g := w.heap.size + 1) hb (by first | omega | (simp; omega) | (simp; done)) (by (first | ((repeat' first | (with_reducible (first | assumption | (refine heap_at ?_; (first | rfl | (simp; done))) | refine heap_drew ?_ | refine heap_drewN ?_ | refine heap_past ?_ ?_ | refine heap_far ?_ ?_)) | (simp; done) | (simp; omega)); done) | (repeat' first | assumption | (refine heap_at ?_; (simp; done)) | refine heap_drew ?_ | refine heap_drewN ?_ | (refine heap_past ?_ ?_ <;> try (simp; done)) | (refine heap_far ?_ ?_ <;> try (simp; done)))))
    go_wp2_with fail
    refine bodyPost_ret (v := .tuple #[.agg #[.int .i64 0, .int .i64 0, .int .i64 0, .int .i64 0], .int .i64 1]) (by simp [results, Try.results30, go_sem, m0, m1, m2, m3, mz]) rfl ⟨rfl, ?_⟩
    (first | ((repeat' first | (with_reducible (first | exact Below.refl _ _ | assumption | refine Below.setCell ?_ ?_ _ | refine Below.alloc ?_ ?_ _ | refine Below.drew ?_ | refine below_drewN ?_ _ | refine Below.trans ?_ (Below.mono (by assumption) ?_))) | omega | (simp; omega) | (simp; done)); done) | (repeat' first | exact Below.refl _ _ | assumption | refine Below.setCell ?_ (by first | omega | (simp; omega) | (simp; done)) _ | refine Below.alloc ?_ (by first | omega | (simp; omega) | (simp; done)) _ | refine Below.drew ?_ | refine below_drewN ?_ _ | refine Below.trans ?_ (Below.mono (by assumption) (by first | omega | (simp; omega) | (simp; done)))))
  · have h2 : amtB n = false := by rw [h1] at hno; exact hno
    simp only [Bool.and_eq_true] at h1
    have H1 := Lib.hid h1
    clear h1 hno
    go_enter Try.func30, Try.ntmps30
    go_wp2_with fail
    refine (i_BucketAt_yes _ _ _ _ _ _ H1.out.1 H1.out.2).mono ?_
    rintro e w1 ⟨rfl, hb⟩
    obtain ⟨mh, m0, m1, m2, m3, mf, mz⟩ := own4 (g := w.heap.size + 1) hb (by first | omega | (simp; omega) | (simp; done)) (by (first | ((repeat' first | (with_reducible (first | assumption | (refine heap_at ?_; (first | rfl | (simp; done))) | refine heap_drew ?_ | refine heap_drewN ?_ | refine heap_past ?_ ?_ | refine heap_far ?_ ?_)) | (simp; done) | (simp; omega)); done) | (repeat' first | assumption | (refine heap_at ?_; (simp; done)) | refine heap_drew ?_ | refine heap_drewN ?_ | (refine heap_past ?_ ?_ <;> try (simp; done)) | (refine heap_far ?_ ?_ <;> try (simp; done)))))
    go_wp2_with (go_at_call 52; refine (i_AmtOk _ _).mono ?_; rintro e w' ⟨rfl, rfl⟩)
    refine bodyPost_ret (v := .tuple #[.agg #[.int .i64 0, .int .i64 0, .int .i64 0, .int .i64 0], .int .i64 1]) (by simp [results, Try.results30, go_sem, m0, m1, m2, m3, mz]) rfl ⟨rfl, ?_⟩
    (first | ((repeat' first | (with_reducible (first | exact Below.refl _ _ | assumption | refine Below.setCell ?_ ?_ _ | refine Below.alloc ?_ ?_ _ | refine Below.drew ?_ | refine below_drewN ?_ _ | refine Below.trans ?_ (Below.mono (by assumption) ?_))) | omega | (simp; omega) | (simp; done)); done) | (repeat' first | exact Below.refl _ _ | assumption | refine Below.setCell ?_ (by first | omega | (simp; omega) | (simp; done)) _ | refine Below.alloc ?_ (by first | omega | (simp; omega) | (simp; done)) _ | refine Below.drew ?_ | refine below_drewN ?_ _ | refine Below.trans ?_ (Below.mono (by assumption) (by first | omega | (simp; omega) | (simp; done)))))
theorem i_BucketTake_2 (s r q t a n : Int) (w : World) (h1 : bktB s r q t = true ∧ inB a t 1000000000 = true) (h2 : amtB n = true) (h3 : bktHave s r q t a < n) :
    Calls Try.prog 30 #[.agg #[.int .i64 s, .int .i64 r, .int .i64 q, .int .i64 t], .int .i64 a, .int .i64 n] w fun e w' =>
      e = .returned (.tuple #[.agg #[.int .i64 0, .int .i64 0, .int .i64 0, .int .i64 0], .int .i64 2]) ∧ Below w.heap.size w w' := by
  obtain ⟨v1, v2⟩ := bktHave_bd h1.1 h1.2
  have H1 := Lib.hid h1
  have C := Lib.hid (fun W => i_BucketAt_yes s r q t a W h1.1 h1.2)
  obtain ⟨V, hV⟩ : ∃ V, bktHave s r q t a = V := ⟨_, rfl⟩
  rw [hV] at C h3 v1 v2
  clear h1 hV
  go_enter Try.func30, Try.ntmps30
  go_wp2_with fail
  refine (C.out _).mono ?_
  rintro e w1 ⟨rfl, hb⟩
  obtain ⟨mh, m0, m1, m2, m3, mf, mz⟩ := own4 (g := w.heap.size + 1) hb (by first | omega | (simp; omega) | (simp; done)) (by (first | ((repeat' first | (with_reducible (first | assumption | (refine heap_at ?_; (first | rfl | (simp; done))) | refine heap_drew ?_ | refine heap_drewN ?_ | refine heap_past ?_ ?_ | refine heap_far ?_ ?_)) | (simp; done) | (simp; omega)); done) | (repeat' first | assumption | (refine heap_at ?_; (simp; done)) | refine heap_drew ?_ | refine heap_drewN ?_ | (refine heap_past ?_ ?_ <;> try (simp; done)) | (refine heap_far ?_ ?_ <;> try (simp; done)))))
  go_wp2_with (go_at_call 52; refine (i_AmtOk _ _).mono ?_; rintro e w' ⟨rfl, rfl⟩)
  refine bodyPost_ret (v := .tuple #[.agg #[.int .i64 0, .int .i64 0, .int .i64 0, .int .i64 0], .int .i64 2]) (by simp [results, Try.results30, go_sem, m0, m1, m2, m3, mz]) rfl ⟨rfl, ?_⟩
  (first | ((repeat' first | (with_reducible (first | exact Below.refl _ _ | assumption | refine Below.setCell ?_ ?_ _ | refine Below.alloc ?_ ?_ _ | refine Below.drew ?_ | refine below_drewN ?_ _ | refine Below.trans ?_ (Below.mono (by assumption) ?_))) | omega | (simp; omega) | (simp; done)); done) | (repeat' first | exact Below.refl _ _ | assumption | refine Below.setCell ?_ (by first | omega | (simp; omega) | (simp; done)) _ | refine Below.alloc ?_ (by first | omega | (simp; omega) | (simp; done)) _ | refine Below.drew ?_ | refine below_drewN ?_ _ | refine Below.trans ?_ (Below.mono (by assumption) (by first | omega | (simp; omega) | (simp; done)))))
theorem i_BucketTake_0 (s r q t a n : Int) (w : World) (h1 : bktB s r q t = true ∧ inB a t 1000000000 = true) (h2 : amtB n = true) (h3 : n ≤ bktHave s r q t a) :
    Calls Try.prog 30 #[.agg #[.int .i64 s, .int .i64 r, .int .i64 q, .int .i64 t], .int .i64 a, .int .i64 n] w fun e w' =>
      e = .returned (.tuple #[.agg #[.int .i64 s, .int .i64 r, .int .i64 (bktHave s r q t a - n), .int .i64 a], .int .i64 0]) ∧ Below w.heap.size w w' := by
  obtain ⟨v1, v2⟩ := bktHave_bd h1.1 h1.2
  obtain ⟨n1, n2⟩ := amtB_iff.1 h2
  have s2 := (bktB_iff.1 h1.1).1.2
  have C := Lib.hid (fun W => i_BucketAt_yes s r q t a W h1.1 h1.2)
  obtain ⟨V, hV⟩ : ∃ V, bktHave s r q t a = V := ⟨_, rfl⟩
  rw [hV] at C h3 v1 v2 ⊢
  have h3' : decide (V < n) = false := decide_eq_false (by omega)
  clear h1 hV
  go_enter Try.func30, Try.ntmps30
  go_wp2_with fail
  refine (C.out _).mono ?_
  rintro e w1 ⟨rfl, hb⟩
  obtain ⟨mh, m0, m1, m2, m3, mf, mz⟩ := own4 (g := w.heap.size + 1) hb (by first | omega | (simp; omega) | (simp; done)) (by (first | ((repeat' first | (with_reducible (first | assumption | (refine heap_at ?_; (first | rfl | (simp; done))) | refine heap_drew ?_ | refine heap_drewN ?_ | refine heap_past ?_ ?_ | refine heap_far ?_ ?_)) | (simp; done) | (simp; omega)); done) | (repeat' first | assumption | (refine heap_at ?_; (simp; done)) | refine heap_drew ?_ | refine heap_drewN ?_ | (refine heap_past ?_ ?_ <;> try (simp; done)) | (refine heap_far ?_ ?_ <;> try (simp; done)))))
  go_wp2_with (go_at_call 52; refine (i_AmtOk _ _).mono ?_; rintro e w' ⟨rfl, rfl⟩)
  refine bodyPost_ret (v := .tuple #[.agg #[.int .i64 s, .int .i64 r, .int .i64 (V - n), .int .i64 a], .int .i64 0]) (by simp [results, Try.results30, go_sem, m0, m1, m2, m3, mz]) rfl ⟨rfl, ?_⟩
  (first | ((repeat' first | (with_reducible (first | exact Below.refl _ _ | assumption | refine Below.setCell ?_ ?_ _ | refine Below.alloc ?_ ?_ _ | refine Below.drew ?_ | refine below_drewN ?_ _ | refine Below.trans ?_ (Below.mono (by assumption) ?_))) | omega | (simp; omega) | (simp; done)); done) | (repeat' first | exact Below.refl _ _ | assumption | refine Below.setCell ?_ (by first | omega | (simp; omega) | (simp; done)) _ | refine Below.alloc ?_ (by first | omega | (simp; omega) | (simp; done)) _ | refine Below.drew ?_ | refine below_drewN ?_ _ | refine Below.trans ?_ (Below.mono (by assumption) (by first | omega | (simp; omega) | (simp; done)))))
theorem s_BucketTake_1 (s r q t a n : Int) (w : World) (hno : (bktB s r q t && inB a t 1000000000 && amtB n) = false) :
    Calls Try.prog 31 #[.agg #[.int .i64 s, .int .i64 r, .int .i64 q, .int .i64 t], .int .i64 a, .int .i64 n] w fun e w' =>
      e = .returned (.tuple #[.agg #[.int .i64 0, .int .i64 0, .int .i64 0, .int .i64 0], .int .i64 1]) ∧ Below w.heap.size w w' := by
  cases h1 : (bktB s r q t && inB a t 1000000000)
  · have H1 := Lib.hid h1
    clear h1 hno
    go_enter Try.func31, Try.ntmps31
    go_wp2_with fail
    refine (s_BucketAt_no _ _ _ _ _ _ H1.out).mono ?_
    rintro e w1 ⟨rfl, hb⟩
    obtain ⟨mh, m0, m1, m2, m3, mf, mz⟩ := own4 (g := w.heap.size + 1) hb (by first | omega | (simp; omega) | (simp; done)) (by (first | ((repeat' first | (with_reducible (first | assumption | (refine heap_at ?_; (first | rfl | (simp; done))) | refine heap_drew ?_ | refine heap_drewN ?_ | refine heap_past ?_ ?_ | refine heap_far ?_ ?_)) | (simp; done) | (simp; omega)); done) | (repeat' first | assumption | (refine heap_at ?_; (simp; done)) | refine heap_drew ?_ | refine heap_drewN ?_ | (refine heap_past ?_ ?_ <;> try (simp; done)) | (refine heap_far ?_ ?_ <;> try (simp; done)))))
    go_wp2_with fail
    refine bodyPost_ret (v := .tuple #[.agg #[.int .i64 0, .int .i64 0, .int .i64 0, .int .i64 0], .int .i64 1]) (by simp [results, Try.results31, go_sem, m0, m1, m2, m3, mz]) rfl ⟨rfl, ?_⟩
    (first | ((repeat' first | (with_reducible (first | exact Below.refl _ _ | assumption | refine Below.setCell ?_ ?_ _ | refine Below.alloc ?_ ?_ _ | refine Below.drew ?_ | refine below_drewN ?_ _ | refine Below.trans ?_ (Below.mono (by assumption) ?_))) | omega | (simp; omega) | (simp; done)); done) | (repeat' first | exact Below.refl _ _ | assumption | refine Below.setCell ?_ (by first | omega | (simp; omega) | (simp; done)) _ | refine Below.alloc ?_ (by first | omega | (simp; omega) | (simp; done)) _ | refine Below.drew ?_ | refine below_drewN ?_ _ | refine Below.trans ?_ (Below.mono (by assumption) (by first | omega | (simp; omega) | (simp; done)))))
  · have h2 : amtB n = false := by rw [h1] at hno; exact hno
    simp only [Bool.and_eq_true] at h1
    have H1 := Lib.hid h1
    clear h1 hno
    go_enter Try.func31, Try.ntmps31
    go_wp2_with fail
    refine (s_BucketAt_yes _ _ _ _ _ _ H1.out.1 H1.out.2).mono ?_
    rintro e w1 ⟨rfl, hb⟩
    obtain ⟨mh, m0, m1, m2, m3, mf, mz⟩ := own4 (g := w.heap.size + 1) hb (by first | omega | (simp; omega) | (simp; done)) (by (first | ((repeat' first | (with_reducible (first | assumption | (refine heap_at ?_; (first | rfl | (simp; done))) | refine heap_drew ?_ | refine heap_drewN ?_ | refine heap_past ?_ ?_ | refine heap_far ?_ ?_)) | (simp; done) | (simp; omega)); done) | (repeat' first | assumption | (refine heap_at ?_; (simp; done)) | refine heap_drew ?_ | refine heap_drewN ?_ | (refine heap_past ?_ ?_ <;> try (simp; done)) | (refine heap_far ?_ ?_ <;> try (simp; done)))))
    go_wp2_with (go_at_call 54; refine (s_AmtOk _ _).mono ?_; rintro e w' ⟨rfl, rfl⟩)
    refine bodyPost_ret (v := .tuple #[.agg #[.int .i64 0, .int .i64 0, .int .i64 0, .int .i64 0], .int .i64 1]) (by simp [results, Try.results31, go_sem, m0, m1, m2, m3, mz]) rfl ⟨rfl, ?_⟩
    (first | ((repeat' first | (with_reducible (first | exact Below.refl _ _ | assumption | refine Below.setCell ?_ ?_ _ | refine Below.alloc ?_ ?_ _ | refine Below.drew ?_ | refine below_drewN ?_ _ | refine Below.trans ?_ (Below.mono (by assumption) ?_))) | omega | (simp; omega) | (simp; done)); done) | (repeat' first | exact Below.refl _ _ | assumption | refine Below.setCell ?_ (by first | omega | (simp; omega) | (simp; done)) _ | refine Below.alloc ?_ (by first | omega | (simp; omega) | (simp; done)) _ | refine Below.drew ?_ | refine below_drewN ?_ _ | refine Below.trans ?_ (Below.mono (by assumption) (by first | omega | (simp; omega) | (simp; done)))))
theorem s_BucketTake_2 (s r q t a n : Int) (w : World) (h1 : bktB s r q t = true ∧ inB a t 1000000000 = true) (h2 : amtB n = true) (h3 : bktHave s r q t a < n) :
    Calls Try.prog 31 #[.agg #[.int .i64 s, .int .i64 r, .int .i64 q, .int .i64 t], .int .i64 a, .int .i64 n] w fun e w' =>
      e = .returned (.tuple #[.agg #[.int .i64 0, .int .i64 0, .int .i64 0, .int .i64 0], .int .i64 2]) ∧ Below w.heap.size w w' := by
  obtain ⟨v1, v2⟩ := bktHave_bd h1.1 h1.2
  have H1 := Lib.hid h1
  have C := Lib.hid (fun W => s_BucketAt_yes s r q t a W h1.1 h1.2)
  obtain ⟨V, hV⟩ : ∃ V, bktHave s r q t a = V := ⟨_, rfl⟩
  rw [hV] at C h3 v1 v2
  clear h1 hV
  go_enter Try.func31, Try.ntmps31
  go_wp2_with fail
  refine (C.out _).mono ?_
  rintro e w1 ⟨rfl, hb⟩
  obtain ⟨mh, m0, m1, m2, m3, mf, mz⟩ := own4 (g := w.heap.size + 1) hb (by first | omega | (simp; omega) | (simp; done)) (by (first | ((repeat' first | (with_reducible (first | assumption | (refine heap_at ?_; (first | rfl | (simp; done))) | refine heap_drew ?_ | refine heap_drewN ?_ | refine heap_past ?_ ?_ | refine heap_far ?_ ?_)) | (simp; done) | (simp; omega)); done) | (repeat' first | assumption | (refine heap_at ?_; (simp; done)) | refine heap_drew ?_ | refine heap_drewN ?_ | (refine heap_past ?_ ?_ <;> try (simp; done)) | (refine heap_far ?_ ?_ <;> try (simp; done)))))
  go_wp2_with (go_at_call 54; refine (s_AmtOk _ _).mono ?_; rintro e w' ⟨rfl, rfl⟩)
  refine bodyPost_ret (v := .tuple #[.agg #[.int .i64 0, .int .i64 0, .int .i64 0, .int .i64 0], .int .i64 2]) (by simp [results, Try.results31, go_sem, m0, m1, m2, m3, mz]) rfl ⟨rfl, ?_⟩
  (first | ((repeat' first | (with_reducible (first | exact Below.refl _ _ | assumption | refine Below.setCell ?_ ?_ _ | refine Below.alloc ?_ ?_ _ | refine Below.drew ?_ | refine below_drewN ?_ _ | refine Below.trans ?_ (Below.mono (by assumption) ?_))) | omega | (simp; omega) | (simp; done)); done) | (repeat' first | exact Below.refl _ _ | assumption | refine Below.setCell ?_ (by first | omega | (simp; omega) | (simp; done)) _ | refine Below.alloc ?_ (by first | omega | (simp; omega) | (simp; done)) _ | refine Below.drew ?_ | refine below_drewN ?_ _ | refine Below.trans ?_ (Below.mono (by assumption) (by first | omega | (simp; omega) | (simp; done)))))
theorem s_BucketTake_0 (s r q t a n : Int) (w : World) (h1 : bktB s r q t = true ∧ inB a t 1000000000 = true) (h2 : amtB n = true) (h3 : n ≤ bktHave s r q t a) :
    Calls Try.prog 31 #[.agg #[.int .i64 s, .int .i64 r, .int .i64 q, .int .i64 t], .int .i64 a, .int .i64 n] w fun e w' =>
      e = .returned (.tuple #[.agg #[.int .i64 s, .int .i64 r, .int .i64 (bktHave s r q t a - n), .int .i64 a], .int .i64 0]) ∧ Below w.heap.size w w' := by
  obtain ⟨v1, v2⟩ := bktHave_bd h1.1 h1.2
  obtain ⟨n1, n2⟩ := amtB_iff.1 h2
  have s2 := (bktB_iff.1 h1.1).1.2
  have C := Lib.hid (fun W => s_BucketAt_yes s r q t a W h1.1 h1.2)
  obtain ⟨V, hV⟩ : ∃ V, bktHave s r q t a = V := ⟨_, rfl⟩
  rw [hV] at C h3 v1 v2 ⊢
  have h3' : decide (V < n) = false := decide_eq_false (by omega)
  clear h1 hV
  go_enter Try.func31, Try.ntmps31
  go_wp2_with fail
  refine (C.out _).mono ?_
  rintro e w1 ⟨rfl, hb⟩
  obtain ⟨mh, m0, m1, m2, m3, mf, mz⟩ := own4 (g := w.heap.size + 1) hb (by first | omega | (simp; omega) | (simp; done)) (by (first | ((repeat' first | (with_reducible (first | assumption | (refine heap_at ?_; (first | rfl | (simp; done))) | refine heap_drew ?_ | refine heap_drewN ?_ | refine heap_past ?_ ?_ | refine heap_far ?_ ?_)) | (simp; done) | (simp; omega)); done) | (repeat' first | assumption | (refine heap_at ?_; (simp; done)) | refine heap_drew ?_ | refine heap_drewN ?_ | (refine heap_past ?_ ?_ <;> try (simp; done)) | (refine heap_far ?_ ?_ <;> try (simp; done)))))
  go_wp2_with (go_at_call 54; refine (s_AmtOk _ _).mono ?_; rintro e w' ⟨rfl, rfl⟩)
  refine bodyPost_ret (v := .tuple #[.agg #[.int .i64 s, .int .i64 r, .int .i64 (V - n), .int .i64 a], .int .i64 0]) (by simp [results, Try.results31, go_sem, m0, m1, m2, m3, mz]) rfl ⟨rfl, ?_⟩
  (first | ((repeat' first | (with_reducible (first | exact Below.refl _ _ | assumption | refine Below.setCell ?_ ?_ _ | refine Below.alloc ?_ ?_ _ | refine Below.drew ?_ | refine below_drewN ?_ _ | refine Below.trans ?_ (Below.mono (by assumption) ?_))) | omega | (simp; omega) | (simp; done)); done) | (repeat' first | exact Below.refl _ _ | assumption | refine Below.setCell ?_ (by first | omega | (simp; omega) | (simp; done)) _ | refine Below.alloc ?_ (by first | omega | (simp; omega) | (simp; done)) _ | refine Below.drew ?_ | refine below_drewN ?_ _ | refine Below.trans ?_ (Below.mono (by assumption) (by first | omega | (simp; omega) | (simp; done)))))
end Go.Proofs.Ytplchgkppkibnaa
