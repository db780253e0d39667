/- Buckets: the law of BucketFill. -/
import Derived.Test.YtcflmmljmjcdaaaRows
import Derived.Test.YtcflmmljmjcdaaaBkt
import Derived.Test.YtcflmmljmjcdaaaLBkt0
namespace Go.Proofs.Ytcflmmljmjcdaaa
open Go.RowKit

set_option maxHeartbeats 1000000 in
theorem l_FnExactBucketFill (s r q t n : Int) (w : World) :
    Calls Try.prog 3 #[.agg #[.int .i64 s, .int .i64 r, .int .i64 q, .int .i64 t], .int .i64 n] w fun e w' => e = .returned (.bool true) ∧ Below w.heap.size w w' := by
  cases hc : (bktB s r q t && amtB n)
  case true =>
    simp only [Bool.and_eq_true] at hc
    obtain ⟨h1, h2⟩ := hc
    have H1 := Lib.hid h1
    have H2 := Lib.hid h2
    clear h1 h2
    go_enter Try.func3, Try.ntmps3
    go_wp2_with fail
    refine (l_toBucket _ _ _ _ _).mono ?_
    rintro e w1 ⟨rfl, hb1⟩
    have z1 := hb1.size
    try simp at z1
    obtain ⟨kh, k0, k1, k2, k3, kf, kz⟩ := own4 (g := w.heap.size) hb1 (by first | omega | (simp; omega) | (simp; done)) (by (repeat' first | assumption | (refine heap_at ?_; (simp; done)) | (refine heap_past ?_ ?_ <;> try (simp; done)) | (refine heap_far ?_ ?_ <;> try (simp; done))))
    go_wp2_with fail
    refine (s_BucketFill_yes _ _ _ _ _ _ H1.out H2.out).mono ?_
    rintro e w2 ⟨rfl, hb2⟩
    have z2 := hb2.size
    try simp at z2
    obtain ⟨jh, j0, j1, j2, j3, jf, jz⟩ := own4 (g := w.heap.size) hb2 (by first | omega | (simp; omega) | (simp; done)) (by (repeat' first | assumption | (refine heap_at ?_; (simp; done)) | (refine heap_past ?_ ?_ <;> try (simp; done)) | (refine heap_far ?_ ?_ <;> try (simp; done))))
    go_wp2_with fail
    refine (l_toBucket _ _ _ _ _).mono ?_
    rintro e w3 ⟨rfl, hb3⟩
    have z3 := hb3.size
    try simp at z3
    obtain ⟨nh, n0, n1, n2, n3, nf, nz⟩ := own4 (g := w2.heap.size) hb3 (by first | omega | (simp; omega) | (simp; done)) (by (repeat' first | assumption | (refine heap_at ?_; (simp; done)) | (refine heap_past ?_ ?_ <;> try (simp; done)) | (refine heap_far ?_ ?_ <;> try (simp; done))))
    go_wp2_with fail
    refine (i_BucketFill_yes _ _ _ _ _ _ H1.out H2.out).mono ?_
    rintro e w4 ⟨rfl, hb4⟩
    have z4 := hb4.size
    try simp at z4
    obtain ⟨ph, p0, p1, p2, p3, pf, pz⟩ := own4 (g := w2.heap.size) hb4 (by first | omega | (simp; omega) | (simp; done)) (by (repeat' first | assumption | (refine heap_at ?_; (simp; done)) | (refine heap_past ?_ ?_ <;> try (simp; done)) | (refine heap_far ?_ ?_ <;> try (simp; done))))
    go_wp2_with fail
    refine (l_eqBucket _ _ _ _ _).mono ?_
    rintro e w5 ⟨rfl, hb5⟩
    have z5 := hb5.size
    try simp at z5
    go_wp2_with fail
    go_ret
    refine ⟨rfl, ?_⟩
    (repeat' first | exact Below.refl _ _ | assumption | refine Below.setCell ?_ (by first | omega | (simp; omega) | (simp; done)) _ | refine Below.alloc ?_ (by first | omega | (simp; omega) | (simp; done)) _ | refine Below.drew ?_ | refine below_drewN ?_ _ | refine Below.trans ?_ (Below.mono (by assumption) (by first | omega | (simp; omega) | (simp; done))))
  case false => 
    have H1 := Lib.hid hc
    clear hc
    go_enter Try.func3, Try.ntmps3
    go_wp2_with fail
    refine (l_toBucket _ _ _ _ _).mono ?_
    rintro e w1 ⟨rfl, hb1⟩
    have z1 := hb1.size
    try simp at z1
    obtain ⟨kh, k0, k1, k2, k3, kf, kz⟩ := own4 (g := w.heap.size) hb1 (by first | omega | (simp; omega) | (simp; done)) (by (repeat' first | assumption | (refine heap_at ?_; (simp; done)) | (refine heap_past ?_ ?_ <;> try (simp; done)) | (refine heap_far ?_ ?_ <;> try (simp; done))))
    go_wp2_with fail
    refine (s_BucketFill_no _ _ _ _ _ _ H1.out).mono ?_
    rintro e w2 ⟨rfl, hb2⟩
    have z2 := hb2.size
    try simp at z2
    obtain ⟨jh, j0, j1, j2, j3, jf, jz⟩ := own4 (g := w.heap.size) hb2 (by first | omega | (simp; omega) | (simp; done)) (by (repeat' first | assumption | (refine heap_at ?_; (simp; done)) | (refine heap_past ?_ ?_ <;> try (simp; done)) | (refine heap_far ?_ ?_ <;> try (simp; done))))
    go_wp2_with fail
    refine (l_toBucket _ _ _ _ _).mono ?_
    rintro e w3 ⟨rfl, hb3⟩
    have z3 := hb3.size
    try simp at z3
    obtain ⟨nh, n0, n1, n2, n3, nf, nz⟩ := own4 (g := w2.heap.size) hb3 (by first | omega | (simp; omega) | (simp; done)) (by (repeat' first | assumption | (refine heap_at ?_; (simp; done)) | (refine heap_past ?_ ?_ <;> try (simp; done)) | (refine heap_far ?_ ?_ <;> try (simp; done))))
    go_wp2_with fail
    refine (i_BucketFill_no _ _ _ _ _ _ H1.out).mono ?_
    rintro e w4 ⟨rfl, hb4⟩
    have z4 := hb4.size
    try simp at z4
    obtain ⟨ph, p0, p1, p2, p3, pf, pz⟩ := own4 (g := w2.heap.size) hb4 (by first | omega | (simp; omega) | (simp; done)) (by (repeat' first | assumption | (refine heap_at ?_; (simp; done)) | (refine heap_past ?_ ?_ <;> try (simp; done)) | (refine heap_far ?_ ?_ <;> try (simp; done))))
    go_wp2_with fail
    refine (l_eqBucket _ _ _ _ _).mono ?_
    rintro e w5 ⟨rfl, hb5⟩
    have z5 := hb5.size
    try simp at z5
    go_wp2_with fail
    go_ret
    refine ⟨rfl, ?_⟩
    (repeat' first | exact Below.refl _ _ | assumption | refine Below.setCell ?_ (by first | omega | (simp; omega) | (simp; done)) _ | refine Below.alloc ?_ (by first | omega | (simp; omega) | (simp; done)) _ | refine Below.drew ?_ | refine below_drewN ?_ _ | refine Below.trans ?_ (Below.mono (by assumption) (by first | omega | (simp; omega) | (simp; done))))
end Go.Proofs.Ytcflmmljmjcdaaa
