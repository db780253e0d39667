/- Buckets: the walks. -/
import Derived.Test.YtplchgkppkibnaaRows
import Derived.Test.YtplchgkppkibnaaBktOk
namespace Go.Proofs.Ytplchgkppkibnaa
open Go.RowKit

set_option maxHeartbeats 1000000 in
theorem i_BucketFill_yes (s r q t n : Int) (w : World) (h1 : bktB s r q t = true) (h2 : amtB n = true) :
    Calls Try.prog 32 #[.agg #[.int .i64 s, .int .i64 r, .int .i64 q, .int .i64 t], .int .i64 n] w fun e w' =>
      e = .returned (.tuple #[.agg #[.int .i64 s, .int .i64 r, .int .i64 (min (q + n) s), .int .i64 t], .bool true]) ∧ Below w.heap.size w w' := by
  obtain ⟨⟨a1, a2⟩, ⟨a3, a4⟩, ⟨a5, a6⟩, a7, a8⟩ := bktB_iff.1 h1
  obtain ⟨b1, b2⟩ := amtB_iff.1 h2
  go_enter Try.func32, Try.ntmps32
  go_wp2_with fail
  refine (i_BucketOk _ _ _ _ _).mono ?_
  rintro e w1 ⟨rfl, hb⟩
  obtain ⟨kh, k0, k1, k2, k3, kf, kz⟩ := own4 (g := w.heap.size) hb (by first | omega | (simp; omega) | (simp; done)) (by (first | ((repeat' first | (with_reducible (first | assumption | (refine heap_at ?_; (first | rfl | (simp; done))) | refine heap_drew ?_ | refine heap_drewN ?_ | refine heap_past ?_ ?_ | refine heap_far ?_ ?_)) | (simp; done) | (simp; omega)); done) | (repeat' first | assumption | (refine heap_at ?_; (simp; done)) | refine heap_drew ?_ | refine heap_drewN ?_ | (refine heap_past ?_ ?_ <;> try (simp; done)) | (refine heap_far ?_ ?_ <;> try (simp; done)))))
  obtain ⟨mh, m0, m1, m2, m3, mf, mz⟩ := own4 (g := w.heap.size + 1) hb (by first | omega | (simp; omega) | (simp; done)) (by (first | ((repeat' first | (with_reducible (first | assumption | (refine heap_at ?_; (first | rfl | (simp; done))) | refine heap_drew ?_ | refine heap_drewN ?_ | refine heap_past ?_ ?_ | refine heap_far ?_ ?_)) | (simp; done) | (simp; omega)); done) | (repeat' first | assumption | (refine heap_at ?_; (simp; done)) | refine heap_drew ?_ | refine heap_drewN ?_ | (refine heap_past ?_ ?_ <;> try (simp; done)) | (refine heap_far ?_ ?_ <;> try (simp; done)))))
  go_wp2_with (go_at_call 52; refine (i_AmtOk _ _).mono ?_; rintro e w' ⟨rfl, rfl⟩)
  all_goals
    refine bodyPost_ret (v := .tuple #[.agg #[.int .i64 s, .int .i64 r, .int .i64 (min (q + n) s), .int .i64 t], .bool true]) (by simp [results, Try.results32, go_sem, *] <;> omega) rfl ⟨rfl, ?_⟩
    (first | ((repeat' first | (with_reducible (first | exact Below.refl _ _ | assumption | refine Below.setCell ?_ ?_ _ | refine Below.alloc ?_ ?_ _ | refine Below.drew ?_ | refine below_drewN ?_ _ | refine Below.trans ?_ (Below.mono (by assumption) ?_))) | omega | (simp; omega) | (simp; done)); done) | (repeat' first | exact Below.refl _ _ | assumption | refine Below.setCell ?_ (by first | omega | (simp; omega) | (simp; done)) _ | refine Below.alloc ?_ (by first | omega | (simp; omega) | (simp; done)) _ | refine Below.drew ?_ | refine below_drewN ?_ _ | refine Below.trans ?_ (Below.mono (by assumption) (by first | omega | (simp; omega) | (simp; done)))))
theorem i_BucketFill_no (s r q t n : Int) (w : World) (hno : (bktB s r q t && amtB n) = false) :
    Calls Try.prog 32 #[.agg #[.int .i64 s, .int .i64 r, .int .i64 q, .int .i64 t], .int .i64 n] w fun e w' =>
      e = .returned (.tuple #[.agg #[.int .i64 0, .int .i64 0, .int .i64 0, .int .i64 0], .bool false]) ∧ Below w.heap.size w w' := by
  cases h1 : bktB s r q t <;> cases h2 : amtB n
  case true.true => simp [h1, h2] at hno
  all_goals
    clear hno
    go_enter Try.func32, Try.ntmps32
    go_wp2_with fail
    refine (i_BucketOk _ _ _ _ _).mono ?_
    rintro e w1 ⟨rfl, hb⟩
    obtain ⟨mh, m0, m1, m2, m3, mf, mz⟩ := own4 (g := w.heap.size + 1) hb (by first | omega | (simp; omega) | (simp; done)) (by (first | ((repeat' first | (with_reducible (first | assumption | (refine heap_at ?_; (first | rfl | (simp; done))) | refine heap_drew ?_ | refine heap_drewN ?_ | refine heap_past ?_ ?_ | refine heap_far ?_ ?_)) | (simp; done) | (simp; omega)); done) | (repeat' first | assumption | (refine heap_at ?_; (simp; done)) | refine heap_drew ?_ | refine heap_drewN ?_ | (refine heap_past ?_ ?_ <;> try (simp; done)) | (refine heap_far ?_ ?_ <;> try (simp; done)))))
    go_wp2_with (go_at_call 52; refine (i_AmtOk _ _).mono ?_; rintro e w' ⟨rfl, rfl⟩)
    refine bodyPost_ret (v := .tuple #[.agg #[.int .i64 0, .int .i64 0, .int .i64 0, .int .i64 0], .bool false]) (by simp [results, Try.results32, go_sem, *]) rfl ⟨rfl, ?_⟩
    (first | ((repeat' first | (with_reducible (first | exact Below.refl _ _ | assumption | refine Below.setCell ?_ ?_ _ | refine Below.alloc ?_ ?_ _ | refine Below.drew ?_ | refine below_drewN ?_ _ | refine Below.trans ?_ (Below.mono (by assumption) ?_))) | omega | (simp; omega) | (simp; done)); done) | (repeat' first | exact Below.refl _ _ | assumption | refine Below.setCell ?_ (by first | omega | (simp; omega) | (simp; done)) _ | refine Below.alloc ?_ (by first | omega | (simp; omega) | (simp; done)) _ | refine Below.drew ?_ | refine below_drewN ?_ _ | refine Below.trans ?_ (Below.mono (by assumption) (by first | omega | (simp; omega) | (simp; done)))))
end Go.Proofs.Ytplchgkppkibnaa
