/- Buckets: when: the walks. -/
import Derived.Test.YtplchgkppkibnaaRows
import Derived.Test.YtplchgkppkibnaaBktOk
import Derived.Deep.QuietTactic
import Derived.BigQuiet
import Derived.IntWalk
namespace Go.Proofs.Ytplchgkppkibnaa
open Go.RowKit

def bktNeed (r m : Int) : Int := if m ≤ 0 then 0 else if r = 0 then -1 else (m + r - 1) / r
def bktWhen (s r q t n : Int) : Int :=
  if bktB s r q t && amtB n && decide (n ≤ s) then
    if bktNeed r (n - q) < 0 ∨ 1000000000 < t + bktNeed r (n - q) then -1 else t + bktNeed r (n - q)
  else -1
theorem s_l18Need (r m : Int) (w : World) (hr : 0 ≤ r ∧ r ≤ 1125899906842624) (hm : m ≤ 1125899906842624 ∧ -1125899906842624 ≤ m) :
    Calls Try.prog 55 #[.int .i64 r, .int .i64 m] w fun e w' => e = .returned (.int .i64 (bktNeed r m)) ∧ w = w' := by
  obtain ⟨r1, r2⟩ := hr
  obtain ⟨m1, m2⟩ := hm
  by_cases h1 : m ≤ 0
  · go_enter Try.func55, Try.ntmps55
    go_wp2
    go_ret
    exact ⟨ret_int (by simp [bktNeed, h1]), rfl⟩
  · by_cases h2 : r = 0
    · subst h2
      go_enter Try.func55, Try.ntmps55
      go_wp2
      go_ret
      exact ⟨ret_int (by unfold bktNeed; rw [if_neg (by omega)]; rfl), rfl⟩
    · have hp : 1 ≤ r := by omega
      go_enter Try.func55, Try.ntmps55
      go_wp2
      go_ret
      exact ⟨ret_int (by unfold bktNeed; rw [if_neg (by omega), if_neg (by omega)]), rfl⟩
theorem bktNeed_bd {r m : Int} (hr : 0 ≤ r) (hm : m ≤ 1125899906842624) : -1 ≤ bktNeed r m ∧ bktNeed r m ≤ 1125899906842624 := by
  unfold bktNeed
  split
  · omega
  · split
    · omega
    · have h1 : 0 ≤ (m + r - 1) / r := Int.ediv_nonneg (by omega) hr
      have h2 : (m + r - 1) / r ≤ m := by
        have h3 : (m + r - 1) / r ≤ (m * r) / r := Int.ediv_le_ediv (by omega) (by
          have : (m - 1) * (r - 1) ≥ 0 := Int.mul_nonneg (by omega) (by omega)
          have e : (m - 1) * (r - 1) = m * r - m - r + 1 := by rw [Int.sub_mul, Int.mul_sub, Int.mul_sub]; omega
          omega)
        rwa [Int.mul_ediv_cancel _ (by omega)] at h3
      omega
set_option maxHeartbeats 1000000 in
theorem s_BucketWhen (s r q t n : Int) (w : World) :
    Calls Try.prog 12 #[.agg #[.int .i64 s, .int .i64 r, .int .i64 q, .int .i64 t], .int .i64 n] w fun e w' => e = .returned (.int .i64 (bktWhen s r q t n)) ∧ Below w.heap.size w w' := by
  have hcase : (bktB s r q t = true ∧ amtB n = true ∧ n ≤ s) ∨ (bktB s r q t = false) ∨ (bktB s r q t = true ∧ amtB n = false) ∨ (bktB s r q t = true ∧ amtB n = true ∧ s < n) := by
    cases bktB s r q t <;> cases amtB n <;> simp <;> omega
  rcases hcase with ⟨h1, h2, h3⟩ | h1 | ⟨h1, h2⟩ | ⟨h1, h2, h3⟩
  case inl =>
    obtain ⟨⟨a1, a2⟩, ⟨a3, a4⟩, ⟨a5, a6⟩, a7, a8⟩ := bktB_iff.1 h1
    obtain ⟨b1, b2⟩ := amtB_iff.1 h2
    obtain ⟨n1, n2⟩ := bktNeed_bd (r := r) (m := n - q) (by omega) (by omega)
    have h6 : timeB (t + bktNeed r (n - q)) = decide (0 ≤ t + bktNeed r (n - q) ∧ t + bktNeed r (n - q) ≤ 1000000000) := rfl
    have hc2 : bktNeed r (n - q) < 0 ∨ (0 ≤ bktNeed r (n - q) ∧ 1000000000 < t + bktNeed r (n - q) ∧ timeB (t + bktNeed r (n - q)) = false) ∨ (0 ≤ bktNeed r (n - q) ∧ t + bktNeed r (n - q) ≤ 1000000000 ∧ timeB (t + bktNeed r (n - q)) = true) := by
      rw [h6]; simp; omega
    clear h6
    rcases hc2 with h4 | ⟨h4, h5, h7⟩ | ⟨h4, h5, h7⟩
    all_goals
      go_enter Try.func12, Try.ntmps12
      go_wp2_with fail
      refine (s_BucketOk _ _ _ _ _).mono ?_
      rintro e w1 ⟨rfl, hb1⟩
      have z1 := hb1.size
      try simp at z1
      obtain ⟨kh, k0, k1, k2, k3, kf, kz⟩ := own4 (g := w.heap.size) hb1 (by first | omega | (simp; omega) | (simp; done)) (by (first | ((repeat' first | (with_reducible (first | assumption | (refine heap_at ?_; (first | rfl | (simp; done))) | refine heap_drew ?_ | refine heap_drewN ?_ | refine heap_past ?_ ?_ | refine heap_far ?_ ?_)) | (simp; done) | (simp; omega)); done) | (repeat' first | assumption | (refine heap_at ?_; (simp; done)) | refine heap_drew ?_ | refine heap_drewN ?_ | (refine heap_past ?_ ?_ <;> try (simp; done)) | (refine heap_far ?_ ?_ <;> try (simp; done)))))
      go_wp2_with (first | (go_at_call 54; refine (s_AmtOk _ _).mono ?_; rintro e w' ⟨rfl, rfl⟩) | (go_at_call 56; refine (s_l15Time _ _).mono ?_; rintro e w' ⟨rfl, rfl⟩) | (go_at_call 55; refine (s_l18Need _ _ _ ⟨by omega, by omega⟩ ⟨by omega, by omega⟩).mono ?_; rintro e w' ⟨rfl, rfl⟩))
      go_ret
      exact ⟨ret_int (by simp [bktWhen, h1, h2, h3] <;> omega), by (first | ((repeat' first | (with_reducible (first | exact Below.refl _ _ | assumption | refine Below.setCell ?_ ?_ _ | refine Below.alloc ?_ ?_ _ | refine Below.drew ?_ | refine below_drewN ?_ _ | refine Below.trans ?_ (Below.mono (by assumption) ?_))) | omega | (simp; omega) | (simp; done)); done) | (repeat' first | exact Below.refl _ _ | assumption | refine Below.setCell ?_ (by first | omega | (simp; omega) | (simp; done)) _ | refine Below.alloc ?_ (by first | omega | (simp; omega) | (simp; done)) _ | refine Below.drew ?_ | refine below_drewN ?_ _ | refine Below.trans ?_ (Below.mono (by assumption) (by first | omega | (simp; omega) | (simp; done)))))⟩
  · go_enter Try.func12, Try.ntmps12
    go_wp2_with fail
    refine (s_BucketOk _ _ _ _ _).mono ?_
    rintro e w1 ⟨rfl, hb1⟩
    have z1 := hb1.size
    try simp at z1
    obtain ⟨kh, k0, k1, k2, k3, kf, kz⟩ := own4 (g := w.heap.size) hb1 (by first | omega | (simp; omega) | (simp; done)) (by (first | ((repeat' first | (with_reducible (first | assumption | (refine heap_at ?_; (first | rfl | (simp; done))) | refine heap_drew ?_ | refine heap_drewN ?_ | refine heap_past ?_ ?_ | refine heap_far ?_ ?_)) | (simp; done) | (simp; omega)); done) | (repeat' first | assumption | (refine heap_at ?_; (simp; done)) | refine heap_drew ?_ | refine heap_drewN ?_ | (refine heap_past ?_ ?_ <;> try (simp; done)) | (refine heap_far ?_ ?_ <;> try (simp; done)))))
    go_wp2_with (go_at_call 54; refine (s_AmtOk _ _).mono ?_; rintro e w' ⟨rfl, rfl⟩)
    go_ret
    exact ⟨ret_int (by simp [bktWhen, h1]), by (first | ((repeat' first | (with_reducible (first | exact Below.refl _ _ | assumption | refine Below.setCell ?_ ?_ _ | refine Below.alloc ?_ ?_ _ | refine Below.drew ?_ | refine below_drewN ?_ _ | refine Below.trans ?_ (Below.mono (by assumption) ?_))) | omega | (simp; omega) | (simp; done)); done) | (repeat' first | exact Below.refl _ _ | assumption | refine Below.setCell ?_ (by first | omega | (simp; omega) | (simp; done)) _ | refine Below.alloc ?_ (by first | omega | (simp; omega) | (simp; done)) _ | refine Below.drew ?_ | refine below_drewN ?_ _ | refine Below.trans ?_ (Below.mono (by assumption) (by first | omega | (simp; omega) | (simp; done)))))⟩
  · go_enter Try.func12, Try.ntmps12
    go_wp2_with fail
    refine (s_BucketOk _ _ _ _ _).mono ?_
    rintro e w1 ⟨rfl, hb1⟩
    have z1 := hb1.size
    try simp at z1
    obtain ⟨kh, k0, k1, k2, k3, kf, kz⟩ := own4 (g := w.heap.size) hb1 (by first | omega | (simp; omega) | (simp; done)) (by (first | ((repeat' first | (with_reducible (first | assumption | (refine heap_at ?_; (first | rfl | (simp; done))) | refine heap_drew ?_ | refine heap_drewN ?_ | refine heap_past ?_ ?_ | refine heap_far ?_ ?_)) | (simp; done) | (simp; omega)); done) | (repeat' first | assumption | (refine heap_at ?_; (simp; done)) | refine heap_drew ?_ | refine heap_drewN ?_ | (refine heap_past ?_ ?_ <;> try (simp; done)) | (refine heap_far ?_ ?_ <;> try (simp; done)))))
    go_wp2_with (go_at_call 54; refine (s_AmtOk _ _).mono ?_; rintro e w' ⟨rfl, rfl⟩)
    go_ret
    exact ⟨ret_int (by simp [bktWhen, h1, h2]), by (first | ((repeat' first | (with_reducible (first | exact Below.refl _ _ | assumption | refine Below.setCell ?_ ?_ _ | refine Below.alloc ?_ ?_ _ | refine Below.drew ?_ | refine below_drewN ?_ _ | refine Below.trans ?_ (Below.mono (by assumption) ?_))) | omega | (simp; omega) | (simp; done)); done) | (repeat' first | exact Below.refl _ _ | assumption | refine Below.setCell ?_ (by first | omega | (simp; omega) | (simp; done)) _ | refine Below.alloc ?_ (by first | omega | (simp; omega) | (simp; done)) _ | refine Below.drew ?_ | refine below_drewN ?_ _ | refine Below.trans ?_ (Below.mono (by assumption) (by first | omega | (simp; omega) | (simp; done)))))⟩
  · go_enter Try.func12, Try.ntmps12
    go_wp2_with fail
    refine (s_BucketOk _ _ _ _ _).mono ?_
    rintro e w1 ⟨rfl, hb1⟩
    have z1 := hb1.size
    try simp at z1
    obtain ⟨kh, k0, k1, k2, k3, kf, kz⟩ := own4 (g := w.heap.size) hb1 (by first | omega | (simp; omega) | (simp; done)) (by (first | ((repeat' first | (with_reducible (first | assumption | (refine heap_at ?_; (first | rfl | (simp; done))) | refine heap_drew ?_ | refine heap_drewN ?_ | refine heap_past ?_ ?_ | refine heap_far ?_ ?_)) | (simp; done) | (simp; omega)); done) | (repeat' first | assumption | (refine heap_at ?_; (simp; done)) | refine heap_drew ?_ | refine heap_drewN ?_ | (refine heap_past ?_ ?_ <;> try (simp; done)) | (refine heap_far ?_ ?_ <;> try (simp; done)))))
    go_wp2_with (go_at_call 54; refine (s_AmtOk _ _).mono ?_; rintro e w' ⟨rfl, rfl⟩)
    go_ret
    exact ⟨ret_int (by simp [bktWhen, h1, h2] <;> omega), by (first | ((repeat' first | (with_reducible (first | exact Below.refl _ _ | assumption | refine Below.setCell ?_ ?_ _ | refine Below.alloc ?_ ?_ _ | refine Below.drew ?_ | refine below_drewN ?_ _ | refine Below.trans ?_ (Below.mono (by assumption) ?_))) | omega | (simp; omega) | (simp; done)); done) | (repeat' first | exact Below.refl _ _ | assumption | refine Below.setCell ?_ (by first | omega | (simp; omega) | (simp; done)) _ | refine Below.alloc ?_ (by first | omega | (simp; omega) | (simp; done)) _ | refine Below.drew ?_ | refine below_drewN ?_ _ | refine Below.trans ?_ (Below.mono (by assumption) (by first | omega | (simp; omega) | (simp; done)))))⟩
set_option maxHeartbeats 1000000 in
theorem i_BucketWhen (s r q t n : Int) (w : World) :
    Calls Try.prog 11 #[.agg #[.int .i64 s, .int .i64 r, .int .i64 q, .int .i64 t], .int .i64 n] w fun e w' => e = .returned (.int .i64 (bktWhen s r q t n)) ∧ Below w.heap.size w w' := by
  have hcase : (bktB s r q t = true ∧ amtB n = true ∧ n ≤ s) ∨ (bktB s r q t = false) ∨ (bktB s r q t = true ∧ amtB n = false) ∨ (bktB s r q t = true ∧ amtB n = true ∧ s < n) := by
    cases bktB s r q t <;> cases amtB n <;> simp <;> omega
  rcases hcase with ⟨h1, h2, h3⟩ | h1 | ⟨h1, h2⟩ | ⟨h1, h2, h3⟩
  case inl =>
    obtain ⟨⟨a1, a2⟩, ⟨a3, a4⟩, ⟨a5, a6⟩, a7, a8⟩ := bktB_iff.1 h1
    obtain ⟨b1, b2⟩ := amtB_iff.1 h2
    by_cases h4 : n - q ≤ 0
    · have e : bktNeed r (n - q) = 0 := by unfold bktNeed; rw [if_pos h4]
      have E := Lib.hid e
      clear e
      go_enter Try.func11, Try.ntmps11
      go_wp2_with fail
      refine (i_BucketOk _ _ _ _ _).mono ?_
      rintro e w1 ⟨rfl, hb1⟩
      have z1 := hb1.size
      try simp at z1
      obtain ⟨kh, k0, k1, k2, k3, kf, kz⟩ := own4 (g := w.heap.size) hb1 (by first | omega | (simp; omega) | (simp; done)) (by (first | ((repeat' first | (with_reducible (first | assumption | (refine heap_at ?_; (first | rfl | (simp; done))) | refine heap_drew ?_ | refine heap_drewN ?_ | refine heap_past ?_ ?_ | refine heap_far ?_ ?_)) | (simp; done) | (simp; omega)); done) | (repeat' first | assumption | (refine heap_at ?_; (simp; done)) | refine heap_drew ?_ | refine heap_drewN ?_ | (refine heap_past ?_ ?_ <;> try (simp; done)) | (refine heap_far ?_ ?_ <;> try (simp; done)))))
      go_wp2_with (go_at_call 52; refine (i_AmtOk _ _).mono ?_; rintro e w' ⟨rfl, rfl⟩)
      go_ret
      exact ⟨ret_int (by simp [bktWhen, h1, h2, h3, E.out] <;> omega), by (first | ((repeat' first | (with_reducible (first | exact Below.refl _ _ | assumption | refine Below.setCell ?_ ?_ _ | refine Below.alloc ?_ ?_ _ | refine Below.drew ?_ | refine below_drewN ?_ _ | refine Below.trans ?_ (Below.mono (by assumption) ?_))) | omega | (simp; omega) | (simp; done)); done) | (repeat' first | exact Below.refl _ _ | assumption | refine Below.setCell ?_ (by first | omega | (simp; omega) | (simp; done)) _ | refine Below.alloc ?_ (by first | omega | (simp; omega) | (simp; done)) _ | refine Below.drew ?_ | refine below_drewN ?_ _ | refine Below.trans ?_ (Below.mono (by assumption) (by first | omega | (simp; omega) | (simp; done)))))⟩
    · by_cases h5 : r = 0
      · subst h5
        have e : bktNeed 0 (n - q) = -1 := by unfold bktNeed; rw [if_neg h4, if_pos rfl]
        have E := Lib.hid e
        clear e
        go_enter Try.func11, Try.ntmps11
        go_wp2_with fail
        refine (i_BucketOk _ _ _ _ _).mono ?_
        rintro e w1 ⟨rfl, hb1⟩
        have z1 := hb1.size
        try simp at z1
        obtain ⟨kh, k0, k1, k2, k3, kf, kz⟩ := own4 (g := w.heap.size) hb1 (by first | omega | (simp; omega) | (simp; done)) (by (first | ((repeat' first | (with_reducible (first | assumption | (refine heap_at ?_; (first | rfl | (simp; done))) | refine heap_drew ?_ | refine heap_drewN ?_ | refine heap_past ?_ ?_ | refine heap_far ?_ ?_)) | (simp; done) | (simp; omega)); done) | (repeat' first | assumption | (refine heap_at ?_; (simp; done)) | refine heap_drew ?_ | refine heap_drewN ?_ | (refine heap_past ?_ ?_ <;> try (simp; done)) | (refine heap_far ?_ ?_ <;> try (simp; done)))))
        go_wp2_with (go_at_call 52; refine (i_AmtOk _ _).mono ?_; rintro e w' ⟨rfl, rfl⟩)
        go_ret
        exact ⟨ret_int (by simp [bktWhen, h1, h2, h3, E.out]), by (first | ((repeat' first | (with_reducible (first | exact Below.refl _ _ | assumption | refine Below.setCell ?_ ?_ _ | refine Below.alloc ?_ ?_ _ | refine Below.drew ?_ | refine below_drewN ?_ _ | refine Below.trans ?_ (Below.mono (by assumption) ?_))) | omega | (simp; omega) | (simp; done)); done) | (repeat' first | exact Below.refl _ _ | assumption | refine Below.setCell ?_ (by first | omega | (simp; omega) | (simp; done)) _ | refine Below.alloc ?_ (by first | omega | (simp; omega) | (simp; done)) _ | refine Below.drew ?_ | refine below_drewN ?_ _ | refine Below.trans ?_ (Below.mono (by assumption) (by first | omega | (simp; omega) | (simp; done)))))⟩
      · obtain ⟨n1, n2⟩ := bktNeed_bd (r := r) (m := n - q) (by omega) (by omega)
        have e : bktNeed r (n - q) = (n - q + r - 1) / r := by unfold bktNeed; rw [if_neg h4, if_neg h5]
        have n0 : 0 ≤ (n - q + r - 1) / r := Int.ediv_nonneg (by omega) (by omega)
        rw [e] at n1 n2
        have E := Lib.hid e
        clear e
        have hr1 : 1 ≤ r := by omega
        by_cases h6 : 1000000000 < t + (n - q + r - 1) / r
        all_goals
          go_enter Try.func11, Try.ntmps11
          go_wp2_with fail
          refine (i_BucketOk _ _ _ _ _).mono ?_
          rintro e w1 ⟨rfl, hb1⟩
          have z1 := hb1.size
          try simp at z1
          obtain ⟨kh, k0, k1, k2, k3, kf, kz⟩ := own4 (g := w.heap.size) hb1 (by first | omega | (simp; omega) | (simp; done)) (by (first | ((repeat' first | (with_reducible (first | assumption | (refine heap_at ?_; (first | rfl | (simp; done))) | refine heap_drew ?_ | refine heap_drewN ?_ | refine heap_past ?_ ?_ | refine heap_far ?_ ?_)) | (simp; done) | (simp; omega)); done) | (repeat' first | assumption | (refine heap_at ?_; (simp; done)) | refine heap_drew ?_ | refine heap_drewN ?_ | (refine heap_past ?_ ?_ <;> try (simp; done)) | (refine heap_far ?_ ?_ <;> try (simp; done)))))
          go_wp2_with (go_at_call 52; refine (i_AmtOk _ _).mono ?_; rintro e w' ⟨rfl, rfl⟩)
          have e1 : IntKind.i64.wrap (n - q + r) = n - q + r := IntWalk.i64_in _ ⟨by omega, by omega⟩
          have e2 : IntKind.i64.wrap (n - q + r - 1) = n - q + r - 1 := IntWalk.i64_in _ ⟨by omega, by omega⟩
          have e3 : (n - q + r - 1).tdiv r = (n - q + r - 1) / r := Int.tdiv_eq_ediv_of_nonneg (by omega)
          have e4 : IntKind.i64.wrap ((n - q + r - 1) / r) = (n - q + r - 1) / r := IntWalk.i64_in _ ⟨by omega, by omega⟩
          have e5 : IntKind.i64.wrap (t + (n - q + r - 1) / r) = t + (n - q + r - 1) / r := IntWalk.i64_in _ ⟨by omega, by omega⟩
          go_quiet (fail)
          clear e1 e2 e3 e4 e5
          go_wp2
          go_ret
          exact ⟨ret_int (by simp [bktWhen, h1, h2, h3, E.out] <;> omega), by (first | ((repeat' first | (with_reducible (first | exact Below.refl _ _ | assumption | refine Below.setCell ?_ ?_ _ | refine Below.alloc ?_ ?_ _ | refine Below.drew ?_ | refine below_drewN ?_ _ | refine Below.trans ?_ (Below.mono (by assumption) ?_))) | omega | (simp; omega) | (simp; done)); done) | (repeat' first | exact Below.refl _ _ | assumption | refine Below.setCell ?_ (by first | omega | (simp; omega) | (simp; done)) _ | refine Below.alloc ?_ (by first | omega | (simp; omega) | (simp; done)) _ | refine Below.drew ?_ | refine below_drewN ?_ _ | refine Below.trans ?_ (Below.mono (by assumption) (by first | omega | (simp; omega) | (simp; done)))))⟩
  · go_enter Try.func11, Try.ntmps11
    go_wp2_with fail
    refine (i_BucketOk _ _ _ _ _).mono ?_
    rintro e w1 ⟨rfl, hb1⟩
    have z1 := hb1.size
    try simp at z1
    obtain ⟨kh, k0, k1, k2, k3, kf, kz⟩ := own4 (g := w.heap.size) hb1 (by first | omega | (simp; omega) | (simp; done)) (by (first | ((repeat' first | (with_reducible (first | assumption | (refine heap_at ?_; (first | rfl | (simp; done))) | refine heap_drew ?_ | refine heap_drewN ?_ | refine heap_past ?_ ?_ | refine heap_far ?_ ?_)) | (simp; done) | (simp; omega)); done) | (repeat' first | assumption | (refine heap_at ?_; (simp; done)) | refine heap_drew ?_ | refine heap_drewN ?_ | (refine heap_past ?_ ?_ <;> try (simp; done)) | (refine heap_far ?_ ?_ <;> try (simp; done)))))
    go_wp2_with (go_at_call 52; refine (i_AmtOk _ _).mono ?_; rintro e w' ⟨rfl, rfl⟩)
    go_ret
    exact ⟨ret_int (by simp [bktWhen, h1]), by (first | ((repeat' first | (with_reducible (first | exact Below.refl _ _ | assumption | refine Below.setCell ?_ ?_ _ | refine Below.alloc ?_ ?_ _ | refine Below.drew ?_ | refine below_drewN ?_ _ | refine Below.trans ?_ (Below.mono (by assumption) ?_))) | omega | (simp; omega) | (simp; done)); done) | (repeat' first | exact Below.refl _ _ | assumption | refine Below.setCell ?_ (by first | omega | (simp; omega) | (simp; done)) _ | refine Below.alloc ?_ (by first | omega | (simp; omega) | (simp; done)) _ | refine Below.drew ?_ | refine below_drewN ?_ _ | refine Below.trans ?_ (Below.mono (by assumption) (by first | omega | (simp; omega) | (simp; done)))))⟩
  · go_enter Try.func11, Try.ntmps11
    go_wp2_with fail
    refine (i_BucketOk _ _ _ _ _).mono ?_
    rintro e w1 ⟨rfl, hb1⟩
    have z1 := hb1.size
    try simp at z1
    obtain ⟨kh, k0, k1, k2, k3, kf, kz⟩ := own4 (g := w.heap.size) hb1 (by first | omega | (simp; omega) | (simp; done)) (by (first | ((repeat' first | (with_reducible (first | assumption | (refine heap_at ?_; (first | rfl | (simp; done))) | refine heap_drew ?_ | refine heap_drewN ?_ | refine heap_past ?_ ?_ | refine heap_far ?_ ?_)) | (simp; done) | (simp; omega)); done) | (repeat' first | assumption | (refine heap_at ?_; (simp; done)) | refine heap_drew ?_ | refine heap_drewN ?_ | (refine heap_past ?_ ?_ <;> try (simp; done)) | (refine heap_far ?_ ?_ <;> try (simp; done)))))
    go_wp2_with (go_at_call 52; refine (i_AmtOk _ _).mono ?_; rintro e w' ⟨rfl, rfl⟩)
    go_ret
    exact ⟨ret_int (by simp [bktWhen, h1, h2]), by (first | ((repeat' first | (with_reducible (first | exact Below.refl _ _ | assumption | refine Below.setCell ?_ ?_ _ | refine Below.alloc ?_ ?_ _ | refine Below.drew ?_ | refine below_drewN ?_ _ | refine Below.trans ?_ (Below.mono (by assumption) ?_))) | omega | (simp; omega) | (simp; done)); done) | (repeat' first | exact Below.refl _ _ | assumption | refine Below.setCell ?_ (by first | omega | (simp; omega) | (simp; done)) _ | refine Below.alloc ?_ (by first | omega | (simp; omega) | (simp; done)) _ | refine Below.drew ?_ | refine below_drewN ?_ _ | refine Below.trans ?_ (Below.mono (by assumption) (by first | omega | (simp; omega) | (simp; done)))))⟩
  · go_enter Try.func11, Try.ntmps11
    go_wp2_with fail
    refine (i_BucketOk _ _ _ _ _).mono ?_
    rintro e w1 ⟨rfl, hb1⟩
    have z1 := hb1.size
    try simp at z1
    obtain ⟨kh, k0, k1, k2, k3, kf, kz⟩ := own4 (g := w.heap.size) hb1 (by first | omega | (simp; omega) | (simp; done)) (by (first | ((repeat' first | (with_reducible (first | assumption | (refine heap_at ?_; (first | rfl | (simp; done))) | refine heap_drew ?_ | refine heap_drewN ?_ | refine heap_past ?_ ?_ | refine heap_far ?_ ?_)) | (simp; done) | (simp; omega)); done) | (repeat' first | assumption | (refine heap_at ?_; (simp; done)) | refine heap_drew ?_ | refine heap_drewN ?_ | (refine heap_past ?_ ?_ <;> try (simp; done)) | (refine heap_far ?_ ?_ <;> try (simp; done)))))
    go_wp2_with (go_at_call 52; refine (i_AmtOk _ _).mono ?_; rintro e w' ⟨rfl, rfl⟩)
    go_ret
    exact ⟨ret_int (by simp [bktWhen, h1, h2] <;> omega), by (first | ((repeat' first | (with_reducible (first | exact Below.refl _ _ | assumption | refine Below.setCell ?_ ?_ _ | refine Below.alloc ?_ ?_ _ | refine Below.drew ?_ | refine below_drewN ?_ _ | refine Below.trans ?_ (Below.mono (by assumption) ?_))) | omega | (simp; omega) | (simp; done)); done) | (repeat' first | exact Below.refl _ _ | assumption | refine Below.setCell ?_ (by first | omega | (simp; omega) | (simp; done)) _ | refine Below.alloc ?_ (by first | omega | (simp; omega) | (simp; done)) _ | refine Below.drew ?_ | refine below_drewN ?_ _ | refine Below.trans ?_ (Below.mono (by assumption) (by first | omega | (simp; omega) | (simp; done)))))⟩
end Go.Proofs.Ytplchgkppkibnaa
