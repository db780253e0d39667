/- Buckets: filling in steps, and waiting: plain, no program in sight. -/
import Derived.Test.YtplchgkppkibnaaRows
import Derived.Test.YtplchgkppkibnaaBktA
namespace Go.Proofs.Ytplchgkppkibnaa
open Go.RowKit

theorem when_neg {s r q t n : Int} (h : bktWhen s r q t n < 0) : bktWhen s r q t n = -1 := by
  unfold bktWhen at h ⊢
  split
  · rename_i h1
    rw [if_pos h1] at h
    split
    · rfl
    · rename_i h2
      rw [if_neg h2] at h
      simp only [Bool.and_eq_true, decide_eq_true_eq] at h1
      have := (bktB_iff.1 h1.1.1).2.2.2
      omega
  · rfl
structure WhenOk (s r q t n a : Int) : Prop where
  b : bktB s r q t = true
  a1 : t ≤ a
  a2 : a ≤ 1000000000
  enough : n ≤ bktHave s r q t a
  early : t < a → bktHave s r q t (a - 1) < n
theorem when_ok {s r q t n : Int} (h : ¬ bktWhen s r q t n < 0) : WhenOk s r q t n (bktWhen s r q t n) := by
  unfold bktWhen at h ⊢
  split at h
  · rename_i h1
    rw [if_pos h1]
    split at h
    · omega
    · rename_i h2
      rw [if_neg h2]
      rw [not_or] at h2
      simp only [Bool.and_eq_true, decide_eq_true_eq] at h1
      obtain ⟨⟨hb, hn⟩, hns⟩ := h1
      obtain ⟨⟨s1, s2⟩, ⟨r1, r2⟩, ⟨q1, q2⟩, t1, t2⟩ := bktB_iff.1 hb
      have key : (n - q ≤ 0 ∧ bktNeed r (n - q) = 0) ∨ (0 < n - q ∧ n - q ≤ r * bktNeed r (n - q) ∧ r * (bktNeed r (n - q) - 1) < n - q) := by
        by_cases h0 : n - q ≤ 0
        · exact .inl ⟨h0, by unfold bktNeed; rw [if_pos h0]⟩
        · refine .inr ⟨by omega, ?_⟩
          have hr : r ≠ 0 := by
            intro hr
            unfold bktNeed at h2
            rw [if_neg h0, if_pos hr] at h2
            omega
          unfold bktNeed
          rw [if_neg h0, if_neg hr]
          have e1 := Int.mul_ediv_add_emod (n - q + r - 1) r
          have e2 := Int.emod_nonneg (n - q + r - 1) hr
          have e3 := Int.emod_lt_of_pos (n - q + r - 1) (show 0 < r by omega)
          rw [Int.mul_sub, Int.mul_one]
          omega
      refine ⟨hb, by omega, by omega, ?_, fun hlt => ?_⟩
      · unfold bktHave
        rw [show t + bktNeed r (n - q) - t = bktNeed r (n - q) by omega]
        rcases key with ⟨k1, k2⟩ | ⟨k1, k2, k3⟩
        · rw [k2, Int.mul_zero]; omega
        · omega
      · unfold bktHave
        rw [show t + bktNeed r (n - q) - 1 - t = bktNeed r (n - q) - 1 by omega]
        rcases key with ⟨k1, k2⟩ | ⟨k1, k2, k3⟩
        · omega
        · omega
  · omega
theorem have_mid {s r q t m a : Int} (hb : bktB s r q t = true) (h1 : t ≤ m) (h2 : m ≤ a) (h3 : a ≤ 1000000000) :
    bktB s r (bktHave s r q t m) m = true ∧ bktHave s r (bktHave s r q t m) m a = bktHave s r q t a := by
  obtain ⟨⟨s1, s2⟩, ⟨r1, r2⟩, ⟨q1, q2⟩, t1, t2⟩ := bktB_iff.1 hb
  have p1 : 0 ≤ r * (m - t) := Int.mul_nonneg r1 (by omega)
  have p2 : 0 ≤ r * (a - m) := Int.mul_nonneg r1 (by omega)
  have p3 : r * (a - t) = r * (m - t) + r * (a - m) := by rw [← Int.mul_add]; congr 1; omega
  constructor
  · rw [bktB_iff]
    unfold bktHave
    omega
  · unfold bktHave
    rw [p3]
    omega
end Go.Proofs.Ytplchgkppkibnaa
