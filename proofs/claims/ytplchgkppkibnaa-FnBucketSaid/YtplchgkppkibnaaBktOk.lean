/- Buckets: the walks. -/
import Derived.Test.YtplchgkppkibnaaRows
import Derived.Test.YtplchgkppkibnaaAmt
namespace Go.Proofs.Ytplchgkppkibnaa
open Go.RowKit

/-! ### A bucket: Size, Rate, Have, At -/
def bktB (s r h t : Int) : Bool := amtB s && amtB r && inB h 0 s && timeB t
theorem bktB_iff {s r h t : Int} : bktB s r h t = true ↔ (0 ≤ s ∧ s ≤ 1125899906842624) ∧ (0 ≤ r ∧ r ≤ 1125899906842624) ∧ (0 ≤ h ∧ h ≤ s) ∧ (0 ≤ t ∧ t ≤ 1000000000) := by
  simp only [bktB, Bool.and_eq_true, amtB_iff, timeB_iff, inB_iff, and_assoc]
theorem i_BucketOk (s r h t : Int) (w : World) :
    Calls Try.prog 14 #[.agg #[.int .i64 s, .int .i64 r, .int .i64 h, .int .i64 t]] w fun e w' => e = .returned (.bool (bktB s r h t)) ∧ Below w.heap.size w w' := by
  cases h1 : amtB s <;> cases h2 : amtB r <;> cases h3 : inB h 0 s
  all_goals
    go_enter Try.func14, Try.ntmps14
    go_wp2_with (first
      | (go_at_call 52; refine (i_AmtOk _ _).mono ?_; rintro e w' ⟨rfl, rfl⟩)
      | (go_at_call 57; refine (i_in _ _ _ _).mono ?_; rintro e w' ⟨rfl, rfl⟩)
      | (go_at_call 59; refine (i_isTime _ _).mono ?_; rintro e w' ⟨rfl, rfl⟩))
    go_ret
    exact ⟨ret_bool (by simp [bktB, h1, h2, h3]), (Below.refl _ _).alloc (Nat.le_refl _) _⟩
theorem s_BucketOk (s r h t : Int) (w : World) :
    Calls Try.prog 53 #[.agg #[.int .i64 s, .int .i64 r, .int .i64 h, .int .i64 t]] w fun e w' => e = .returned (.bool (bktB s r h t)) ∧ Below w.heap.size w w' := by
  cases h1 : amtB s <;> cases h2 : amtB r <;> by_cases h3 : 0 ≤ h <;> by_cases h4 : h ≤ s
  all_goals
    go_enter Try.func53, Try.ntmps53
    go_wp2_with (first
      | (go_at_call 54; refine (s_AmtOk _ _).mono ?_; rintro e w' ⟨rfl, rfl⟩)
      | (go_at_call 56; refine (s_l15Time _ _).mono ?_; rintro e w' ⟨rfl, rfl⟩))
    go_ret
    exact ⟨ret_bool (by simp [bktB, inB, h1, h2, h3, h4] <;> omega), (Below.refl _ _).alloc (Nat.le_refl _) _⟩

end Go.Proofs.Ytplchgkppkibnaa
