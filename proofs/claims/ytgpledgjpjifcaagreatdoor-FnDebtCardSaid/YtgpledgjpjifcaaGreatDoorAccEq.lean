/- Equality of two accounts, by the law on structs. -/
import Derived.Test.YtgpledgjpjifcaaGreatDoorRows
import Derived.Test.YtgpledgjpjifcaaGreatDoorBase
import Derived.Laws.StructEq
namespace Go.Proofs.YtgpledgjpjifcaaGreatDoor
open Go.RowKit

theorem eq_acc (w : World) (a b k c : Int) : (binOp .eql 82 (.agg #[.int .i64 a, .int .i64 b]) (.agg #[.int .i64 k, .int .i64 c])).run Tryz.prog w = .ok (.bool (a == k && b == c)) w := by
  rw [run_eql_struct, show (10000 : Nat) = 9999 + 1 from rfl, run_equalIn_struct w 9999 _ _ _ (by kernel_rfl) (by kernel_rfl)]
  cases h1 : (a == k) <;> cases h2 : (b == c) <;> simp [go_sem, h1, h2, Tryz.underlying82, Tryz.underlying3]
theorem neq_acc (w : World) (a b k c : Int) : (binOp .neq 82 (.agg #[.int .i64 a, .int .i64 b]) (.agg #[.int .i64 k, .int .i64 c])).run Tryz.prog w = .ok (.bool (!(a == k && b == c))) w := by
  rw [run_neq_struct, show (10000 : Nat) = 9999 + 1 from rfl, run_equalIn_struct w 9999 _ _ _ (by kernel_rfl) (by kernel_rfl)]
  cases h1 : (a == k) <;> cases h2 : (b == c) <;> simp [go_sem, h1, h2, Tryz.underlying82, Tryz.underlying3]
theorem acc_same {a b k c : Int} (h : a = k ∧ b = c) : (a == k && b == c) = true := by rw [h.1, h.2]; simp
theorem acc_other {a b k c : Int} (h : ¬(a = k ∧ b = c)) : (a == k && b == c) = false := by
  rw [Bool.eq_false_iff]
  intro he
  rw [Bool.and_eq_true, beq_iff_eq, beq_iff_eq] at he
  exact h he
end Go.Proofs.YtgpledgjpjifcaaGreatDoor
