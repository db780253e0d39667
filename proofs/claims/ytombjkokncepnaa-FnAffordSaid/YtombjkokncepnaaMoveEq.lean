/- Equality of two moves, by the law on structs. -/
import Derived.Test.YtombjkokncepnaaRows
import Derived.Test.YtombjkokncepnaaMove
import Derived.Laws.StructEq
namespace Go.Proofs.Ytombjkokncepnaa
open Go.RowKit

def mEq (a b : Move) : Bool := a.From == b.From && (a.To == b.To && (a.Amt == b.Amt && a.Ppm == b.Ppm))
theorem mEq_iff {a b : Move} : mEq a b = true ↔ a = b := by
  obtain ⟨a1, a2, a3, a4⟩ := a
  obtain ⟨b1, b2, b3, b4⟩ := b
  simp [mEq]
theorem eq_move (w : World) (a b : Move) : (binOp .eql 31 (.agg #[.int .i64 a.From, .int .i64 a.To, .int .i64 a.Amt, .int .i64 a.Ppm]) (.agg #[.int .i64 b.From, .int .i64 b.To, .int .i64 b.Amt, .int .i64 b.Ppm])).run Try.prog w = .ok (.bool (mEq a b)) w := by
  rw [run_eql_struct, show (10000 : Nat) = 9999 + 1 from rfl, run_equalIn_struct w 9999 _ _ _ (by kernel_rfl) (by kernel_rfl)]
  cases h1 : (a.From == b.From) <;> cases h2 : (a.To == b.To) <;> cases h3 : (a.Amt == b.Amt) <;> cases h4 : (a.Ppm == b.Ppm) <;> simp [go_sem, mEq, h1, h2, h3, h4, Try.underlying31, Try.underlying3]
end Go.Proofs.Ytombjkokncepnaa
