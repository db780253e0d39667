/- Amounts, times, ranges: the walks. -/
import Derived.Test.YtgpledgjpjifcaaDoorRows
import Derived.Test.YtgpledgjpjifcaaDoorBase
namespace Go.Proofs.YtgpledgjpjifcaaDoor
open Go.RowKit

theorem wf_i64_le {x : Int} (h : (Lit.int .i64 x).wf = true) : -9223372036854775808 ≤ x ∧ x ≤ 9223372036854775807 := by
  simp [Lit.wf, IntKind.min, IntKind.max, IntKind.signed, IntKind.bits] at h
  omega
def inB (n lo hi : Int) : Bool := decide (lo ≤ n ∧ n ≤ hi)
theorem inB_iff {n lo hi : Int} : inB n lo hi = true ↔ lo ≤ n ∧ n ≤ hi := by simp [inB]
theorem i_in (n lo hi : Int) (w : World) :
    Calls Tryd.prog 84 #[.int .i64 n, .int .i64 lo, .int .i64 hi] w fun e w' => e = .returned (.bool (inB n lo hi)) ∧ w = w' := by
  by_cases h1 : lo ≤ n <;> by_cases h2 : n ≤ hi
  all_goals
    go_enter Tryd.func84, Tryd.ntmps84
    go_wp2
    all_goals go_ret
    all_goals exact ⟨by simp [inB, h1, h2] <;> omega, rfl⟩
def amtB (n : Int) : Bool := inB n 0 1125899906842624
theorem amtB_iff {n : Int} : amtB n = true ↔ 0 ≤ n ∧ n ≤ 1125899906842624 := inB_iff
theorem i_AmtOk (n : Int) (w : World) :
    Calls Tryd.prog 89 #[.int .i64 n] w fun e w' => e = .returned (.bool (amtB n)) ∧ w = w' := by
  go_enter Tryd.func89, Tryd.ntmps89
  go_wp2_with (go_at_call 84; refine (i_in _ _ _ _).mono ?_; rintro e w' ⟨rfl, rfl⟩)
  go_ret
  exact ⟨rfl, rfl⟩
theorem s_AmtOk (n : Int) (w : World) :
    Calls Tryd.prog 94 #[.int .i64 n] w fun e w' => e = .returned (.bool (amtB n)) ∧ w = w' := by
  by_cases h1 : 0 ≤ n <;> by_cases h2 : n ≤ 1125899906842624
  all_goals
    go_enter Tryd.func94, Tryd.ntmps94
    go_wp2
    all_goals go_ret
    all_goals exact ⟨by simp [amtB, inB, h1, h2] <;> omega, rfl⟩
def timeB (n : Int) : Bool := inB n 0 1000000000
theorem timeB_iff {n : Int} : timeB n = true ↔ 0 ≤ n ∧ n ≤ 1000000000 := inB_iff
def isChanB (n : Int) : Bool := inB n 1 99
theorem isChanB_iff {n : Int} : isChanB n = true ↔ 1 ≤ n ∧ n ≤ 99 := inB_iff
theorem i_isChan (n : Int) (w : World) :
    Calls Tryd.prog 83 #[.int .i64 n] w fun e w' => e = .returned (.bool (isChanB n)) ∧ w = w' := by
  go_enter Tryd.func83, Tryd.ntmps83
  go_wp2_with (go_at_call 84; refine (i_in _ _ _ _).mono ?_; rintro e w' ⟨rfl, rfl⟩)
  go_ret
  exact ⟨rfl, rfl⟩
theorem s_l14Peer (n : Int) (w : World) :
    Calls Tryd.prog 82 #[.int .i64 n] w fun e w' => e = .returned (.bool (isChanB n)) ∧ w = w' := by
  by_cases h1 : 1 ≤ n <;> by_cases h2 : n ≤ 99
  all_goals
    go_enter Tryd.func82, Tryd.ntmps82
    go_wp2
    all_goals go_ret
    all_goals exact ⟨by simp [isChanB, inB, h1, h2] <;> omega, rfl⟩
theorem all_take_succ {α : Type} (l : List α) (p : α → Bool) {k : Nat} (hk : k < l.length) : (l.take (k + 1)).all p = ((l.take k).all p && p l[k]) := by
  rw [List.take_succ_eq_append_getElem hk, List.all_append]
  simp
theorem all_false {α : Type} (l : List α) (p : α → Bool) {k : Nat} (hk : k < l.length) (h : p l[k] = false) : l.all p = false := by
  rw [List.all_eq_false]
  exact ⟨l[k], List.getElem_mem hk, by simp [h]⟩
theorem foldl_take_succ {α β : Type} (l : List α) (f : β → α → β) (b : β) {k : Nat} (hk : k < l.length) : (l.take (k + 1)).foldl f b = f ((l.take k).foldl f b) l[k] := by
  rw [List.take_succ_eq_append_getElem hk, List.foldl_append]
  rfl
end Go.Proofs.YtgpledgjpjifcaaDoor
