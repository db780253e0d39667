/- Amounts, times, ranges: the walks. -/
import Derived.Test.YtgpledgjpjifcaaGreatDoorRows
import Derived.Test.YtgpledgjpjifcaaGreatDoorBase
namespace Go.Proofs.YtgpledgjpjifcaaGreatDoor
open Go.RowKit

theorem wf_i64_le {x : Int} (h : (Lit.int .i64 x).wf = true) : -9223372036854775808 ≤ x ∧ x ≤ 9223372036854775807 := by
  simp [Lit.wf, IntKind.min, IntKind.max, IntKind.signed, IntKind.bits] at h
  omega
def inB (n lo hi : Int) : Bool := decide (lo ≤ n ∧ n ≤ hi)
theorem inB_iff {n lo hi : Int} : inB n lo hi = true ↔ lo ≤ n ∧ n ≤ hi := by simp [inB]
theorem i_in (n lo hi : Int) (w : World) :
    Calls Tryz.prog 79 #[.int .i64 n, .int .i64 lo, .int .i64 hi] w fun e w' => e = .returned (.bool (inB n lo hi)) ∧ w = w' := by
  by_cases h1 : lo ≤ n <;> by_cases h2 : n ≤ hi
  all_goals
    go_enter Tryz.func79, Tryz.ntmps79
    go_wp2
    all_goals go_ret
    all_goals exact ⟨by simp [inB, h1, h2] <;> omega, rfl⟩
def amtB (n : Int) : Bool := inB n 0 1125899906842624
theorem amtB_iff {n : Int} : amtB n = true ↔ 0 ≤ n ∧ n ≤ 1125899906842624 := inB_iff
theorem i_AmtOk (n : Int) (w : World) :
    Calls Tryz.prog 78 #[.int .i64 n] w fun e w' => e = .returned (.bool (amtB n)) ∧ w = w' := by
  go_enter Tryz.func78, Tryz.ntmps78
  go_wp2_with (go_at_call 79; refine (i_in _ _ _ _).mono ?_; rintro e w' ⟨rfl, rfl⟩)
  go_ret
  exact ⟨rfl, rfl⟩
theorem s_AmtOk (n : Int) (w : World) :
    Calls Tryz.prog 35 #[.int .i64 n] w fun e w' => e = .returned (.bool (amtB n)) ∧ w = w' := by
  by_cases h1 : 0 ≤ n <;> by_cases h2 : n ≤ 1125899906842624
  all_goals
    go_enter Tryz.func35, Tryz.ntmps35
    go_wp2
    all_goals go_ret
    all_goals exact ⟨by simp [amtB, inB, h1, h2] <;> omega, rfl⟩
def timeB (n : Int) : Bool := inB n 0 1000000000
theorem timeB_iff {n : Int} : timeB n = true ↔ 0 ≤ n ∧ n ≤ 1000000000 := inB_iff
def isChanB (n : Int) : Bool := inB n 1 99
theorem isChanB_iff {n : Int} : isChanB n = true ↔ 1 ≤ n ∧ n ≤ 99 := inB_iff
theorem i_isChan (n : Int) (w : World) :
    Calls Tryz.prog 81 #[.int .i64 n] w fun e w' => e = .returned (.bool (isChanB n)) ∧ w = w' := by
  go_enter Tryz.func81, Tryz.ntmps81
  go_wp2_with (go_at_call 79; refine (i_in _ _ _ _).mono ?_; rintro e w' ⟨rfl, rfl⟩)
  go_ret
  exact ⟨rfl, rfl⟩
theorem s_l14Peer (n : Int) (w : World) :
    Calls Tryz.prog 96 #[.int .i64 n] w fun e w' => e = .returned (.bool (isChanB n)) ∧ w = w' := by
  by_cases h1 : 1 ≤ n <;> by_cases h2 : n ≤ 99
  all_goals
    go_enter Tryz.func96, Tryz.ntmps96
    go_wp2
    all_goals go_ret
    all_goals exact ⟨by simp [isChanB, inB, h1, h2] <;> omega, rfl⟩
theorem s_AddAmt_yes (a b : Int) (w : World) (h1 : amtB a = true) (h2 : amtB b = true) (h3 : amtB (a + b) = true) :
    Calls Tryz.prog 149 #[.int .i64 a, .int .i64 b] w fun e w' => e = .returned (.tuple #[.int .i64 (a + b), .bool true]) ∧ w = w' := by
  obtain ⟨a1, a2⟩ := amtB_iff.1 h1
  obtain ⟨b1, b2⟩ := amtB_iff.1 h2
  go_enter Tryz.func149, Tryz.ntmps149
  go_wp2_with (go_at_call 35; refine (s_AmtOk _ _).mono ?_; rintro e w' ⟨rfl, rfl⟩)
  go_ret2
  exact ⟨rfl, rfl⟩
theorem s_AddAmt_no (a b : Int) (w : World) (h : (amtB a && amtB b && amtB (a + b)) = false) :
    Calls Tryz.prog 149 #[.int .i64 a, .int .i64 b] w fun e w' => e = .returned (.tuple #[.int .i64 0, .bool false]) ∧ w = w' := by
  cases h1 : amtB a
  · clear h
    go_enter Tryz.func149, Tryz.ntmps149
    go_wp2_with (go_at_call 35; refine (s_AmtOk _ _).mono ?_; rintro e w' ⟨rfl, rfl⟩)
    go_ret2
    exact ⟨rfl, rfl⟩
  · cases h2 : amtB b
    · clear h
      go_enter Tryz.func149, Tryz.ntmps149
      go_wp2_with (go_at_call 35; refine (s_AmtOk _ _).mono ?_; rintro e w' ⟨rfl, rfl⟩)
      go_ret2
      exact ⟨rfl, rfl⟩
    · have h3 : amtB (a + b) = false := by simpa [h1, h2] using h
      clear h
      obtain ⟨a1, a2⟩ := amtB_iff.1 h1
      obtain ⟨b1, b2⟩ := amtB_iff.1 h2
      go_enter Tryz.func149, Tryz.ntmps149
      go_wp2_with (go_at_call 35; refine (s_AmtOk _ _).mono ?_; rintro e w' ⟨rfl, rfl⟩)
      go_ret2
      exact ⟨rfl, rfl⟩
theorem all_take_succ {α : Type} (l : List α) (p : α → Bool) {k : Nat} (hk : k < l.length) : (l.take (k + 1)).all p = ((l.take k).all p && p l[k]) := by
  rw [List.take_succ_eq_append_getElem hk, List.all_append]
  simp
theorem all_false {α : Type} (l : List α) (p : α → Bool) {k : Nat} (hk : k < l.length) (h : p l[k] = false) : l.all p = false := by
  rw [List.all_eq_false]
  exact ⟨l[k], List.getElem_mem hk, by simp [h]⟩
theorem foldl_take_succ {α β : Type} (l : List α) (f : β → α → β) (b : β) {k : Nat} (hk : k < l.length) : (l.take (k + 1)).foldl f b = f ((l.take k).foldl f b) l[k] := by
  rw [List.take_succ_eq_append_getElem hk, List.foldl_append]
  rfl
end Go.Proofs.YtgpledgjpjifcaaGreatDoor
