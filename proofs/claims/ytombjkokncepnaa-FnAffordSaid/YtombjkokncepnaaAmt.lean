/- Amounts, times, ranges: the walks. -/
import Derived.Test.YtombjkokncepnaaRows
import Derived.Test.YtombjkokncepnaaBase
namespace Go.Proofs.Ytombjkokncepnaa
open Go.RowKit

theorem wf_i64_le {x : Int} (h : (Lit.int .i64 x).wf = true) : -9223372036854775808 ≤ x ∧ x ≤ 9223372036854775807 := by
  simp [Lit.wf, IntKind.min, IntKind.max, IntKind.signed, IntKind.bits] at h
  omega
def inB (n lo hi : Int) : Bool := decide (lo ≤ n ∧ n ≤ hi)
theorem inB_iff {n lo hi : Int} : inB n lo hi = true ↔ lo ≤ n ∧ n ≤ hi := by simp [inB]
theorem i_in (n lo hi : Int) (w : World) :
    Calls Try.prog 87 #[.int .i64 n, .int .i64 lo, .int .i64 hi] w fun e w' => e = .returned (.bool (inB n lo hi)) ∧ w = w' := by
  by_cases h1 : lo ≤ n <;> by_cases h2 : n ≤ hi
  all_goals
    go_enter Try.func87, Try.ntmps87
    go_wp2
    all_goals go_ret
    all_goals exact ⟨by simp [inB, h1, h2] <;> omega, rfl⟩
def amtB (n : Int) : Bool := inB n 0 1125899906842624
theorem amtB_iff {n : Int} : amtB n = true ↔ 0 ≤ n ∧ n ≤ 1125899906842624 := inB_iff
theorem i_AmtOk (n : Int) (w : World) :
    Calls Try.prog 92 #[.int .i64 n] w fun e w' => e = .returned (.bool (amtB n)) ∧ w = w' := by
  go_enter Try.func92, Try.ntmps92
  go_wp2_with (go_at_call 87; refine (i_in _ _ _ _).mono ?_; rintro e w' ⟨rfl, rfl⟩)
  go_ret
  exact ⟨rfl, rfl⟩
theorem s_AmtOk (n : Int) (w : World) :
    Calls Try.prog 60 #[.int .i64 n] w fun e w' => e = .returned (.bool (amtB n)) ∧ w = w' := by
  by_cases h1 : 0 ≤ n <;> by_cases h2 : n ≤ 1125899906842624
  all_goals
    go_enter Try.func60, Try.ntmps60
    go_wp2
    all_goals go_ret
    all_goals exact ⟨by simp [amtB, inB, h1, h2] <;> omega, rfl⟩
def timeB (n : Int) : Bool := inB n 0 1000000000
theorem timeB_iff {n : Int} : timeB n = true ↔ 0 ≤ n ∧ n ≤ 1000000000 := inB_iff
theorem i_isTime (n : Int) (w : World) :
    Calls Try.prog 116 #[.int .i64 n] w fun e w' => e = .returned (.bool (timeB n)) ∧ w = w' := by
  go_enter Try.func116, Try.ntmps116
  go_wp2_with (go_at_call 87; refine (i_in _ _ _ _).mono ?_; rintro e w' ⟨rfl, rfl⟩)
  go_ret
  exact ⟨rfl, rfl⟩
theorem s_l15Time (n : Int) (w : World) :
    Calls Try.prog 85 #[.int .i64 n] w fun e w' => e = .returned (.bool (timeB n)) ∧ w = w' := by
  by_cases h1 : 0 ≤ n <;> by_cases h2 : n ≤ 1000000000
  all_goals
    go_enter Try.func85, Try.ntmps85
    go_wp2
    all_goals go_ret
    all_goals exact ⟨by simp [timeB, inB, h1, h2] <;> omega, rfl⟩
theorem s_l16Min (a b : Int) (w : World) :
    Calls Try.prog 50 #[.int .i64 a, .int .i64 b] w fun e w' => e = .returned (.int .i64 (min a b)) ∧ w = w' := by
  by_cases h : a < b
  all_goals
    go_enter Try.func50, Try.ntmps50
    go_wp2
    go_ret
    exact ⟨ret_int (by omega), rfl⟩

def isChanB (n : Int) : Bool := inB n 1 99
theorem isChanB_iff {n : Int} : isChanB n = true ↔ 1 ≤ n ∧ n ≤ 99 := inB_iff
theorem i_isChan (n : Int) (w : World) :
    Calls Try.prog 86 #[.int .i64 n] w fun e w' => e = .returned (.bool (isChanB n)) ∧ w = w' := by
  go_enter Try.func86, Try.ntmps86
  go_wp2_with (go_at_call 87; refine (i_in _ _ _ _).mono ?_; rintro e w' ⟨rfl, rfl⟩)
  go_ret
  exact ⟨rfl, rfl⟩
theorem s_l14Peer (n : Int) (w : World) :
    Calls Try.prog 51 #[.int .i64 n] w fun e w' => e = .returned (.bool (isChanB n)) ∧ w = w' := by
  by_cases h1 : 1 ≤ n <;> by_cases h2 : n ≤ 99
  all_goals
    go_enter Try.func51, Try.ntmps51
    go_wp2
    all_goals go_ret
    all_goals exact ⟨by simp [isChanB, inB, h1, h2] <;> omega, rfl⟩
theorem i_amt_yes (n : Int) (w : World) (h1 : amtB n = true) :
    Calls Try.prog 100 #[.int .i64 n] w fun e w' => e = .returned (.tuple #[.int .i64 n, .bool true]) ∧ w = w' := by
  go_enter Try.func100, Try.ntmps100
  go_wp2_with (go_at_call 92; refine (i_AmtOk _ _).mono ?_; rintro e w' ⟨rfl, rfl⟩)
  go_ret2
  exact ⟨rfl, rfl⟩
theorem i_amt_no (n : Int) (w : World) (h1 : amtB n = false) :
    Calls Try.prog 100 #[.int .i64 n] w fun e w' => e = .returned (.tuple #[.int .i64 0, .bool false]) ∧ w = w' := by
  go_enter Try.func100, Try.ntmps100
  go_wp2_with (go_at_call 92; refine (i_AmtOk _ _).mono ?_; rintro e w' ⟨rfl, rfl⟩)
  go_ret2
  exact ⟨rfl, rfl⟩
theorem i_AddAmt_yes (a b : Int) (w : World) (h1 : amtB a = true) (h2 : amtB b = true) (h3 : amtB (a + b) = true) :
    Calls Try.prog 67 #[.int .i64 a, .int .i64 b] w fun e w' => e = .returned (.tuple #[.int .i64 (a + b), .bool true]) ∧ w = w' := by
  obtain ⟨a1, a2⟩ := amtB_iff.1 h1
  obtain ⟨b1, b2⟩ := amtB_iff.1 h2
  go_enter Try.func67, Try.ntmps67
  go_wp2_with (first | (go_at_call 92; refine (i_AmtOk _ _).mono ?_; rintro e w' ⟨rfl, rfl⟩) | (go_at_call 100; refine (i_amt_yes _ _ h3).mono ?_; rintro e w' ⟨rfl, rfl⟩))
  go_ret2
  exact ⟨rfl, rfl⟩
theorem i_AddAmt_no (a b : Int) (w : World) (h : (amtB a && amtB b && amtB (a + b)) = false) :
    Calls Try.prog 67 #[.int .i64 a, .int .i64 b] w fun e w' => e = .returned (.tuple #[.int .i64 0, .bool false]) ∧ w = w' := by
  cases h1 : amtB a
  · clear h
    go_enter Try.func67, Try.ntmps67
    go_wp2_with (go_at_call 92; refine (i_AmtOk _ _).mono ?_; rintro e w' ⟨rfl, rfl⟩)
    go_ret2
    exact ⟨rfl, rfl⟩
  · cases h2 : amtB b
    · clear h
      go_enter Try.func67, Try.ntmps67
      go_wp2_with (go_at_call 92; refine (i_AmtOk _ _).mono ?_; rintro e w' ⟨rfl, rfl⟩)
      go_ret2
      exact ⟨rfl, rfl⟩
    · have h3 : amtB (a + b) = false := by simpa [h1, h2] using h
      clear h
      obtain ⟨a1, a2⟩ := amtB_iff.1 h1
      obtain ⟨b1, b2⟩ := amtB_iff.1 h2
      go_enter Try.func67, Try.ntmps67
      go_wp2_with (first | (go_at_call 92; refine (i_AmtOk _ _).mono ?_; rintro e w' ⟨rfl, rfl⟩) | (go_at_call 100; refine (i_amt_no _ _ h3).mono ?_; rintro e w' ⟨rfl, rfl⟩))
      go_ret2
      exact ⟨rfl, rfl⟩
theorem s_AddAmt_yes (a b : Int) (w : World) (h1 : amtB a = true) (h2 : amtB b = true) (h3 : amtB (a + b) = true) :
    Calls Try.prog 104 #[.int .i64 a, .int .i64 b] w fun e w' => e = .returned (.tuple #[.int .i64 (a + b), .bool true]) ∧ w = w' := by
  obtain ⟨a1, a2⟩ := amtB_iff.1 h1
  obtain ⟨b1, b2⟩ := amtB_iff.1 h2
  go_enter Try.func104, Try.ntmps104
  go_wp2_with (go_at_call 60; refine (s_AmtOk _ _).mono ?_; rintro e w' ⟨rfl, rfl⟩)
  go_ret2
  exact ⟨rfl, rfl⟩
theorem s_AddAmt_no (a b : Int) (w : World) (h : (amtB a && amtB b && amtB (a + b)) = false) :
    Calls Try.prog 104 #[.int .i64 a, .int .i64 b] w fun e w' => e = .returned (.tuple #[.int .i64 0, .bool false]) ∧ w = w' := by
  cases h1 : amtB a
  · clear h
    go_enter Try.func104, Try.ntmps104
    go_wp2_with (go_at_call 60; refine (s_AmtOk _ _).mono ?_; rintro e w' ⟨rfl, rfl⟩)
    go_ret2
    exact ⟨rfl, rfl⟩
  · cases h2 : amtB b
    · clear h
      go_enter Try.func104, Try.ntmps104
      go_wp2_with (go_at_call 60; refine (s_AmtOk _ _).mono ?_; rintro e w' ⟨rfl, rfl⟩)
      go_ret2
      exact ⟨rfl, rfl⟩
    · have h3 : amtB (a + b) = false := by simpa [h1, h2] using h
      clear h
      obtain ⟨a1, a2⟩ := amtB_iff.1 h1
      obtain ⟨b1, b2⟩ := amtB_iff.1 h2
      go_enter Try.func104, Try.ntmps104
      go_wp2_with (go_at_call 60; refine (s_AmtOk _ _).mono ?_; rintro e w' ⟨rfl, rfl⟩)
      go_ret2
      exact ⟨rfl, rfl⟩
theorem all_take_succ {α : Type} (l : List α) (p : α → Bool) {k : Nat} (hk : k < l.length) : (l.take (k + 1)).all p = ((l.take k).all p && p l[k]) := by
  rw [List.take_succ_eq_append_getElem hk, List.all_append]
  simp
theorem all_false {α : Type} (l : List α) (p : α → Bool) {k : Nat} (hk : k < l.length) (h : p l[k] = false) : l.all p = false := by
  rw [List.all_eq_false]
  exact ⟨l[k], List.getElem_mem hk, by simp [h]⟩
theorem foldl_take_succ {α β : Type} (l : List α) (f : β → α → β) (b : β) {k : Nat} (hk : k < l.length) : (l.take (k + 1)).foldl f b = f ((l.take k).foldl f b) l[k] := by
  rw [List.take_succ_eq_append_getElem hk, List.foldl_append]
  rfl
end Go.Proofs.Ytombjkokncepnaa
