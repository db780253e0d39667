/- Buckets: when: the walks. -/
import Derived.Test.YtkgnipaponfbkaaRows
import Derived.Test.YtkgnipaponfbkaaBktOk
import Derived.Deep.QuietTactic
import Derived.BigQuiet
import Derived.IntWalk
namespace Go.Proofs.Ytkgnipaponfbkaa
open Go.RowKit

def bktNeed (r m : Int) : Int := if m ≤ 0 then 0 else if r = 0 then -1 else (m + r - 1) / r
def bktWhen (s r q t n : Int) : Int :=
  if bktB s r q t && amtB n && decide (n ≤ s) then
    if bktNeed r (n - q) < 0 ∨ 1000000000 < t + bktNeed r (n - q) then -1 else t + bktNeed r (n - q)
  else -1
theorem s_l18Need (r m : Int) (w : World) (hr : 0 ≤ r ∧ r ≤ 1125899906842624) (hm : m ≤ 1125899906842624 ∧ -1125899906842624 ≤ m) :
    Calls Try.prog 85 #[.int .i64 r, .int .i64 m] w fun e w' => e = .returned (.int .i64 (bktNeed r m)) ∧ w = w' := by
  obtain ⟨r1, r2⟩ := hr
  obtain ⟨m1, m2⟩ := hm
  by_cases h1 : m ≤ 0
  · go_enter Try.func85, Try.ntmps85
    go_wp2
    go_ret
    exact ⟨ret_int (by simp [bktNeed, h1]), rfl⟩
  · by_cases h2 : r = 0
    · subst h2
      go_enter Try.func85, Try.ntmps85
      go_wp2
      go_ret
      exact ⟨ret_int (by unfold bktNeed; rw [if_neg (by omega)]; rfl), rfl⟩
    · have hp : 1 ≤ r := by omega
      go_enter Try.func85, Try.ntmps85
      go_wp2
      go_ret
      exact ⟨ret_int (by unfold bktNeed; rw [if_neg (by omega), if_neg (by omega)]), rfl⟩
theorem bktNeed_bd {r m : Int} (hr : 0 ≤ r) (hm : m ≤ 1125899906842624) : -1 ≤ bktNeed r m ∧ bktNeed r m ≤ 1125899906842624 := by
  unfold bktNeed
  split
  · omega
  · split
    · omega
    · have h1 : 0 ≤ (m + r - 1) / r := Int.ediv_nonneg (by omega) hr
      have h2 : (m + r - 1) / r ≤ m := by
        have h3 : (m + r - 1) / r ≤ (m * r) / r := Int.ediv_le_ediv (by omega) (by
          have : (m - 1) * (r - 1) ≥ 0 := Int.mul_nonneg (by omega) (by omega)
          have e : (m - 1) * (r - 1) = m * r - m - r + 1 := by rw [Int.sub_mul, Int.mul_sub, Int.mul_sub]; omega
          omega)
        rwa [Int.mul_ediv_cancel _ (by omega)] at h3
      omega
end Go.Proofs.Ytkgnipaponfbkaa
