/- A product divided: the program's. -/
import Derived.Test.YtombjkokncepnaaRows
import Derived.Test.YtombjkokncepnaaMul
import Derived.Test.YtombjkokncepnaaDiv
namespace Go.Proofs.Ytombjkokncepnaa
open Go.RowKit

def mulR (a b c : Int) : Int := if mulArgs a b c = true then divR a b c else 0
theorem i_divided_no (a b c : Int) (w : World) (h : mulArgs a b c = false) :
    Calls Try.prog 79 #[.int .i64 a, .int .i64 b, .int .i64 c] w fun e w' => e = .returned (.tuple #[.int .i64 0, .int .i64 0, .bool false]) ∧ w = w' := by
  cases hA : amtB a <;> cases hB : amtB b <;> cases hC : inB c 1 1125899906842624
  case true.true.true =>
    obtain ⟨h1, h2⟩ := inB_iff.1 hC
    simp [mulArgs, hA, hB] at h
    omega
  all_goals
    clear h
    go_enter Try.func79, Try.ntmps79
    go_wp2_with (first | (go_at_call 92; refine (i_AmtOk _ _).mono ?_; rintro e w' ⟨rfl, rfl⟩) | (go_at_call 87; refine (i_in _ _ _ _).mono ?_; rintro e w' ⟨rfl, rfl⟩))
    go_ret3
    exact ⟨rfl, rfl⟩
/-- Where the arguments are right: by natural numbers. -/
theorem i_divided_nat (a b c : Nat) (w : World) (ha : a ≤ 1125899906842624) (hb : b ≤ 1125899906842624) (h1 : 1 ≤ c) (hc : c ≤ 1125899906842624) :
    Calls Try.prog 79 #[.int .i64 a, .int .i64 b, .int .i64 c] w fun e w' => e = .returned (.tuple #[.int .i64 (divQ a b c), .int .i64 (divR a b c), .bool (divB a b c)]) ∧ Below w.heap.size w w' := by
  have hA := Lib.hid (amtB_iff.2 ⟨Int.natCast_nonneg a, by omega⟩)
  have hB := Lib.hid (amtB_iff.2 ⟨Int.natCast_nonneg b, by omega⟩)
  have hC : inB (c : Int) 1 1125899906842624 = true := inB_iff.2 ⟨by omega, by omega⟩
  have hdm := Nat.div_add_mod (a * b) 18446744073709551616
  have hlo : a * b % 18446744073709551616 < 18446744073709551616 := Nat.mod_lt _ (by decide)
  have hhi : a * b / 18446744073709551616 < 18446744073709551616 := by
    have : a * b ≤ 1125899906842624 * 1125899906842624 := Nat.mul_le_mul ha hb
    omega
  have hq : divB (a : Int) (b : Int) (c : Int) = decide (a * b / c ≤ 1125899906842624) := by
    unfold divB
    rw [← Int.natCast_mul, ← Int.natCast_ediv]
    exact decide_eq_decide.2 (by omega)
  have hQ : divQ (a : Int) (b : Int) (c : Int) = if a * b / c ≤ 1125899906842624 then ((a * b / c : Nat) : Int) else 0 := by
    unfold divQ
    rw [hq, ← Int.natCast_mul, ← Int.natCast_ediv]
    simp only [decide_eq_true_eq]
  have hR : divR (a : Int) (b : Int) (c : Int) = if a * b / c ≤ 1125899906842624 then ((a * b % c : Nat) : Int) else 0 := by
    unfold divR
    rw [hq, ← Int.natCast_mul, ← Int.natCast_emod]
    simp only [decide_eq_true_eq]
  rw [hq, hQ, hR]
  have MUL := fun W => bits_Mul64 a b (by omega) (by omega) W
  obtain ⟨lo, elo⟩ : ∃ lo, a * b % 18446744073709551616 = lo := ⟨_, rfl⟩
  obtain ⟨hi, ehi⟩ : ∃ hi, a * b / 18446744073709551616 = hi := ⟨_, rfl⟩
  rw [elo] at MUL hlo hdm
  rw [ehi] at MUL hhi hdm
  have hab : hi * 18446744073709551616 + lo = a * b := by omega
  clear hq hQ hR elo ehi hdm
  by_cases hbig : c ≤ hi
  · have hqb : ¬ a * b / c ≤ 1125899906842624 := by
      rw [← hab]
      intro hh
      have h2 : c * 18446744073709551616 ≤ hi * 18446744073709551616 := Nat.mul_le_mul_right _ hbig
      have h3 := Nat.lt_mul_div_succ (hi * 18446744073709551616 + lo) (show 0 < c by omega)
      have h4 : c * ((hi * 18446744073709551616 + lo) / c + 1) ≤ c * 1125899906842625 := Nat.mul_le_mul_left _ (by omega)
      omega
    have HQ := Lib.hid hqb
    have HAB := Lib.hid hab
    have HM := Lib.hid MUL
    have HC := Lib.hid hC
    clear hqb hab MUL hC
    go_enter Try.func79, Try.ntmps79
    go_wp2_with (first | (go_at_call 92; refine (i_AmtOk _ _).mono ?_; rintro e w' ⟨rfl, rfl⟩; try rw [hA.out]; try rw [hB.out]) | (go_at_call 87; refine (i_in _ _ _ _).mono ?_; rintro e w' ⟨rfl, rfl⟩; rw [HC.out]))
    refine (HM.out _).mono ?_
    rintro e w' ⟨rfl, rfl⟩
    go_wp2_with fail
    go_ret3
    refine ⟨by simp, Below.refl _ _⟩
  · have hbig' : hi < c := by omega
    have HAB := Lib.hid hab
    have HM := Lib.hid MUL
    have HC := Lib.hid hC
    have HD := Lib.hid (fun W => bits_Div64 hi lo c W hlo (by omega) hbig')
    clear hab MUL hC hbig'
    by_cases hqb : a * b / c ≤ 1125899906842624
    · have HQ := Lib.hid hqb
      have hrl : a * b % c < c := Nat.mod_lt _ (by omega)
      have HDD : Hid (∀ W, Calls Try.prog 118 #[.int .u64 hi, .int .u64 lo, .int .u64 c] W fun e w' => e = .returned (.tuple #[.int .u64 ((a * b / c : Nat) : Int), .int .u64 ((a * b % c : Nat) : Int)]) ∧ Below W.heap.size W w') := Lib.hid (by rw [← HAB.out]; exact HD.out)
      generalize a * b / c = Q at hqb HQ HDD
      generalize a * b % c = R at hrl HDD
      clear HD
      go_enter Try.func79, Try.ntmps79
      go_wp2_with (first | (go_at_call 92; refine (i_AmtOk _ _).mono ?_; rintro e w' ⟨rfl, rfl⟩; try rw [hA.out]; try rw [hB.out]) | (go_at_call 87; refine (i_in _ _ _ _).mono ?_; rintro e w' ⟨rfl, rfl⟩; rw [HC.out]))
      refine (HM.out _).mono ?_
      rintro e w' ⟨rfl, rfl⟩
      go_wp2_with fail
      refine (HDD.out _).mono ?_
      rintro e w1 ⟨rfl, hb1⟩
      go_wp2_with fail
      go_ret3
      refine ⟨by simp, hb1⟩
    · have HQ := Lib.hid hqb
      have HDD : Hid (∀ W, Calls Try.prog 118 #[.int .u64 hi, .int .u64 lo, .int .u64 c] W fun e w' => e = .returned (.tuple #[.int .u64 ((a * b / c : Nat) : Int), .int .u64 ((a * b % c : Nat) : Int)]) ∧ Below W.heap.size W w') := Lib.hid (by rw [← HAB.out]; exact HD.out)
      generalize a * b / c = Q at hqb HQ HDD
      generalize a * b % c = R at HDD
      clear HD
      go_enter Try.func79, Try.ntmps79
      go_wp2_with (first | (go_at_call 92; refine (i_AmtOk _ _).mono ?_; rintro e w' ⟨rfl, rfl⟩; try rw [hA.out]; try rw [hB.out]) | (go_at_call 87; refine (i_in _ _ _ _).mono ?_; rintro e w' ⟨rfl, rfl⟩; rw [HC.out]))
      refine (HM.out _).mono ?_
      rintro e w' ⟨rfl, rfl⟩
      go_wp2_with fail
      refine (HDD.out _).mono ?_
      rintro e w1 ⟨rfl, hb1⟩
      go_wp2_with fail
      go_ret3
      refine ⟨by simp, hb1⟩
theorem i_divided (a b c : Int) (w : World) :
    Calls Try.prog 79 #[.int .i64 a, .int .i64 b, .int .i64 c] w fun e w' => e = .returned (.tuple #[.int .i64 (mulQ a b c), .int .i64 (mulR a b c), .bool (mulOk a b c)]) ∧ Below w.heap.size w w' := by
  cases h : mulArgs a b c
  · refine (i_divided_no a b c w h).mono fun e w' hh => ?_
    obtain ⟨rfl, rfl⟩ := hh
    exact ⟨by simp [mulQ, mulR, mulOk, h], Below.refl _ _⟩
  · have h' := h
    simp only [mulArgs, Bool.and_eq_true, decide_eq_true_eq, amtB_iff] at h'
    obtain ⟨⟨⟨⟨a1, a2⟩, b1, b2⟩, c1⟩, c2⟩ := h'
    obtain ⟨a, rfl⟩ := Int.eq_ofNat_of_zero_le a1
    obtain ⟨b, rfl⟩ := Int.eq_ofNat_of_zero_le b1
    obtain ⟨c, rfl⟩ := Int.eq_ofNat_of_zero_le (by omega : 0 ≤ c)
    refine (i_divided_nat a b c w (by omega) (by omega) (by omega) (by omega)).mono fun e w' hh => ?_
    obtain ⟨rfl, hb⟩ := hh
    exact ⟨by simp [mulQ, mulR, mulOk, h], hb⟩
theorem i_MulDiv (a b c : Int) (w : World) :
    Calls Try.prog 40 #[.int .i64 a, .int .i64 b, .int .i64 c] w fun e w' => e = .returned (.tuple #[.int .i64 (mulQ a b c), .bool (mulOk a b c)]) ∧ Below w.heap.size w w' := by
  go_enter Try.func40, Try.ntmps40
  go_wp2_with fail
  refine (i_divided a b c _).mono ?_
  rintro e w1 ⟨rfl, hb1⟩
  go_wp2_with fail
  go_ret2
  exact ⟨rfl, hb1⟩
#print axioms i_MulDiv
end Go.Proofs.Ytombjkokncepnaa
