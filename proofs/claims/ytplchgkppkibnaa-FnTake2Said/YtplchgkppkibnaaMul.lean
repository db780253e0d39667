/- A product divided: the reference's division bit by bit. -/
import Derived.Test.YtplchgkppkibnaaRows
import Derived.Test.YtplchgkppkibnaaAmt
namespace Go.Proofs.Ytplchgkppkibnaa
open Go.RowKit

def divB (a b c : Int) : Bool := decide (a * b / c ≤ 1125899906842624)
def divQ (a b c : Int) : Int := if divB a b c = true then a * b / c else 0
def divR (a b c : Int) : Int := if divB a b c = true then a * b % c else 0
/-- Where the bits down to i are taken. -/
def DivAt (a b c q r : Int) (i : Nat) : Prop := q * c + r = a / 2 ^ i * b ∧ 0 ≤ r ∧ r < c ∧ 0 ≤ q
theorem DivAt.end_ {a b c q r : Int} (h : DivAt a b c q r 0) : q = a * b / c ∧ r = a * b % c := by
  obtain ⟨h1, h2, h3, _⟩ := h
  rw [Int.pow_zero, Int.ediv_one] at h1
  have hc : c ≠ 0 := by omega
  rw [← h1]
  constructor
  · rw [Int.add_comm, Int.add_mul_ediv_right _ _ hc, Int.ediv_eq_zero_of_lt h2 h3, Int.zero_add]
  · rw [Int.add_comm, Int.add_mul_emod_self_right, Int.emod_eq_of_lt h2 h3]
theorem half_step (a : Int) (i : Nat) : a / 2 ^ i = 2 * (a / 2 ^ (i + 1)) + a / 2 ^ i % 2 := by
  have : a / 2 ^ (i + 1) = a / 2 ^ i / 2 := by rw [Int.pow_succ, Int.ediv_ediv_of_nonneg (Int.pow_nonneg (by decide))]
  rw [this]
  omega
theorem bit_one (x : Int) (h0 : 0 ≤ x) (h1 : x < 4611686018427387904) : bits .and .i64 x 1 = x % 2 := by
  have h := bits_mask .i64 62 (by decide) (fun n h0 h1 => IntWalk.i64_in n ⟨by omega, by omega⟩) 1 (by decide) x h0 (by omega)
  simpa using h
theorem divB_no {a b c q r : Int} {i : Nat} (hc : 1 ≤ c) (ha : 0 ≤ a) (hb : 0 ≤ b) (h : q * c + r = a / 2 ^ i * b) (hr : 0 ≤ r) (hq : 1125899906842624 < q) : divB a b c = false := by
  have h1 : a / 2 ^ i ≤ a := Int.ediv_le_self _ ha
  have h2 : a / 2 ^ i * b ≤ a * b := Int.mul_le_mul_of_nonneg_right h1 hb
  have h3 : q ≤ a * b / c := (Int.le_ediv_iff_mul_le (by omega)).2 (by omega)
  simp only [divB, decide_eq_false_iff_not]
  omega
theorem div_step {a b c q r : Int} {j : Nat} (h : q * c + r = a / 2 ^ (j + 1) * b) : (2 * q + a / 2 ^ j % 2 * (b / c)) * c + (2 * r + a / 2 ^ j % 2 * (b % c)) = a / 2 ^ j * b := by
  have e := half_step a j
  have e2 : b / c * c + b % c = b := by rw [Int.mul_comm]; exact Int.mul_ediv_add_emod b c
  generalize a / 2 ^ j % 2 = t at *
  generalize a / 2 ^ (j + 1) = x at *
  rw [e]
  calc (2 * q + t * (b / c)) * c + (2 * r + t * (b % c)) = 2 * (q * c + r) + t * (b / c * c + b % c) := by simp only [Int.add_mul, Int.mul_add, Int.mul_assoc]; omega
    _ = (2 * x + t) * b := by rw [h, e2, Int.add_mul, Int.mul_assoc]
def mulArgs (a b c : Int) : Bool := amtB a && amtB b && decide (1 ≤ c) && decide (c ≤ 1125899906842624)
def mulOk (a b c : Int) : Bool := mulArgs a b c && divB a b c
def mulQ (a b c : Int) : Int := if mulArgs a b c = true then divQ a b c else 0
