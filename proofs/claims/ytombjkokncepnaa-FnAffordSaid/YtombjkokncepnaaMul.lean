/- A product divided: the reference's division bit by bit. -/
import Derived.Test.YtombjkokncepnaaRows
import Derived.Test.YtombjkokncepnaaAmt
namespace Go.Proofs.Ytombjkokncepnaa
open Go.RowKit

def divB (a b c : Int) : Bool := decide (a * b / c ≤ 1125899906842624)
def divQ (a b c : Int) : Int := if divB a b c = true then a * b / c else 0
def divR (a b c : Int) : Int := if divB a b c = true then a * b % c else 0
/-- Where the bits down to i are taken. -/
def DivAt (a b c q r : Int) (i : Nat) : Prop := q * c + r = a / 2 ^ i * b ∧ 0 ≤ r ∧ r < c ∧ 0 ≤ q
theorem DivAt.end_ {a b c q r : Int} (h : DivAt a b c q r 0) : q = a * b / c ∧ r = a * b % c := by
  obtain ⟨h1, h2, h3, _⟩ := h
  rw [Int.pow_zero, Int.ediv_one] at h1
  have hc : c ≠ 0 := by omega
  rw [← h1]
  constructor
  · rw [Int.add_comm, Int.add_mul_ediv_right _ _ hc, Int.ediv_eq_zero_of_lt h2 h3, Int.zero_add]
  · rw [Int.add_comm, Int.add_mul_emod_self_right, Int.emod_eq_of_lt h2 h3]
theorem half_step (a : Int) (i : Nat) : a / 2 ^ i = 2 * (a / 2 ^ (i + 1)) + a / 2 ^ i % 2 := by
  have : a / 2 ^ (i + 1) = a / 2 ^ i / 2 := by rw [Int.pow_succ, Int.ediv_ediv_of_nonneg (Int.pow_nonneg (by decide))]
  rw [this]
  omega
theorem bit_one (x : Int) (h0 : 0 ≤ x) (h1 : x < 4611686018427387904) : bits .and .i64 x 1 = x % 2 := by
  have h := bits_mask .i64 62 (by decide) (fun n h0 h1 => IntWalk.i64_in n ⟨by omega, by omega⟩) 1 (by decide) x h0 (by omega)
  simpa using h
theorem divB_no {a b c q r : Int} {i : Nat} (hc : 1 ≤ c) (ha : 0 ≤ a) (hb : 0 ≤ b) (h : q * c + r = a / 2 ^ i * b) (hr : 0 ≤ r) (hq : 1125899906842624 < q) : divB a b c = false := by
  have h1 : a / 2 ^ i ≤ a := Int.ediv_le_self _ ha
  have h2 : a / 2 ^ i * b ≤ a * b := Int.mul_le_mul_of_nonneg_right h1 hb
  have h3 : q ≤ a * b / c := (Int.le_ediv_iff_mul_le (by omega)).2 (by omega)
  simp only [divB, decide_eq_false_iff_not]
  omega
theorem div_step {a b c q r : Int} {j : Nat} (h : q * c + r = a / 2 ^ (j + 1) * b) : (2 * q + a / 2 ^ j % 2 * (b / c)) * c + (2 * r + a / 2 ^ j % 2 * (b % c)) = a / 2 ^ j * b := by
  have e := half_step a j
  have e2 : b / c * c + b % c = b := by rw [Int.mul_comm]; exact Int.mul_ediv_add_emod b c
  generalize a / 2 ^ j % 2 = t at *
  generalize a / 2 ^ (j + 1) = x at *
  rw [e]
  calc (2 * q + t * (b / c)) * c + (2 * r + t * (b % c)) = 2 * (q * c + r) + t * (b / c * c + b % c) := by simp only [Int.add_mul, Int.mul_add, Int.mul_assoc]; omega
    _ = (2 * x + t) * b := by rw [h, e2, Int.add_mul, Int.mul_assoc]
def mulArgs (a b c : Int) : Bool := amtB a && amtB b && decide (1 ≤ c) && decide (c ≤ 1125899906842624)
def mulOk (a b c : Int) : Bool := mulArgs a b c && divB a b c
def mulQ (a b c : Int) : Int := if mulArgs a b c = true then divQ a b c else 0
theorem s_l01Div (a b c : Int) (w : World) (ha : 0 ≤ a ∧ a ≤ 1125899906842624) (hb : 0 ≤ b ∧ b ≤ 1125899906842624) (hc : 1 ≤ c ∧ c ≤ 1125899906842624) :
    Calls Try.prog 82 #[.int .i64 a, .int .i64 b, .int .i64 c] w fun e w' => e = .returned (.tuple #[.int .i64 (divQ a b c), .int .i64 (divR a b c), .bool (divB a b c)]) ∧ w = w' := by
  obtain ⟨a1, a2⟩ := ha
  obtain ⟨b1, b2⟩ := hb
  obtain ⟨c1, c2⟩ := hc
  go_enter Try.func82, Try.ntmps82
  go_wp2_with fail
  go_loopw [9, 10, 11] (fun q r i wr => ∃ (k : Nat) (q' r' : Int), k ≤ 51 ∧ i = .int .i64 ((k : Int) - 1) ∧ q = .int .i64 q' ∧ r = .int .i64 r' ∧ DivAt a b c q' r' k ∧ q' ≤ 1125899906842624 ∧ w = wr) (fun _ _ i _ => ((intOf i) + 1).toNat)
  case atStart =>
    refine ⟨51, 0, 0, by omega, rfl, rfl, rfl, ⟨?_, by omega, by omega, by omega⟩, by omega, rfl⟩
    rw [Int.ediv_eq_zero_of_lt a1 (by have : (2 : Int) ^ 51 = 2251799813685248 := by decide
                                      omega)]
    simp
  case round =>
    obtain ⟨k, q', r', hk, rfl, rfl, rfl, hd, hq, rfl⟩ := hrel
    by_cases hk0 : 0 < k
    · obtain ⟨j, rfl⟩ : ∃ j, k = j + 1 := ⟨k - 1, by omega⟩
      obtain ⟨d1, d2, d3, d4⟩ := hd
      have hstep := div_step d1
      have y0 : 0 ≤ a / 2 ^ j := Int.ediv_nonneg a1 (Int.pow_nonneg (by decide))
      have y1 : a / 2 ^ j ≤ a := Int.ediv_le_self _ a1
      have hb1 := bit_one _ y0 (by omega)
      have g0 : 0 ≤ b / c := Int.ediv_nonneg b1 (by omega)
      have g1 : b / c ≤ b := Int.ediv_le_self _ b1
      have g2 : 0 ≤ b % c := Int.emod_nonneg _ (by omega)
      have g3 : b % c < c := Int.emod_lt_of_pos _ (by omega)
      rcases (by omega : a / 2 ^ j % 2 = 0 ∨ a / 2 ^ j % 2 = 1) with t | t
      · have hbit : (bits BinOp.and IntKind.i64 (a / 2 ^ j) 1 == 1) = false := by rw [hb1, t]; rfl
        rw [t, Int.zero_mul, Int.zero_mul, Int.add_zero, Int.add_zero] at hstep
        have HS := Lib.hid hstep
        clear hstep hb1 t d1
        go_wp2_with fail
        go_loopw [9, 10] (fun q r wr => ∃ q2 r2 : Int, q = .int .i64 q2 ∧ r = .int .i64 r2 ∧ q2 * c + r2 = a / 2 ^ j * b ∧ 0 ≤ r2 ∧ 0 ≤ q2 ∧ q2 + r2 ≤ 6755399441055744 ∧ w = wr) (fun _ r _ => (intOf r).toNat)
        case atStart => exact ⟨_, _, rfl, rfl, HS.out, by omega, by omega, by omega, rfl⟩
        case round =>
          obtain ⟨q2, r2, rfl, rfl, p1, p2, p3, p4, rfl⟩ := hrel
          have HP := Lib.hid p1
          clear p1
          by_cases hge : c ≤ r2
          · go_wp2_with fail
            go_roundw
            case rel => exact ⟨q2 + 1, r2 - c, by go_num, by go_num, by rw [Int.add_mul, Int.one_mul]; have := HP.out; omega, by omega, by omega, by omega, trivial⟩
            case measure => simp [intOf]; omega
          · have hge2 : decide (c ≤ r2) = false := decide_eq_false hge
            by_cases hbig : 1125899906842624 < q2
            · have hno := divB_no c1 a1 b1 HP.out p2 hbig
              go_wp2_with fail
              refine bodyPost_ret (v := .tuple #[.int .i64 0, .int .i64 0, .bool false]) (by simp [results, Try.results82, go_sem]) rfl ⟨by simp [divQ, divR, hno], rfl⟩
            · have hbig2 : decide (1125899906842624 < q2) = false := decide_eq_false hbig
              go_wp2_with fail
              go_roundw
              case rel => exact ⟨j, q2, r2, by omega, by go_num, rfl, rfl, ⟨HP.out, p2, by omega, p3⟩, by omega, trivial⟩
              case measure => simp [intOf]
      · have hbit : (bits BinOp.and IntKind.i64 (a / 2 ^ j) 1 == 1) = true := by rw [hb1, t]; rfl
        rw [t, Int.one_mul, Int.one_mul] at hstep
        have HS := Lib.hid hstep
        clear hstep hb1 t d1
        go_wp2_with fail
        go_loopw [9, 10] (fun q r wr => ∃ q2 r2 : Int, q = .int .i64 q2 ∧ r = .int .i64 r2 ∧ q2 * c + r2 = a / 2 ^ j * b ∧ 0 ≤ r2 ∧ 0 ≤ q2 ∧ q2 + r2 ≤ 6755399441055744 ∧ w = wr) (fun _ r _ => (intOf r).toNat)
        case atStart => exact ⟨_, _, rfl, rfl, HS.out, by omega, by omega, by omega, rfl⟩
        case round =>
          obtain ⟨q2, r2, rfl, rfl, p1, p2, p3, p4, rfl⟩ := hrel
          have HP := Lib.hid p1
          clear p1
          by_cases hge : c ≤ r2
          · go_wp2_with fail
            go_roundw
            case rel => exact ⟨q2 + 1, r2 - c, by go_num, by go_num, by rw [Int.add_mul, Int.one_mul]; have := HP.out; omega, by omega, by omega, by omega, trivial⟩
            case measure => simp [intOf]; omega
          · have hge2 : decide (c ≤ r2) = false := decide_eq_false hge
            by_cases hbig : 1125899906842624 < q2
            · have hno := divB_no c1 a1 b1 HP.out p2 hbig
              go_wp2_with fail
              refine bodyPost_ret (v := .tuple #[.int .i64 0, .int .i64 0, .bool false]) (by simp [results, Try.results82, go_sem]) rfl ⟨by simp [divQ, divR, hno], rfl⟩
            · have hbig2 : decide (1125899906842624 < q2) = false := decide_eq_false hbig
              go_wp2_with fail
              go_roundw
              case rel => exact ⟨j, q2, r2, by omega, by go_num, rfl, rfl, ⟨HP.out, p2, by omega, p3⟩, by omega, trivial⟩
              case measure => simp [intOf]
    · obtain rfl : k = 0 := by omega
      obtain ⟨e1, e2⟩ := hd.end_
      have hy : divB a b c = true := by simp only [divB, decide_eq_true_eq]; omega
      clear hd
      go_wp2_with fail
      refine bodyPost_ret (v := .tuple #[.int .i64 q', .int .i64 r', .bool true]) (by simp [results, Try.results82, go_sem]) rfl ⟨by simp [divQ, divR, hy, e1, e2], rfl⟩
theorem s_MulDiv (a b c : Int) (w : World) :
    Calls Try.prog 42 #[.int .i64 a, .int .i64 b, .int .i64 c] w fun e w' => e = .returned (.tuple #[.int .i64 (mulQ a b c), .bool (mulOk a b c)]) ∧ w = w' := by
  cases hA : amtB a
  · go_enter Try.func42, Try.ntmps42
    go_wp2_with (go_at_call 60; refine (s_AmtOk _ _).mono ?_; rintro e w' ⟨rfl, rfl⟩)
    refine bodyPost_ret (v := .tuple #[.int .i64 0, .bool false]) (by simp [results, Try.results42, go_sem]) rfl ⟨by simp [mulQ, mulOk, mulArgs, hA], rfl⟩
  cases hB : amtB b
  · go_enter Try.func42, Try.ntmps42
    go_wp2_with (go_at_call 60; refine (s_AmtOk _ _).mono ?_; rintro e w' ⟨rfl, rfl⟩)
    refine bodyPost_ret (v := .tuple #[.int .i64 0, .bool false]) (by simp [results, Try.results42, go_sem]) rfl ⟨by simp [mulQ, mulOk, mulArgs, hB], rfl⟩
  by_cases h1 : c < 1
  · have hm : mulArgs a b c = false := by rw [mulArgs, decide_eq_false (by omega : ¬ 1 ≤ c), Bool.and_false, Bool.false_and]
    go_enter Try.func42, Try.ntmps42
    go_wp2_with (go_at_call 60; refine (s_AmtOk _ _).mono ?_; rintro e w' ⟨rfl, rfl⟩)
    refine bodyPost_ret (v := .tuple #[.int .i64 0, .bool false]) (by simp [results, Try.results42, go_sem]) rfl ⟨by simp [mulQ, mulOk, hm], rfl⟩
  by_cases h2 : 1125899906842624 < c
  · have hm : mulArgs a b c = false := by rw [mulArgs, decide_eq_false (by omega : ¬ c ≤ 1125899906842624), Bool.and_false]
    have h1' : decide (c < 1) = false := decide_eq_false h1
    go_enter Try.func42, Try.ntmps42
    go_wp2_with (go_at_call 60; refine (s_AmtOk _ _).mono ?_; rintro e w' ⟨rfl, rfl⟩)
    refine bodyPost_ret (v := .tuple #[.int .i64 0, .bool false]) (by simp [results, Try.results42, go_sem]) rfl ⟨by simp [mulQ, mulOk, hm], rfl⟩
  have h1' : decide (c < 1) = false := decide_eq_false h1
  have h2' : decide (1125899906842624 < c) = false := decide_eq_false h2
  have hm : mulArgs a b c = true := by simp [mulArgs, hA, hB]; omega
  obtain ⟨a1, a2⟩ := amtB_iff.1 hA
  obtain ⟨b1, b2⟩ := amtB_iff.1 hB
  go_enter Try.func42, Try.ntmps42
  go_wp2_with (go_at_call 60; refine (s_AmtOk _ _).mono ?_; rintro e w' ⟨rfl, rfl⟩)
  refine (s_l01Div a b c _ ⟨a1, a2⟩ ⟨b1, b2⟩ ⟨by omega, by omega⟩).mono ?_
  rintro e w' ⟨rfl, rfl⟩
  go_wp2_with fail
  refine bodyPost_ret (v := .tuple #[.int .i64 (divQ a b c), .bool (divB a b c)]) (by simp [results, Try.results42, go_sem]) rfl ⟨by simp [mulQ, mulOk, hm], rfl⟩
end Go.Proofs.Ytombjkokncepnaa
