/- One digit of a long division, and its frame: plain. -/
import Derived.Test.YtcjbjpobpefehaaRows
import Derived.Test.YtcjbjpobpefehaaVM1
import Derived.Lib.ItoaNum
namespace Go.Proofs.Ytcjbjpobpefehaa
open Go.RowKit

theorem digit_test {B v n1 n0 U d q r : Nat} (hv : v = n1 * B + n0) (hU : q * n1 + r = U) : (B * r + d < q * n0) ↔ (U * B + d < q * v) := by
  have e : q * v = q * n1 * B + q * n0 := by rw [hv, Nat.mul_add, Nat.mul_assoc]
  have e2 : U * B = q * n1 * B + r * B := by rw [← hU, Nat.add_mul]
  have e3 : r * B = B * r := Nat.mul_comm _ _
  omega
theorem digit_first {B v n1 n0 U : Nat} (hv : v = n1 * B + n0) (hn0 : n0 < B) (h1 : B ≤ 2 * n1) (hUv : U < v) : U / n1 ≤ B + 1 := by
  have hpos : 0 < n1 := by omega
  refine Nat.le_of_lt_succ ((Nat.div_lt_iff_lt_mul hpos).2 ?_)
  have e : (B + 1 + 1) * n1 = n1 * B + 2 * n1 := by rw [Nat.add_assoc, Nat.add_mul, Nat.mul_comm B n1]
  show U < (B + 1 + 1) * n1
  omega
theorem digit_ge {v q Q T : Nat} (h : T < q * v) (hv : 0 < v) (hQ : Q = T / v) : Q ≤ q - 1 := by
  have : Q < q := by rw [hQ]; exact (Nat.div_lt_iff_lt_mul hv).2 h
  omega
theorem digit_le {v q Q T : Nat} (h : ¬ T < q * v) (hv : 0 < v) (hQ : Q = T / v) : q ≤ Q := by
  rw [hQ]
  exact (Nat.le_div_iff_mul_le hv).2 (Nat.le_of_not_lt h)
theorem digit_lt {B v U d Q : Nat} (hd : d < B) (hU : U < v) (hQ : Q = (U * B + d) / v) : Q < B := by
  rw [hQ]
  refine (Nat.div_lt_iff_lt_mul (by omega)).2 ?_
  have : U * B + B ≤ v * B := by rw [← Nat.succ_mul]; exact Nat.mul_le_mul_right _ hU
  rw [Nat.mul_comm B v]
  omega
def DigAt (v n1 U d q r : Nat) : Prop := q * n1 + r = U ∧ (U * 4294967296 + d) / v ≤ q ∧ q ≤ 4294967297
theorem digit_start {v n1 n0 U d : Nat} (hv : v = n1 * 4294967296 + n0) (hn0 : n0 < 4294967296) (hd : d < 4294967296) (h1 : 4294967296 ≤ 2 * n1) (hUv : U < v) : DigAt v n1 U d (U / n1) (U % n1) := by
  refine ⟨Nat.div_add_mod' U n1, ?_, digit_first hv hn0 h1 hUv⟩
  have hpos : 0 < n1 := by omega
  refine (Nat.le_div_iff_mul_le hpos).2 ?_
  have h2 : (U * 4294967296 + d) / v * v ≤ U * 4294967296 + d := Nat.div_mul_le_self _ _
  generalize (U * 4294967296 + d) / v = Q at *
  have e : Q * v = Q * n1 * 4294967296 + Q * n0 := by rw [hv, Nat.mul_add, Nat.mul_assoc]
  omega
theorem digit_yes {v n1 n0 U d q r : Nat} (hv : v = n1 * 4294967296 + n0) (hd : d < 4294967296) (hv0 : 0 < v) (hUv : U < v) (h : DigAt v n1 U d q r)
    (ht : 4294967296 ≤ q ∨ 4294967296 * r + d < q * n0) : 1 ≤ q ∧ DigAt v n1 U d (q - 1) (r + n1) := by
  obtain ⟨h1, h2, h3⟩ := h
  have hlt : (U * 4294967296 + d) / v ≤ q - 1 ∧ 1 ≤ q := by
    rcases ht with ht | ht
    · have := digit_lt hd hUv rfl
      omega
    · have hq : 1 ≤ q := by
        cases q with
        | zero => simp at ht
        | succ q => omega
      exact ⟨digit_ge ((digit_test hv h1).1 ht) hv0 rfl, hq⟩
  refine ⟨hlt.2, ?_, hlt.1, by omega⟩
  obtain ⟨p, rfl⟩ : ∃ p, q = p + 1 := ⟨q - 1, by omega⟩
  rw [Nat.add_sub_cancel, ← h1, Nat.succ_mul]
  omega
theorem digit_no {v n1 n0 U d q r : Nat} (hv : v = n1 * 4294967296 + n0) (hv0 : 0 < v) (h : DigAt v n1 U d q r) (ht : ¬ 4294967296 * r + d < q * n0) : q = (U * 4294967296 + d) / v := by
  obtain ⟨h1, h2, h3⟩ := h
  have := digit_le (fun hh => ht ((digit_test hv h1).2 hh)) hv0 rfl
  omega
theorem digit_great {v n1 n0 U d q r : Nat} (hv : v = n1 * 4294967296 + n0) (hn0 : n0 < 4294967296) (hv0 : 0 < v) (h : DigAt v n1 U d q r) (hq : q ≤ 4294967296) (hr : 4294967296 ≤ r) : q = (U * 4294967296 + d) / v := by
  refine digit_no hv hv0 h ?_
  have h1 : q * n0 ≤ 4294967296 * n0 := Nat.mul_le_mul_right _ hq
  omega

/-! ### The frame: shifts -/
theorem bitLen_bounds (y s : Nat) (hy : y < 18446744073709551616) (h1 : 1 ≤ y) (hs : Lib.bitLen y + s = 64) : s ≤ 63 ∧ 9223372036854775808 ≤ y * 2 ^ s ∧ y * 2 ^ s < 18446744073709551616 := by
  obtain ⟨b1, b2, b3⟩ := Lib.bitLenAux_bounds 64 y hy (by omega)
  have hb : Lib.bitLenAux 64 y = Lib.bitLen y := rfl
  rw [hb] at b1 b2 b3
  have e1 : 2 ^ (Lib.bitLen y - 1) * 2 ^ s = 9223372036854775808 := by rw [← Nat.pow_add, show Lib.bitLen y - 1 + s = 63 by omega]
  have e2 : 2 ^ Lib.bitLen y * 2 ^ s = 18446744073709551616 := by rw [← Nat.pow_add, hs]
  have p : 0 < 2 ^ s := Nat.pow_pos (by decide)
  refine ⟨by omega, ?_, ?_⟩
  · rw [← e1]; exact Nat.mul_le_mul_right _ b2
  · rw [← e2]; exact Nat.mul_lt_mul_of_pos_right b3 p
theorem cast_shl (a s : Nat) : (a : Int) * 2 ^ s = ((a * 2 ^ s : Nat) : Int) := by simp
theorem cast_shr (a s : Nat) : (a : Int) / 2 ^ s = ((a / 2 ^ s : Nat) : Int) := by simp
theorem or_add {a b s : Nat} (ha : a * 2 ^ s < 18446744073709551616) (hb : b < 2 ^ s) (hs : s ≤ 63) : bits .or .u64 ((a * 2 ^ s : Nat) : Int) (b : Int) = ((a * 2 ^ s + b : Nat) : Int) := by
  have h64 : 2 ^ s ≤ 2 ^ 63 := Nat.pow_le_pow_right (by decide) hs
  have h := bits_or_u64_nat (a * 2 ^ s) b ha (by omega)
  rw [h, Nat.mul_comm a, Nat.two_pow_add_eq_or_of_lt hb]
theorem shifted (hi lo s : Nat) (hs : s ≤ 63) : (hi * 18446744073709551616 + lo) * 2 ^ s = (hi * 2 ^ s + lo / 2 ^ (64 - s)) * 18446744073709551616 + lo * 2 ^ s % 18446744073709551616 := by
  have e : lo * 2 ^ s / 18446744073709551616 = lo / 2 ^ (64 - s) := by
    have : 18446744073709551616 = 2 ^ (64 - s) * 2 ^ s := by rw [← Nat.pow_add, show 64 - s + s = 64 by omega]
    rw [this, Nat.mul_div_mul_right _ _ (Nat.pow_pos (by decide))]
  have := Nat.div_add_mod (lo * 2 ^ s) 18446744073709551616
  rw [e] at this
  rw [Nat.add_mul, Nat.add_mul, Nat.mul_right_comm]
  omega
theorem shifted_lt (hi lo y s : Nat) (hl : lo < 18446744073709551616) (h : hi < y) (hs : s ≤ 63) : hi * 2 ^ s + lo / 2 ^ (64 - s) < y * 2 ^ s ∧ lo / 2 ^ (64 - s) < 2 ^ s := by
  have h2 : lo / 2 ^ (64 - s) < 2 ^ s := by
    rw [Nat.div_lt_iff_lt_mul (Nat.pow_pos (by decide)), ← Nat.pow_add, show s + (64 - s) = 64 by omega]
    exact hl
  have : (hi + 1) * 2 ^ s ≤ y * 2 ^ s := Nat.mul_le_mul_right _ h
  rw [Nat.add_mul, Nat.one_mul] at this
  exact ⟨by omega, h2⟩
theorem two_digits {U d1 d0 v : Nat} (hv : 0 < v) : (U * 18446744073709551616 + (d1 * 4294967296 + d0)) / v = (U * 4294967296 + d1) / v * 4294967296 + ((U * 4294967296 + d1) % v * 4294967296 + d0) / v ∧ (U * 18446744073709551616 + (d1 * 4294967296 + d0)) % v = ((U * 4294967296 + d1) % v * 4294967296 + d0) % v := by
  have e : U * 18446744073709551616 + (d1 * 4294967296 + d0) = v * ((U * 4294967296 + d1) / v * 4294967296) + ((U * 4294967296 + d1) % v * 4294967296 + d0) := by
    have h := Nat.div_add_mod (U * 4294967296 + d1) v
    generalize (U * 4294967296 + d1) / v = a at *
    generalize (U * 4294967296 + d1) % v = b at *
    rw [← Nat.mul_assoc]
    generalize v * a = c at *
    omega
  rw [e]
  exact ⟨Nat.mul_add_div hv _ _, Nat.mul_add_mod _ _ _⟩
theorem rest_wrap {U d v Q : Nat} (hv : v < 18446744073709551616) (hv0 : 0 < v) (hQ : Q = (U * 4294967296 + d) / v) :
    IntKind.u64.wrap (IntKind.u64.wrap (IntKind.u64.wrap ((U : Int) * 4294967296) + (d : Int)) - IntKind.u64.wrap ((Q : Int) * (v : Int))) = (((U * 4294967296 + d) % v : Nat) : Int) := by
  have h := Nat.div_add_mod (U * 4294967296 + d) v
  have hlt := Nat.mod_lt (U * 4294967296 + d) hv0
  rw [← hQ, Nat.mul_comm v Q] at h
  generalize (U * 4294967296 + d) % v = R at *
  simp only [Mul64.mulN, IntKind.wrap_u64]
  generalize Q * v = m at *
  omega
theorem div_all {hi lo y s v U d1 d0 Q1 R1 Q0 R0 : Nat} (hs : s ≤ 63) (hy : 1 ≤ y) (hv : v = y * 2 ^ s) (hU : U = hi * 2 ^ s + lo / 2 ^ (64 - s)) (h1 : d1 = lo * 2 ^ s % 18446744073709551616 / 4294967296) (h0 : d0 = lo * 2 ^ s % 18446744073709551616 % 4294967296)
    (hQ1 : Q1 = (U * 4294967296 + d1) / v) (hR1 : R1 = (U * 4294967296 + d1) % v) (hQ0 : Q0 = (R1 * 4294967296 + d0) / v) (hR0 : R0 = (R1 * 4294967296 + d0) % v) :
    (hi * 18446744073709551616 + lo) / y = Q1 * 4294967296 + Q0 ∧ (hi * 18446744073709551616 + lo) % y = R0 / 2 ^ s := by
  have p : 0 < 2 ^ s := Nat.pow_pos (by decide)
  have hv0 : 0 < v := by rw [hv]; exact Nat.mul_pos hy p
  have e := shifted hi lo s hs
  have ed : d1 * 4294967296 + d0 = lo * 2 ^ s % 18446744073709551616 := by omega
  rw [← hU, ← ed] at e
  obtain ⟨t1, t2⟩ := two_digits (U := U) (d1 := d1) (d0 := d0) hv0
  rw [← hR1, ← hQ1, ← hQ0, ← e, hv, Nat.mul_div_mul_right _ _ p] at t1
  rw [← hR1, ← hR0, ← e, hv, Nat.mul_mod_mul_right] at t2
  refine ⟨t1, ?_⟩
  rw [← t2, Nat.mul_div_cancel _ p]

structure DivFrame (hi lo y s v n1 n0 U u d1 d0 q r m Q1 R1 q2 r2 m2 Q0 R0 : Nat) : Prop where
  hs1 : s ≤ 63
  hv1 : 9223372036854775808 ≤ v
  hv2 : v < 18446744073709551616
  E1 : IntKind.u64.wrap ((y : Int) * 2 ^ s) = (v : Int)
  E2 : IntKind.u64.wrap ((hi : Int) * 2 ^ s) = ((hi * 2 ^ s : Nat) : Int)
  E3 : (lo : Int) / 2 ^ (64 - s) = ((lo / 2 ^ (64 - s) : Nat) : Int)
  E4 : bits .or .u64 ((hi * 2 ^ s : Nat) : Int) ((lo / 2 ^ (64 - s) : Nat) : Int) = (U : Int)
  E5 : IntKind.u64.wrap ((lo : Int) * 2 ^ s) = (u : Int)
  E6 : bits .and .u64 (v : Int) 4294967295 = (n0 : Int)
  E7 : bits .and .u64 (u : Int) 4294967295 = (d0 : Int)
  E8 : (v : Int) / 4294967296 = (n1 : Int)
  E9 : (u : Int) / 4294967296 = (d1 : Int)
  hv : v = n1 * 4294967296 + n0
  n0l : n0 < 4294967296
  n1l : 4294967296 ≤ 2 * n1
  n1u : n1 < 4294967296
  d1l : d1 < 4294967296
  d0l : d0 < 4294967296
  hv0 : 0 < v
  hU1 : U < v
  ul : u < 18446744073709551616
  DS : DigAt v n1 U d1 q r
  E10 : (U : Int) / (n1 : Int) = (q : Int)
  E11 : IntKind.u64.wrap ((q : Int) * (n1 : Int)) = (m : Int)
  mU : m ≤ U
  rU : U - m = r
  rl : r < 4294967296
  ql : q ≤ 4294967297
  E12 : IntKind.u64.wrap (IntKind.u64.wrap (IntKind.u64.wrap ((U : Int) * 4294967296) + (d1 : Int)) - IntKind.u64.wrap ((Q1 : Int) * (v : Int))) = (R1 : Int)
  hQ1 : (U * 4294967296 + d1) / v = Q1
  Q1l : Q1 < 4294967296
  U2 : R1 < v
  DT : DigAt v n1 R1 d0 q2 r2
  E13 : (R1 : Int) / (n1 : Int) = (q2 : Int)
  E14 : IntKind.u64.wrap ((q2 : Int) * (n1 : Int)) = (m2 : Int)
  mR : m2 ≤ R1
  rR : R1 - m2 = r2
  rl2 : r2 < 4294967296
  ql2 : q2 ≤ 4294967297
  E15 : IntKind.u64.wrap (IntKind.u64.wrap (IntKind.u64.wrap ((R1 : Int) * 4294967296) + (d0 : Int)) - IntKind.u64.wrap ((Q0 : Int) * (v : Int))) = (R0 : Int)
  hQ0 : (R1 * 4294967296 + d0) / v = Q0
  Q0l : Q0 < 4294967296
  E16 : (R0 : Int) / 2 ^ s = (((hi * 18446744073709551616 + lo) % y : Nat) : Int)
  E17 : (hi * 18446744073709551616 + lo) / y = Q1 * 4294967296 + Q0
theorem div_frame (hi lo y s : Nat) (hl : lo < 18446744073709551616) (hy : y < 18446744073709551616) (h1 : hi < y) (hs : Lib.bitLen y + s = 64) :
    ∃ v n1 n0 U u d1 d0 q r m Q1 R1 q2 r2 m2 Q0 R0 : Nat, DivFrame hi lo y s v n1 n0 U u d1 d0 q r m Q1 R1 q2 r2 m2 Q0 R0 := by
  obtain ⟨hs1, hv1, hv2⟩ := bitLen_bounds y s hy (by omega) hs
  obtain ⟨hU1, hU2⟩ := shifted_lt hi lo y s hl h1 hs1
  have hhi : hi * 2 ^ s < 18446744073709551616 := Nat.lt_of_le_of_lt (Nat.le_add_right _ _) (Nat.lt_trans hU1 hv2)
  have ALL := @div_all hi lo y s (y * 2 ^ s) (hi * 2 ^ s + lo / 2 ^ (64 - s)) _ _ _ _ _ _ hs1 (by omega) rfl rfl rfl rfl rfl rfl rfl rfl
  have E1 : IntKind.u64.wrap ((y : Int) * 2 ^ s) = ((y * 2 ^ s : Nat) : Int) := by rw [cast_shl, Mul64.wrapN _ hv2]
  have E2 : IntKind.u64.wrap ((hi : Int) * 2 ^ s) = ((hi * 2 ^ s : Nat) : Int) := by rw [cast_shl, Mul64.wrapN _ hhi]
  have E3 := cast_shr lo (64 - s)
  have E4 := or_add (a := hi) (b := lo / 2 ^ (64 - s)) (s := s) hhi hU2 hs1
  have E5 : IntKind.u64.wrap ((lo : Int) * 2 ^ s) = ((lo * 2 ^ s % 18446744073709551616 : Nat) : Int) := by rw [cast_shl, Mul64.wrapM]
  have hu : lo * 2 ^ s % 18446744073709551616 < 18446744073709551616 := Nat.mod_lt _ (by decide)
  obtain ⟨U, hU⟩ : ∃ U, U = hi * 2 ^ s + lo / 2 ^ (64 - s) := ⟨_, rfl⟩
  obtain ⟨u, hu'⟩ : ∃ u, u = lo * 2 ^ s % 18446744073709551616 := ⟨_, rfl⟩
  obtain ⟨v, hv'⟩ : ∃ v, v = y * 2 ^ s := ⟨_, rfl⟩
  rw [← hU, ← hu', ← hv'] at ALL
  rw [← hU] at E4
  rw [← hU, ← hv'] at hU1
  rw [← hv'] at E1 hv1 hv2
  rw [← hu'] at E5 hu
  have n1l : 4294967296 ≤ 2 * (v / 4294967296) := by omega
  have hv0 : 0 < v := by omega
  have hn1 : 0 < v / 4294967296 := by omega
  have hv : v = v / 4294967296 * 4294967296 + v % 4294967296 := by omega
  have n0l : v % 4294967296 < 4294967296 := by omega
  have d1l : u / 4294967296 < 4294967296 := by omega
  have d0l : u % 4294967296 < 4294967296 := by omega
  have DS := digit_start (d := u / 4294967296) hv n0l d1l n1l hU1
  have R1l : (U * 4294967296 + u / 4294967296) % v < v := Nat.mod_lt _ hv0
  have DT := digit_start (d := u % 4294967296) hv n0l d0l n1l R1l
  have a1 : U / (v / 4294967296) * (v / 4294967296) ≤ U := Nat.div_mul_le_self _ _
  have a2 : U % (v / 4294967296) < v / 4294967296 := Nat.mod_lt _ hn1
  have a3 := Nat.div_add_mod' U (v / 4294967296)
  obtain ⟨R1, hR1⟩ : ∃ R1, R1 = (U * 4294967296 + u / 4294967296) % v := ⟨_, rfl⟩
  rw [← hR1] at DT R1l ALL
  have b1 : R1 / (v / 4294967296) * (v / 4294967296) ≤ R1 := Nat.div_mul_le_self _ _
  have b2 : R1 % (v / 4294967296) < v / 4294967296 := Nat.mod_lt _ hn1
  have b3 := Nat.div_add_mod' R1 (v / 4294967296)
  refine ⟨v, v / 4294967296, v % 4294967296, U, u, u / 4294967296, u % 4294967296, U / (v / 4294967296), U % (v / 4294967296), U / (v / 4294967296) * (v / 4294967296), (U * 4294967296 + u / 4294967296) / v, R1, R1 / (v / 4294967296), R1 % (v / 4294967296), R1 / (v / 4294967296) * (v / 4294967296), (R1 * 4294967296 + u % 4294967296) / v, (R1 * 4294967296 + u % 4294967296) % v, ?_⟩
  exact { hs1 := hs1, hv1 := hv1, hv2 := hv2, E1 := E1, E2 := E2, E3 := E3, E4 := E4, E5 := E5, E6 := Mul64.maskN v hv2, E7 := Mul64.maskN u hu, E8 := Mul64.divN v, E9 := Mul64.divN u, hv := hv, n0l := n0l, n1l := n1l, n1u := (by omega), d1l := d1l, d0l := d0l, hv0 := hv0, hU1 := hU1, ul := hu, DS := DS,
          E10 := (Int.natCast_ediv U _).symm, E11 := (by rw [Mul64.mulN, Mul64.wrapN _ (by omega)]), mU := a1, rU := (by omega), rl := (by omega), ql := DS.2.2, E12 := (by rw [hR1]; exact rest_wrap hv2 hv0 rfl), hQ1 := rfl, Q1l := digit_lt d1l hU1 rfl, U2 := R1l, DT := DT,
          E13 := (Int.natCast_ediv R1 _).symm, E14 := (by rw [Mul64.mulN, Mul64.wrapN _ (by omega)]), mR := b1, rR := (by omega), rl2 := (by omega), ql2 := DT.2.2, E15 := rest_wrap hv2 hv0 rfl, hQ0 := rfl, Q0l := digit_lt d0l R1l rfl, E16 := (by rw [cast_shr, ALL.2]), E17 := ALL.1 }
end Go.Proofs.Ytcjbjpobpefehaa
