/- BookO0 · Div · MulI · Rate · Share · ShareL: each text proves what its theorems say, with no conditions but theirs. -/
import Derived.Test.YtcjbjpobpefehaaRows
import Derived.Test.YtcjbjpobpefehaaVBookPs
import Derived.BigQuiet
import Derived.Deep.QuietTactic
import Derived.Deep.Cut
import Derived.Deep.CutBlock
import Derived.Test.YtcjbjpobpefehaaVM1
import Derived.Test.YtcjbjpobpefehaaVDivp
namespace Go.Proofs.Ytcjbjpobpefehaa
open Go.RowKit

theorem bookB_s (bt bn bw : Int) (cs : List Chan) (hs : List Htlc) (os : List Circle) :
    bookB bt bn bw cs hs os = (amtB bt && amtB bw && !decide (bn < 1) && !decide (1125899906842624 < bn) && !decide ((20 : Int) < (cs.length : Int)) && !decide ((60 : Int) < (hs.length : Int)) && !decide ((20 : Int) < (os.length : Int)) && partsB cs hs os && everyTo cs.length (chanOk cs hs os)) := by
  rw [Bool.eq_iff_iff]
  simp only [bookB, Bool.and_eq_true, zwb, decide_eq_true_eq, Bool.not_eq_true', decide_eq_false_iff_not]
  constructor
  · rintro ⟨⟨⟨⟨⟨⟨⟨h1, h2⟩, h3⟩, h4⟩, h5⟩, h6⟩, h7⟩, h8⟩; exact ⟨⟨⟨⟨⟨⟨⟨⟨h1, h2⟩, by omega⟩, by omega⟩, by omega⟩, by omega⟩, by omega⟩, h7⟩, h8⟩
  · rintro ⟨⟨⟨⟨⟨⟨⟨⟨h1, h2⟩, h3⟩, h3'⟩, h4⟩, h5⟩, h6⟩, h7⟩, h8⟩; exact ⟨⟨⟨⟨⟨⟨⟨h1, h2⟩, by omega⟩, by omega⟩, by omega⟩, by omega⟩, h7⟩, h8⟩
theorem chB_s (hs : List Htlc) (os : List Circle) (c : Chan) : chB hs os c = (!decide (c.Id < 1) && !decide (99 < c.Id) && amtB c.Local && amtB c.Remote && amtB c.Base && !decide (c.Ppm < 0) && !decide (1000000 < c.Ppm) && inB c.Score (-100) 100 && amtB c.Size && !(c.Local + c.Remote + outOf hs os c.Id + inOf hs os c.Id != c.Size)) := by
  rw [Bool.eq_iff_iff]
  simp only [chB, Bool.and_eq_true, isChanB_iff, zwb, Bool.not_eq_true', decide_eq_false_iff_not, beq_iff_eq, bne_eq_false_iff_eq]
  constructor
  · rintro ⟨⟨⟨⟨⟨⟨⟨h1, h2⟩, h3⟩, h4⟩, h5⟩, h6⟩, h7⟩, h8⟩; exact ⟨⟨⟨⟨⟨⟨⟨⟨⟨by omega, by omega⟩, h2⟩, h3⟩, h4⟩, by omega⟩, by omega⟩, h6⟩, h7⟩, h8.symm⟩
  · rintro ⟨⟨⟨⟨⟨⟨⟨⟨⟨h1, h1'⟩, h2⟩, h3⟩, h4⟩, h5⟩, h5'⟩, h6⟩, h7⟩, h8⟩; exact ⟨⟨⟨⟨⟨⟨⟨by omega, h2⟩, h3⟩, h4⟩, by omega⟩, h6⟩, h7⟩, h8.symm⟩
theorem next_le (a b : Int) : decide (a < b) = !decide (b ≤ a) := by
  rw [Bool.eq_iff_iff]
  simp
theorem zkb {bt bn bw : Int} {cs : List Chan} {hs : List Htlc} {os : List Circle} {k : Nat} (hk : k < cs.length) (h : chanOk cs hs os k = false) : bookB bt bn bw cs hs os = false := by
  unfold bookB
  rw [everyTo_false hk h, Bool.and_false]
end Go.Proofs.Ytcjbjpobpefehaa
namespace Go.Proofs.Ytcjbjpobpefehaa
open Go.RowKit
theorem bits_Div64_0 (lo y : Nat) (w : World) (hl : lo < 18446744073709551616) (hy : y < 18446744073709551616) (h1 : 1 ≤ y) :
  Calls Try.prog 85 #[.int .u64 0, .int .u64 lo, .int .u64 y] w fun e w' => e = .returned (.tuple #[.int .u64 ((lo / y : Nat) : Int), .int .u64 ((lo % y : Nat) : Int)]) ∧ Below w.heap.size w w' := by
 have D := Mul64.wrapN (lo / y) (Nat.lt_of_le_of_lt (Nat.div_le_self _ _) hl)
 rw [Int.natCast_ediv] at D
 have HD := Lib.hid D
 clear D
 go_enter Try.func85, Try.ntmps85
 go_wp2_with fail
 go_quiet (fail)
 go_wp2_with fail
 go_ret2
 refine ⟨by simp [HD.out], ?_⟩
 exact bl_
theorem bits_Lead (y s : Nat) (w : World) (hy : y < 18446744073709551616) (hs : Lib.bitLen y + s = 64) :
  Calls Try.prog 108 #[.int .u64 y] w fun e w' => e = .returned (.int .i64 s) ∧ w = w' := by
 refine (bits_LeadingZeros64 _ _ (by omega) (by omega)).mono ?_
 rintro e w' ⟨rfl, rfl⟩
 rw [Int.toNat_natCast]
 exact ⟨zji (by omega), rfl⟩
set_option maxRecDepth 100000 in
set_option maxHeartbeats 4000000 in
theorem bits_Div64_1 (hi lo y s : Nat) (w : World) (hl : lo < 18446744073709551616) (hy : y < 18446744073709551616) (h0 : 1 ≤ hi) (h1 : hi < y) (hs : Lib.bitLen y + s = 64) :
  Calls Try.prog 85 #[.int .u64 hi, .int .u64 lo, .int .u64 y] w fun e w' => e = .returned (.tuple #[.int .u64 (((hi * 18446744073709551616 + lo) / y : Nat) : Int), .int .u64 (((hi * 18446744073709551616 + lo) % y : Nat) : Int)]) ∧ w = w' := by
 have HS := Lib.hid hs
 clear hs
 obtain ⟨v, n1, n0, U, u, d1, d0, q, r, m, Q1, R1, q2, r2, m2, Q0, R0, F⟩ := div_frame hi lo y s hl hy h1 HS.out
 have hs1 := F.hs1
 have hv1 := F.hv1
 have hv2 := F.hv2
 have n0l := F.n0l
 have n1l := F.n1l
 have n1u := F.n1u
 have d1l := F.d1l
 have d0l := F.d0l
 have hv0 := F.hv0
 have hU1 := F.hU1
 have ul := F.ul
 have mU := F.mU
 have rl := F.rl
 have ql := F.ql
 have Q1l := F.Q1l
 have U2 := F.U2
 have mR := F.mR
 have rl2 := F.rl2
 have ql2 := F.ql2
 have Q0l := F.Q0l
 have H1 := Lib.hid F.E1
 have H2 := Lib.hid F.E2
 have H3 := Lib.hid F.E3
 have H4 := Lib.hid F.E4
 have H5 := Lib.hid F.E5
 have H6 := Lib.hid F.E6
 have H7 := Lib.hid F.E7
 have H8 := Lib.hid F.E8
 have H9 := Lib.hid F.E9
 have HV := Lib.hid F.hv
 have HDS := Lib.hid F.DS
 have H10 := Lib.hid F.E10
 have H11 := Lib.hid F.E11
 have HR := Lib.hid F.rU
 have H12 := Lib.hid F.E12
 have HQ1 := Lib.hid F.hQ1
 have HDT := Lib.hid F.DT
 have H13 := Lib.hid F.E13
 have H14 := Lib.hid F.E14
 have HR2 := Lib.hid F.rR
 have H15 := Lib.hid F.E15
 have HQ0 := Lib.hid F.hQ0
 have H16 := Lib.hid F.E16
 have H17 := Lib.hid F.E17
 clear F
 go_enter Try.func85, Try.ntmps85
 go_wp2_with fail
 refine (bits_Lead _ s _ (by omega) HS.out).mono ?_
 rintro e w' ⟨rfl, rfl⟩
 go_upto_region 15 with (fail)
 simp only [H1.out, H2.out, H3.out, H4.out, H5.out, H6.out, H7.out, H8.out, H9.out]
 have E10 := H10.out
 have E11 := H11.out
 go_upto_block 0 with (fail)
 go_cut [15] from 67 to 85 (fun q' wx => q' = .int .u64 (Q1 : Int) ∧ wx = w)
 case first =>
  go_wp2_with fail
  go_loopw [15, 16] (fun qv rv wr => ∃ q r : Nat, qv = .int .u64 q ∧ rv = .int .u64 r ∧ Hid (DigAt v n1 U d1 q r) ∧ q ≤ 4294967297 ∧ r < 4294967296 ∧ wr = w) (fun qv _ _ => (intOf qv).toNat)
  case atStart => exact ⟨q, r, rfl, by have := HR.out; go_num, HDS, by omega, by omega, rfl⟩
  case round =>
   obtain ⟨q, r, rfl, rfl, HD, qb, rb, rfl⟩ := hrel
   have HM := Lib.hid (rfl : q * n0 = q * n0)
   by_cases hbig : 4294967296 ≤ q
   ·
    obtain ⟨q1, D2⟩ := digit_yes HV.out d1l hv0 hU1 HD.out (.inl hbig)
    have hb : decide ((4294967296 : Int) ≤ (q : Int)) = true := decide_eq_true (by omega)
    have HD2 := Lib.hid D2
    clear D2
    have HB := Lib.hid hbig
    clear hbig
    by_cases hr : 4294967296 ≤ r + n1
    ·
     have HE := Lib.hid (digit_great HV.out n0l hv0 HD2.out (by have := HB.out; omega) hr)
     have hd : decide ((4294967296 : Int) ≤ (r : Int) + (n1 : Int)) = true := decide_eq_true (by omega)
     have HR' := Lib.hid hr
     clear hr
     go_wp2_with fail
     go_meet
     case rel => exact ⟨by have := HE.out; rw [HQ1.out] at this; rw [← this]; go_num, rfl⟩
    ·
     have hd : decide ((4294967296 : Int) ≤ (r : Int) + (n1 : Int)) = false := decide_eq_false (by omega)
     have HR' := Lib.hid hr
     clear hr
     go_wp2_with fail
     go_roundw
     case rel => exact ⟨q - 1, r + n1, by go_num, by go_num, HD2, by omega, by have := HR'.out; omega, trivial⟩
     case measure => simp [intOf]; omega
   ·
    have hq0 : q * n0 ≤ 4294967295 * 4294967295 := Nat.mul_le_mul (by omega) (by omega)
    have hm : IntKind.u64.wrap ((q : Int) * (n0 : Int)) = ((q * n0 : Nat) : Int) := by rw [Mul64.mulN, Mul64.wrapN _ (by omega)]
    have YES := fun h => digit_yes HV.out d1l hv0 hU1 HD.out (.inr h)
    have NO := fun h => digit_no HV.out hv0 HD.out h
    rw [HQ1.out] at NO
    generalize q * n0 = p at hm hq0 YES NO
    clear HM
    have hbig2 : decide ((4294967296 : Int) ≤ (q : Int)) = false := decide_eq_false (by omega)
    by_cases ht : 4294967296 * r + d1 < p
    ·
     obtain ⟨q1, D2⟩ := YES ht
     have HD2 := Lib.hid D2
     clear D2 YES NO
     have HB := Lib.hid hbig
     clear hbig
     by_cases hr : 4294967296 ≤ r + n1
     ·
      have HE := Lib.hid (digit_great HV.out n0l hv0 HD2.out (by have := HB.out; omega) hr)
      have hd : decide ((4294967296 : Int) ≤ (r : Int) + (n1 : Int)) = true := decide_eq_true (by omega)
      have HR' := Lib.hid hr
      clear hr
      go_wp2_with fail
      go_meet
      case rel => exact ⟨by have := HE.out; rw [HQ1.out] at this; rw [← this]; go_num, rfl⟩
     ·
      have hd : decide ((4294967296 : Int) ≤ (r : Int) + (n1 : Int)) = false := decide_eq_false (by omega)
      have HR' := Lib.hid hr
      clear hr
      go_wp2_with fail
      go_roundw
      case rel => exact ⟨q - 1, r + n1, by go_num, by go_num, HD2, by omega, by have := HR'.out; omega, trivial⟩
      case measure => simp [intOf]; omega
    ·
     have HE := Lib.hid (NO ht)
     clear YES NO
     go_wp2_with fail
     go_meet
     case rel => exact ⟨by rw [HE.out], rfl⟩
 case rest =>
  obtain ⟨rfl, rfl⟩ := hcut
  clear E10 E11
  go_upto_region 22 with (fail)
  rw [H12.out]
  have E13 := H13.out
  have E14 := H14.out
  go_upto_block 2 with (fail)
  go_cut [18] from 102 to 120 (fun q' wx => q' = .int .u64 (Q0 : Int) ∧ wx = wc)
  case first =>
   go_wp2_with fail
   go_loopw [18, 16] (fun qv rv wr => ∃ q r : Nat, qv = .int .u64 q ∧ rv = .int .u64 r ∧ Hid (DigAt v n1 R1 d0 q r) ∧ q ≤ 4294967297 ∧ r < 4294967296 ∧ wr = wc) (fun qv _ _ => (intOf qv).toNat)
   case atStart => exact ⟨q2, r2, rfl, by have := HR2.out; go_num, HDT, by omega, by omega, rfl⟩
   case round =>
    obtain ⟨q, r, rfl, rfl, HD, qb, rb, rfl⟩ := hrel
    have HM := Lib.hid (rfl : q * n0 = q * n0)
    by_cases hbig : 4294967296 ≤ q
    ·
     obtain ⟨q1, D2⟩ := digit_yes HV.out d0l hv0 U2 HD.out (.inl hbig)
     have hb : decide ((4294967296 : Int) ≤ (q : Int)) = true := decide_eq_true (by omega)
     have HD2 := Lib.hid D2
     clear D2
     have HB := Lib.hid hbig
     clear hbig
     by_cases hr : 4294967296 ≤ r + n1
     ·
      have HE := Lib.hid (digit_great HV.out n0l hv0 HD2.out (by have := HB.out; omega) hr)
      have hd : decide ((4294967296 : Int) ≤ (r : Int) + (n1 : Int)) = true := decide_eq_true (by omega)
      have HR' := Lib.hid hr
      clear hr
      go_wp2_with fail
      go_meet
      case rel => exact ⟨by have := HE.out; rw [HQ0.out] at this; rw [← this]; go_num, rfl⟩
     ·
      have hd : decide ((4294967296 : Int) ≤ (r : Int) + (n1 : Int)) = false := decide_eq_false (by omega)
      have HR' := Lib.hid hr
      clear hr
      go_wp2_with fail
      go_roundw
      case rel => exact ⟨q - 1, r + n1, by go_num, by go_num, HD2, by omega, by have := HR'.out; omega, trivial⟩
      case measure => simp [intOf]; omega
    ·
     have hq0 : q * n0 ≤ 4294967295 * 4294967295 := Nat.mul_le_mul (by omega) (by omega)
     have hm : IntKind.u64.wrap ((q : Int) * (n0 : Int)) = ((q * n0 : Nat) : Int) := by rw [Mul64.mulN, Mul64.wrapN _ (by omega)]
     have YES := fun h => digit_yes HV.out d0l hv0 U2 HD.out (.inr h)
     have NO := fun h => digit_no HV.out hv0 HD.out h
     rw [HQ0.out] at NO
     generalize q * n0 = p at hm hq0 YES NO
     clear HM
     have hbig2 : decide ((4294967296 : Int) ≤ (q : Int)) = false := decide_eq_false (by omega)
     by_cases ht : 4294967296 * r + d0 < p
     ·
      obtain ⟨q1, D2⟩ := YES ht
      have HD2 := Lib.hid D2
      clear D2 YES NO
      have HB := Lib.hid hbig
      clear hbig
      by_cases hr : 4294967296 ≤ r + n1
      ·
       have HE := Lib.hid (digit_great HV.out n0l hv0 HD2.out (by have := HB.out; omega) hr)
       have hd : decide ((4294967296 : Int) ≤ (r : Int) + (n1 : Int)) = true := decide_eq_true (by omega)
       have HR' := Lib.hid hr
       clear hr
       go_wp2_with fail
       go_meet
       case rel => exact ⟨by have := HE.out; rw [HQ0.out] at this; rw [← this]; go_num, rfl⟩
      ·
       have hd : decide ((4294967296 : Int) ≤ (r : Int) + (n1 : Int)) = false := decide_eq_false (by omega)
       have HR' := Lib.hid hr
       clear hr
       go_wp2_with fail
       go_roundw
       case rel => exact ⟨q - 1, r + n1, by go_num, by go_num, HD2, by omega, by have := HR'.out; omega, trivial⟩
       case measure => simp [intOf]; omega
     ·
      have HE := Lib.hid (NO ht)
      clear YES NO
      go_wp2_with fail
      go_meet
      case rel => exact ⟨by rw [HE.out], rfl⟩
  case rest =>
   obtain ⟨rfl, rfl⟩ := hcut
   clear E13 E14
   go_wp2_with fail
   simp only [H15.out, H16.out]
   go_ret2
   refine ⟨?_, rfl⟩
   rw [H17.out]
   simp
theorem bits_Div64 (hi lo y : Nat) (w : World) (hl : lo < 18446744073709551616) (hy : y < 18446744073709551616) (h1 : hi < y) :
  Calls Try.prog 85 #[.int .u64 hi, .int .u64 lo, .int .u64 y] w fun e w' => e = .returned (.tuple #[.int .u64 (((hi * 18446744073709551616 + lo) / y : Nat) : Int), .int .u64 (((hi * 18446744073709551616 + lo) % y : Nat) : Int)]) ∧ Below w.heap.size w w' := by
 by_cases h0 : hi = 0
 ·
  subst h0
  refine (bits_Div64_0 lo y w hl hy (by omega)).mono fun e w' h => ⟨?_, h.2⟩
  rw [h.1, Nat.zero_mul, Nat.zero_add]
 ·
  have hb := bitLen_le64 y (by omega) (by omega)
  rw [Int.toNat_natCast] at hb
  refine (bits_Div64_1 hi lo y (64 - Lib.bitLen y) w hl hy (by omega) h1 (by omega)).mono fun e w' h => ⟨h.1, ?_⟩
  rw [← h.2]
  exact Below.refl _ _
end Go.Proofs.Ytcjbjpobpefehaa
namespace Go.Proofs.Ytcjbjpobpefehaa
open Go.RowKit
def mulR (a b c : Int) : Int := if mulArgs a b c = true then divR a b c else 0
theorem i_divided_no (a b c : Int) (w : World) (h : mulArgs a b c = false) :
  Calls Try.prog 58 #[.int .i64 a, .int .i64 b, .int .i64 c] w fun e w' => e = .returned (.tuple #[.int .i64 0, .int .i64 0, .bool false]) ∧ w = w' := by
 cases hA : amtB a <;> cases hB : amtB b <;> cases hC : inB c 1 1125899906842624
 case true.true.true =>
  obtain ⟨h1, h2⟩ := zwb.1 hC
  simp [mulArgs, hA, hB] at h
  omega
 all_goals
  clear h
  go_enter Try.func58, Try.ntmps58
  go_wp2_with (first | (go_at_call 47; refine (zwd _ _).mono ?_; rintro e w' ⟨rfl, rfl⟩) | (go_at_call 48; refine (i_in _ _ _ _).mono ?_; rintro e w' ⟨rfl, rfl⟩))
  go_ret3
  exact ⟨rfl, rfl⟩
theorem i_divided_nat (a b c : Nat) (w : World) (ha : a ≤ 1125899906842624) (hb : b ≤ 1125899906842624) (h1 : 1 ≤ c) (hc : c ≤ 1125899906842624) :
  Calls Try.prog 58 #[.int .i64 a, .int .i64 b, .int .i64 c] w fun e w' => e = .returned (.tuple #[.int .i64 (divQ a b c), .int .i64 (divR a b c), .bool (divB a b c)]) ∧ Below w.heap.size w w' := by
 have hA := Lib.hid (zvh.2 ⟨Int.natCast_nonneg a, by omega⟩)
 have hB := Lib.hid (zvh.2 ⟨Int.natCast_nonneg b, by omega⟩)
 have hC : inB (c : Int) 1 1125899906842624 = true := zwb.2 ⟨by omega, by omega⟩
 have hdm := Nat.div_add_mod (a * b) 18446744073709551616
 have hlo : a * b % 18446744073709551616 < 18446744073709551616 := Nat.mod_lt _ (by decide)
 have hhi : a * b / 18446744073709551616 < 18446744073709551616 := by
  have : a * b ≤ 1125899906842624 * 1125899906842624 := Nat.mul_le_mul ha hb
  omega
 have hq : divB (a : Int) (b : Int) (c : Int) = decide (a * b / c ≤ 1125899906842624) := by
  unfold divB
  rw [← Int.natCast_mul, ← Int.natCast_ediv]
  exact decide_eq_decide.2 (by omega)
 have hQ : divQ (a : Int) (b : Int) (c : Int) = if a * b / c ≤ 1125899906842624 then ((a * b / c : Nat) : Int) else 0 := by
  unfold divQ
  rw [hq, ← Int.natCast_mul, ← Int.natCast_ediv]
  simp only [decide_eq_true_eq]
 have hR : divR (a : Int) (b : Int) (c : Int) = if a * b / c ≤ 1125899906842624 then ((a * b % c : Nat) : Int) else 0 := by
  unfold divR
  rw [hq, ← Int.natCast_mul, ← Int.natCast_emod]
  simp only [decide_eq_true_eq]
 rw [hq, hQ, hR]
 have MUL := fun W => bits_Mul64 a b (by omega) (by omega) W
 obtain ⟨lo, elo⟩ : ∃ lo, a * b % 18446744073709551616 = lo := ⟨_, rfl⟩
 obtain ⟨hi, ehi⟩ : ∃ hi, a * b / 18446744073709551616 = hi := ⟨_, rfl⟩
 rw [elo] at MUL hlo hdm
 rw [ehi] at MUL hhi hdm
 have hab : hi * 18446744073709551616 + lo = a * b := by omega
 clear hq hQ hR elo ehi hdm
 by_cases hbig : c ≤ hi
 ·
  have hqb : ¬ a * b / c ≤ 1125899906842624 := by
   rw [← hab]
   intro hh
   have h2 : c * 18446744073709551616 ≤ hi * 18446744073709551616 := Nat.mul_le_mul_right _ hbig
   have h3 := Nat.lt_mul_div_succ (hi * 18446744073709551616 + lo) (show 0 < c by omega)
   have h4 : c * ((hi * 18446744073709551616 + lo) / c + 1) ≤ c * 1125899906842625 := Nat.mul_le_mul_left _ (by omega)
   omega
  have HQ := Lib.hid hqb
  have HAB := Lib.hid hab
  have HM := Lib.hid MUL
  have HC := Lib.hid hC
  clear hqb hab MUL hC
  go_enter Try.func58, Try.ntmps58
  go_wp2_with (first | (go_at_call 47; refine (zwd _ _).mono ?_; rintro e w' ⟨rfl, rfl⟩; try rw [hA.out]; try rw [hB.out]) | (go_at_call 48; refine (i_in _ _ _ _).mono ?_; rintro e w' ⟨rfl, rfl⟩; rw [HC.out]))
  refine (HM.out _).mono ?_
  rintro e w' ⟨rfl, rfl⟩
  go_wp2_with fail
  go_ret3
  refine ⟨by simp, Below.refl _ _⟩
 ·
  have hbig' : hi < c := by omega
  have HAB := Lib.hid hab
  have HM := Lib.hid MUL
  have HC := Lib.hid hC
  have HD := Lib.hid (fun W => bits_Div64 hi lo c W hlo (by omega) hbig')
  clear hab MUL hC hbig'
  by_cases hqb : a * b / c ≤ 1125899906842624
  ·
   have HQ := Lib.hid hqb
   have hrl : a * b % c < c := Nat.mod_lt _ (by omega)
   have HDD : Hid (∀ W, Calls Try.prog 85 #[.int .u64 hi, .int .u64 lo, .int .u64 c] W fun e w' => e = .returned (.tuple #[.int .u64 ((a * b / c : Nat) : Int), .int .u64 ((a * b % c : Nat) : Int)]) ∧ Below W.heap.size W w') := Lib.hid (by rw [← HAB.out]; exact HD.out)
   generalize a * b / c = Q at hqb HQ HDD
   generalize a * b % c = R at hrl HDD
   clear HD
   go_enter Try.func58, Try.ntmps58
   go_wp2_with (first | (go_at_call 47; refine (zwd _ _).mono ?_; rintro e w' ⟨rfl, rfl⟩; try rw [hA.out]; try rw [hB.out]) | (go_at_call 48; refine (i_in _ _ _ _).mono ?_; rintro e w' ⟨rfl, rfl⟩; rw [HC.out]))
   refine (HM.out _).mono ?_
   rintro e w' ⟨rfl, rfl⟩
   go_wp2_with fail
   refine (HDD.out _).mono ?_
   rintro e w1 ⟨rfl, hb1⟩
   go_wp2_with fail
   go_ret3
   refine ⟨by simp, hb1⟩
  ·
   have HQ := Lib.hid hqb
   have HDD : Hid (∀ W, Calls Try.prog 85 #[.int .u64 hi, .int .u64 lo, .int .u64 c] W fun e w' => e = .returned (.tuple #[.int .u64 ((a * b / c : Nat) : Int), .int .u64 ((a * b % c : Nat) : Int)]) ∧ Below W.heap.size W w') := Lib.hid (by rw [← HAB.out]; exact HD.out)
   generalize a * b / c = Q at hqb HQ HDD
   generalize a * b % c = R at HDD
   clear HD
   go_enter Try.func58, Try.ntmps58
   go_wp2_with (first | (go_at_call 47; refine (zwd _ _).mono ?_; rintro e w' ⟨rfl, rfl⟩; try rw [hA.out]; try rw [hB.out]) | (go_at_call 48; refine (i_in _ _ _ _).mono ?_; rintro e w' ⟨rfl, rfl⟩; rw [HC.out]))
   refine (HM.out _).mono ?_
   rintro e w' ⟨rfl, rfl⟩
   go_wp2_with fail
   refine (HDD.out _).mono ?_
   rintro e w1 ⟨rfl, hb1⟩
   go_wp2_with fail
   go_ret3
   refine ⟨by simp, hb1⟩
theorem i_divided (a b c : Int) (w : World) :
  Calls Try.prog 58 #[.int .i64 a, .int .i64 b, .int .i64 c] w fun e w' => e = .returned (.tuple #[.int .i64 (mulQ a b c), .int .i64 (mulR a b c), .bool (mulOk a b c)]) ∧ Below w.heap.size w w' := by
 cases h : mulArgs a b c
 ·
  refine (i_divided_no a b c w h).mono fun e w' hh => ?_
  obtain ⟨rfl, rfl⟩ := hh
  exact ⟨by simp [mulQ, mulR, mulOk, h], Below.refl _ _⟩
 ·
  have h' := h
  simp only [mulArgs, Bool.and_eq_true, decide_eq_true_eq, zvh] at h'
  obtain ⟨⟨⟨⟨a1, a2⟩, b1, b2⟩, c1⟩, c2⟩ := h'
  obtain ⟨a, rfl⟩ := Int.eq_ofNat_of_zero_le a1
  obtain ⟨b, rfl⟩ := Int.eq_ofNat_of_zero_le b1
  obtain ⟨c, rfl⟩ := Int.eq_ofNat_of_zero_le (by omega : 0 ≤ c)
  refine (i_divided_nat a b c w (by omega) (by omega) (by omega) (by omega)).mono fun e w' hh => ?_
  obtain ⟨rfl, hb⟩ := hh
  exact ⟨by simp [mulQ, mulR, mulOk, h], hb⟩
theorem i_MulDiv (a b c : Int) (w : World) :
  Calls Try.prog 33 #[.int .i64 a, .int .i64 b, .int .i64 c] w fun e w' => e = .returned (.tuple #[.int .i64 (mulQ a b c), .bool (mulOk a b c)]) ∧ Below w.heap.size w w' := by
 go_enter Try.func33, Try.ntmps33
 go_wp2_with fail
 refine (i_divided a b c _).mono ?_
 rintro e w1 ⟨rfl, hb1⟩
 go_wp2_with fail
 go_ret2
 exact ⟨rfl, hb1⟩
end Go.Proofs.Ytcjbjpobpefehaa
namespace Go.Proofs.Ytcjbjpobpefehaa
open Go.RowKit

def rateOf (c f : Int) : Int := if (amtB c && amtB f && amtB (c + f)) = true then mulQ c 1000000 (c + f) else 0
theorem i_Rate (x0 x1 c f : Int) (w : World) :
    Calls Try.prog 15 #[.agg #[.int .i64 x0, .int .i64 x1, .int .i64 c, .int .i64 f]] w fun e w' => e = .returned (.int .i64 (rateOf c f)) ∧ Below w.heap.size w w' := by
  cases h : (amtB c && amtB f && amtB (c + f))
  · go_enter Try.func15, Try.ntmps15
    go_wp2_with fail
    refine (i_AddAmt_no c f _ h).mono ?_
    rintro e w1 ⟨rfl, rfl⟩
    go_wp2_with fail
    go_ret
    refine ⟨zji (by simp [rateOf, h]), ?_⟩
    exact bl_
  · have h' := h
    simp only [Bool.and_eq_true] at h'
    obtain ⟨⟨h1, h2⟩, h3⟩ := h'
    have H := Lib.hid h
    have H1 := Lib.hid h1
    have H2 := Lib.hid h2
    have H3 := Lib.hid h3
    clear h h1 h2 h3
    go_enter Try.func15, Try.ntmps15
    go_wp2_with fail
    refine (i_AddAmt_yes c f _ H1.out H2.out H3.out).mono ?_
    rintro e w1 ⟨rfl, rfl⟩
    go_wp2_with fail
    refine (i_MulDiv c 1000000 (c + f) _).mono ?_
    rintro e w1 ⟨rfl, hb1⟩
    go_wp2_with fail
    go_ret
    refine ⟨zji (by simp [rateOf, H.out]), ?_⟩
    exact bl_
end Go.Proofs.Ytcjbjpobpefehaa
namespace Go.Proofs.Ytcjbjpobpefehaa
open Go.RowKit
def notChG (ch : Int) (g : Gain) : Bool := g.Ch != ch
def shareOf (l : List Gain) (ch : Int) : Int := match l.find? (fun g => !notChG ch g) with | some g => mulQ g.Fees 1000000 (gainSum l) | none => 0
theorem shareOf_none {l : List Gain} {ch : Int} (h : (l.take l.length).all (notChG ch) = true) : shareOf l ch = 0 := by
 rw [List.take_length] at h
 have : l.find? (fun g => !notChG ch g) = none := by
  rw [List.find?_eq_none]
  intro x hx
  simp [List.all_eq_true.1 h x hx]
 unfold shareOf
 rw [this]
theorem shareOf_at {l : List Gain} {ch : Int} {k : Nat} (hk : k < l.length) (h : (l.take k).all (notChG ch) = true) (hc : notChG ch l[k] = false) : shareOf l ch = mulQ l[k].Fees 1000000 (gainSum l) := by
 have e : l = l.take k ++ l[k] :: l.drop (k + 1) := by rw [List.getElem_cons_drop, List.take_append_drop]
 have : l.find? (fun g => !notChG ch g) = some l[k] := by
  have h1 : (l.take k).find? (fun g => !notChG ch g) = none := by
   rw [List.find?_eq_none]
   intro x hx
   simp [List.all_eq_true.1 h x hx]
  have h2 : (l.take k ++ l[k] :: l.drop (k + 1)).find? (fun g => !notChG ch g) = some l[k] := by
   rw [List.find?_append, h1, List.find?_cons_of_pos (by simp [hc])]
   rfl
  rwa [← e] at h2
 unfold shareOf
 rw [this]
set_option maxHeartbeats 1000000 in
theorem i_Share (l : List Gain) (ch : Int) (A : Option Addr) (cap : Nat) (w : World) (hl : l.length ≤ 1048576) (hr : Rd w w.heap.size 4 A (l.map Gain.cells)) :
  Calls Try.prog 14 #[.slice A l.length cap, .int .i64 ch] w fun e w' => e = .returned (.int .i64 (shareOf l ch)) ∧ Below w.heap.size w w' := by
 have HR := Lib.hid hr
 clear hr
 go_enter Try.func14, Try.ntmps14
 go_wp2_with fail
 go_loopw [11] (fun i wr => ∃ k : Nat, k ≤ l.length ∧ i = .int .i64 k ∧ Hid ((l.take k).all (notChG ch) = true) ∧ Below w.heap.size w wr) (fun i _ => l.length - (intOf i).toNat)
 case atStart => exact ⟨0, Nat.zero_le _, rfl, Lib.hid rfl, Below.refl _ _⟩
 case round =>
  obtain ⟨k, hk, rfl, HA, hbw⟩ := hrel
  have hbz := hbw.size
  by_cases hlt : k < l.length
  ·
   obtain ⟨b, off, rfl, hbB, c0, c1, c2, c3⟩ := Gain.rd (HR.out.below hbw) hlt
   cases hch : (l[k].Ch == ch)
   ·
    have HC := Lib.hid (show notChG ch l[k] = true by simp [notChG, bne, hch])
    go_wp2_with fail
    go_roundw
    case rel => exact ⟨k + 1, by omega, by go_num, Lib.hid (by rw [zki l _ hlt, HA.out, HC.out]; rfl), bl_⟩
    case measure => simp [intOf]; omega
   ·
    have HC := Lib.hid (show notChG ch l[k] = false by simp [notChG, bne, hch])
    go_wp2_with fail
    refine zkh (by kernel_rfl) (by kernel_rfl) ?_
    have K0 : ∀ w2, Above (wr.alloc (.cells #[.int .i64 l[k].Ch, .int .i64 l[k].Fees, .int .i64 l[k].Count, .int .i64 l[k].Failed] 45)).drew w2 → w2.cell? ⟨wr.heap.size, 0, none⟩ = some (.int .i64 l[k].Ch) ∧ w2.cell? ⟨wr.heap.size, 1, none⟩ = some (.int .i64 l[k].Fees) ∧ w2.cell? ⟨wr.heap.size, 2, none⟩ = some (.int .i64 l[k].Count) ∧ w2.cell? ⟨wr.heap.size, 3, none⟩ = some (.int .i64 l[k].Failed) := fun w2 hw2 => by
     obtain ⟨kh, k0, k1, k2, k3, kf, kz⟩ := own4 (g := wr.heap.size) hw2 (by first | omega | (simp; omega) | (simp; done)) (hp_)
     exact ⟨k0, k1, k2, k3⟩
    have HK := Lib.hid K0
    clear K0
    repeat (first | (refine zjd rfl ?_; intro K hK; go_simp; refine hK _ ?_; clear hK K) | (refine zja ?_ rfl ?_ ?_; rotate_left; (focus (intro w2 hw2; obtain ⟨k0, k1, k2, k3⟩ := HK.out w2 hw2; go_simp; rfl)); intro K hK; go_simp; refine hK _ ?_; clear hK K))
    refine zjg 34 #[.slice (some ⟨b, off, none⟩) l.length cap] (.int .i64 (gainSum l)) rfl (fun w2 hw2 => by go_simp) (fun w2 hw2 => (i_GainSum l _ cap _ hl ((HR.out.below (bl_)).more (by have := hw2.size; simp at this; omega))).mono (fun e w3 hh => ⟨hh.1, hh.2⟩)) ?_
    intro K hK; go_simp; refine hK _ ?_; clear hK K
    refine zjg 33 #[.int .i64 l[k].Fees, .int .i64 1000000, .int .i64 (gainSum l)] (.tuple #[.int .i64 (mulQ l[k].Fees 1000000 (gainSum l)), .bool (mulOk l[k].Fees 1000000 (gainSum l))]) rfl (fun w2 hw2 => by go_simp) (fun w2 hw2 => (i_MulDiv _ _ _ _).mono (fun e w3 hh => hh)) ?_
    intro K hK; go_simp; refine hK _ ?_; clear hK K
    repeat (first | (refine zjd rfl ?_; intro K hK; go_simp; refine hK _ ?_; clear hK K) | (refine zja ?_ rfl ?_ ?_; rotate_left; (focus (intro w2 hw2; obtain ⟨k0, k1, k2, k3⟩ := HK.out w2 hw2; go_simp; rfl)); intro K hK; go_simp; refine hK _ ?_; clear hK K))
    refine zvg ?_; intro w9 hb9
    go_wp2_with fail
    go_ret
    exact ⟨zji (shareOf_at hlt HA.out HC.out).symm, bl_⟩
  ·
   obtain rfl : k = l.length := by omega
   go_wp2_with fail
   go_ret
   exact ⟨zji (shareOf_none HA.out).symm, bl_⟩
end Go.Proofs.Ytcjbjpobpefehaa
namespace Go.Proofs.Ytcjbjpobpefehaa
open Go.RowKit Go.Deep
theorem mulQ_bd (a b c : Int) : 0 ≤ mulQ a b c ∧ (1 ≤ c → mulQ a b c * c ≤ a * b ∨ mulQ a b c = 0) := by
 unfold mulQ
 split
 ·
  rename_i h
  simp only [mulArgs, Bool.and_eq_true, zvh, decide_eq_true_eq] at h
  have h0 : 0 ≤ a * b := Int.mul_nonneg h.1.1.1.1 h.1.1.2.1
  unfold divQ
  split
  ·
   exact ⟨Int.ediv_nonneg h0 (by omega), fun hc => .inl (Int.ediv_mul_le _ (by omega))⟩
  ·
   exact ⟨by decide, fun _ => .inr rfl⟩
 ·
  exact ⟨by decide, fun _ => .inr rfl⟩
theorem mulQ_zero {a b c : Int} (h : ¬ 1 ≤ c) : mulQ a b c = 0 := by
 unfold mulQ
 rw [if_neg]
 simp only [mulArgs, Bool.and_eq_true, decide_eq_true_eq]
 omega
theorem rateOf_bd (c f : Int) : 0 ≤ rateOf c f ∧ rateOf c f ≤ 1000000 := by
 unfold rateOf
 split
 ·
  rename_i h
  simp only [Bool.and_eq_true, zvh] at h
  obtain ⟨h1, h2⟩ := mulQ_bd c 1000000 (c + f)
  refine ⟨h1, ?_⟩
  by_cases hs : 1 ≤ c + f
  ·
   rcases h2 hs with h3 | h3
   ·
    have h4 : mulQ c 1000000 (c + f) * (c + f) ≤ 1000000 * (c + f) := by omega
    exact Int.le_of_mul_le_mul_right h4 (by omega)
   ·
    omega
  ·
   rw [mulQ_zero hs]; decide
 ·
  exact ⟨by decide, by decide⟩
theorem gainSum_nn (l : List Gain) : 0 ≤ gainSum l := by
 unfold gainSum
 split
 ·
  rename_i h
  exact feesTo_nonneg h.1
 ·
  exact Int.le_refl _
theorem gainSum_pos {l : List Gain} (h : 1 ≤ gainSum l) : l.all feeG = true ∧ gainSum l = feesTo l := by
 unfold gainSum at h ⊢
 split
 ·
  rename_i h1
  exact ⟨h1.1, rfl⟩
 ·
  rename_i h1
  rw [if_neg h1] at h
  omega
theorem shareOf_nn (l : List Gain) (ch : Int) : 0 ≤ shareOf l ch := by
 unfold shareOf
 split
 ·
  exact (mulQ_bd _ _ _).1
 ·
  exact Int.le_refl _
def ShareSum (l : List Gain) (k : Nat) (sum : Int) : Prop := 0 ≤ sum ∧ (gainSum l = 0 → sum = 0) ∧ (1 ≤ gainSum l → sum * gainSum l ≤ 1000000 * feesTo (l.take k))
theorem ShareSum.zero (l : List Gain) : ShareSum l 0 0 := ⟨Int.le_refl _, fun _ => rfl, fun _ => by simp [feesTo]⟩
theorem ShareSum.le {l : List Gain} {k : Nat} {sum : Int} (h : ShareSum l k sum) : sum ≤ 1000000 := by
 obtain ⟨h1, h2, h3⟩ := h
 have h0 := gainSum_nn l
 by_cases hg : 1 ≤ gainSum l
 ·
  obtain ⟨ha, he⟩ := gainSum_pos hg
  have h4 := h3 hg
  have h5 := feesTo_take ha k
  rw [← he] at h5
  have h6 : sum * gainSum l ≤ 1000000 * gainSum l := by omega
  exact Int.le_of_mul_le_mul_right h6 (by omega)
 ·
  rw [h2 (by omega)]; decide
theorem ShareSum.skip {l : List Gain} {k : Nat} {sum : Int} (h : ShareSum l k sum) (hk : k < l.length) : ShareSum l (k + 1) sum := by
 obtain ⟨h1, h2, h3⟩ := h
 refine ⟨h1, h2, fun hg => ?_⟩
 obtain ⟨ha, he⟩ := gainSum_pos hg
 have h4 := h3 hg
 have h5 : feeG l[k] = true := List.all_eq_true.1 ha _ (List.getElem_mem hk)
 have h6 := (zvh.1 h5).1
 rw [feesTo_succ l hk]
 omega
theorem ShareSum.add {l : List Gain} {k : Nat} {sum : Int} (h : ShareSum l k sum) (hk : k < l.length) (hn : (l.take k).all (notChG l[k].Ch) = true) : ShareSum l (k + 1) (sum + shareOf l l[k].Ch) := by
 obtain ⟨h1, h2, h3⟩ := h
 rw [shareOf_at hk hn (by simp [notChG])]
 obtain ⟨m1, m2⟩ := mulQ_bd l[k].Fees 1000000 (gainSum l)
 have h0 := gainSum_nn l
 refine ⟨by omega, fun hg => ?_, fun hg => ?_⟩
 ·
  rw [mulQ_zero (by omega), h2 hg]; rfl
 ·
  obtain ⟨ha, he⟩ := gainSum_pos hg
  have h4 := h3 hg
  have h5 : feeG l[k] = true := List.all_eq_true.1 ha _ (List.getElem_mem hk)
  have h6 := (zvh.1 h5).1
  rw [feesTo_succ l hk, Int.add_mul]
  rcases m2 hg with h7 | h7
  ·
   omega
  ·
   rw [h7]; omega
theorem shareOf_le {l : List Gain} {ch : Int} : shareOf l ch ≤ 1125899906842624 := by
 unfold shareOf mulQ divQ
 split
 ·
  split
  ·
   split
   ·
    rename_i h; simpa [divB] using h
   ·
    decide
  ·
   decide
 ·
  decide
theorem bestOf_pos : ∀ {l : List Gain}, 0 < l.length → (∀ x ∈ l, 1 ≤ x.Ch) → 1 ≤ (bestOf l).Ch := by
 intro l hl hp
 have : ∀ k, 0 < k → k ≤ l.length → 1 ≤ (bestOf (l.take k)).Ch := by
  intro k
  induction k with
  | zero => intro h; omega
  | succ k ih =>
   intro _ hk
   by_cases h0 : 0 < k
   ·
    rw [bestOf_succ l h0 (by omega)]
    unfold better
    split
    ·
     exact hp _ (List.getElem_mem _)
    ·
     exact ih h0 (by omega)
   ·
    obtain rfl : k = 0 := by omega
    rw [bestOf_one l hl]
    exact hp _ (List.getElem_mem _)
 have h := this l.length hl (Nat.le_refl _)
 rwa [List.take_length] at h
end Go.Proofs.Ytcjbjpobpefehaa
