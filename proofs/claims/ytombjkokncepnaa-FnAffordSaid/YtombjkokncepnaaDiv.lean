/- math/bits: Div64. -/
import Derived.Test.YtombjkokncepnaaRows
import Derived.BigQuiet
import Derived.Deep.QuietTactic
import Derived.Deep.Cut
import Derived.Deep.CutBlock
import Derived.Test.YtombjkokncepnaaBits
import Derived.Test.YtombjkokncepnaaDivp
namespace Go.Proofs.Ytombjkokncepnaa
open Go.RowKit

theorem bits_Div64_0 (lo y : Nat) (w : World) (hl : lo < 18446744073709551616) (hy : y < 18446744073709551616) (h1 : 1 ≤ y) :
    Calls Try.prog 118 #[.int .u64 0, .int .u64 lo, .int .u64 y] w fun e w' => e = .returned (.tuple #[.int .u64 ((lo / y : Nat) : Int), .int .u64 ((lo % y : Nat) : Int)]) ∧ Below w.heap.size w w' := by
  have D := Mul64.wrapN (lo / y) (Nat.lt_of_le_of_lt (Nat.div_le_self _ _) hl)
  rw [Int.natCast_ediv] at D
  have HD := Lib.hid D
  clear D
  go_enter Try.func118, Try.ntmps118
  go_wp2_with fail
  go_quiet (fail)
  go_wp2_with fail
  go_ret2
  refine ⟨by simp [HD.out], ?_⟩
  (first | ((repeat' first | (with_reducible (first | exact Below.refl _ _ | assumption | refine Below.setCell ?_ ?_ _ | refine Below.alloc ?_ ?_ _ | refine Below.drew ?_ | refine below_drewN ?_ _ | refine Below.trans ?_ (Below.mono (by assumption) ?_))) | omega | (simp; omega) | (simp; done)); done) | (repeat' first | exact Below.refl _ _ | assumption | refine Below.setCell ?_ (by first | omega | (simp; omega) | (simp; done)) _ | refine Below.alloc ?_ (by first | omega | (simp; omega) | (simp; done)) _ | refine Below.drew ?_ | refine below_drewN ?_ _ | refine Below.trans ?_ (Below.mono (by assumption) (by first | omega | (simp; omega) | (simp; done)))))
theorem bits_Lead (y s : Nat) (w : World) (hy : y < 18446744073709551616) (hs : Lib.bitLen y + s = 64) :
    Calls Try.prog 152 #[.int .u64 y] w fun e w' => e = .returned (.int .i64 s) ∧ w = w' := by
  refine (bits_LeadingZeros64 _ _ (by omega) (by omega)).mono ?_
  rintro e w' ⟨rfl, rfl⟩
  rw [Int.toNat_natCast]
  exact ⟨ret_int (by omega), rfl⟩

set_option maxRecDepth 100000 in
set_option maxHeartbeats 4000000 in
theorem bits_Div64_1 (hi lo y s : Nat) (w : World) (hl : lo < 18446744073709551616) (hy : y < 18446744073709551616) (h0 : 1 ≤ hi) (h1 : hi < y) (hs : Lib.bitLen y + s = 64) :
    Calls Try.prog 118 #[.int .u64 hi, .int .u64 lo, .int .u64 y] w fun e w' => e = .returned (.tuple #[.int .u64 (((hi * 18446744073709551616 + lo) / y : Nat) : Int), .int .u64 (((hi * 18446744073709551616 + lo) % y : Nat) : Int)]) ∧ w = w' := by
  have HS := Lib.hid hs
  clear hs
  obtain ⟨v, n1, n0, U, u, d1, d0, q, r, m, Q1, R1, q2, r2, m2, Q0, R0, F⟩ := div_frame hi lo y s hl hy h1 HS.out
  have hs1 := F.hs1
  have hv1 := F.hv1
  have hv2 := F.hv2
  have n0l := F.n0l
  have n1l := F.n1l
  have n1u := F.n1u
  have d1l := F.d1l
  have d0l := F.d0l
  have hv0 := F.hv0
  have hU1 := F.hU1
  have ul := F.ul
  have mU := F.mU
  have rl := F.rl
  have ql := F.ql
  have Q1l := F.Q1l
  have U2 := F.U2
  have mR := F.mR
  have rl2 := F.rl2
  have ql2 := F.ql2
  have Q0l := F.Q0l
  have H1 := Lib.hid F.E1
  have H2 := Lib.hid F.E2
  have H3 := Lib.hid F.E3
  have H4 := Lib.hid F.E4
  have H5 := Lib.hid F.E5
  have H6 := Lib.hid F.E6
  have H7 := Lib.hid F.E7
  have H8 := Lib.hid F.E8
  have H9 := Lib.hid F.E9
  have HV := Lib.hid F.hv
  have HDS := Lib.hid F.DS
  have H10 := Lib.hid F.E10
  have H11 := Lib.hid F.E11
  have HR := Lib.hid F.rU
  have H12 := Lib.hid F.E12
  have HQ1 := Lib.hid F.hQ1
  have HDT := Lib.hid F.DT
  have H13 := Lib.hid F.E13
  have H14 := Lib.hid F.E14
  have HR2 := Lib.hid F.rR
  have H15 := Lib.hid F.E15
  have HQ0 := Lib.hid F.hQ0
  have H16 := Lib.hid F.E16
  have H17 := Lib.hid F.E17
  clear F
  go_enter Try.func118, Try.ntmps118
  go_wp2_with fail
  refine (bits_Lead _ s _ (by omega) HS.out).mono ?_
  rintro e w' ⟨rfl, rfl⟩
  go_upto_region 15 with (fail)
  simp only [H1.out, H2.out, H3.out, H4.out, H5.out, H6.out, H7.out, H8.out, H9.out]
  have E10 := H10.out
  have E11 := H11.out
  go_upto_block 0 with (fail)
  go_cut [15] from 67 to 85 (fun q' wx => q' = .int .u64 (Q1 : Int) ∧ wx = w)
  case first =>
    go_wp2_with fail
    go_loopw [15, 16] (fun qv rv wr => ∃ q r : Nat, qv = .int .u64 q ∧ rv = .int .u64 r ∧ Hid (DigAt v n1 U d1 q r) ∧ q ≤ 4294967297 ∧ r < 4294967296 ∧ wr = w) (fun qv _ _ => (intOf qv).toNat)
    case atStart => exact ⟨q, r, rfl, by have := HR.out; go_num, HDS, by omega, by omega, rfl⟩
    case round =>
      obtain ⟨q, r, rfl, rfl, HD, qb, rb, rfl⟩ := hrel
      have HM := Lib.hid (rfl : q * n0 = q * n0)
      by_cases hbig : 4294967296 ≤ q
      · obtain ⟨q1, D2⟩ := digit_yes HV.out d1l hv0 hU1 HD.out (.inl hbig)
        have hb : decide ((4294967296 : Int) ≤ (q : Int)) = true := decide_eq_true (by omega)
        have HD2 := Lib.hid D2
        clear D2
        have HB := Lib.hid hbig
        clear hbig
        by_cases hr : 4294967296 ≤ r + n1
        · have HE := Lib.hid (digit_great HV.out n0l hv0 HD2.out (by have := HB.out; omega) hr)
          have hd : decide ((4294967296 : Int) ≤ (r : Int) + (n1 : Int)) = true := decide_eq_true (by omega)
          have HR' := Lib.hid hr
          clear hr
          go_wp2_with fail
          go_meet
          case rel => exact ⟨by have := HE.out; rw [HQ1.out] at this; rw [← this]; go_num, rfl⟩
        · have hd : decide ((4294967296 : Int) ≤ (r : Int) + (n1 : Int)) = false := decide_eq_false (by omega)
          have HR' := Lib.hid hr
          clear hr
          go_wp2_with fail
          go_roundw
          case rel => exact ⟨q - 1, r + n1, by go_num, by go_num, HD2, by omega, by have := HR'.out; omega, trivial⟩
          case measure => simp [intOf]; omega
      · have hq0 : q * n0 ≤ 4294967295 * 4294967295 := Nat.mul_le_mul (by omega) (by omega)
        have hm : IntKind.u64.wrap ((q : Int) * (n0 : Int)) = ((q * n0 : Nat) : Int) := by rw [Mul64.mulN, Mul64.wrapN _ (by omega)]
        have YES := fun h => digit_yes HV.out d1l hv0 hU1 HD.out (.inr h)
        have NO := fun h => digit_no HV.out hv0 HD.out h
        rw [HQ1.out] at NO
        generalize q * n0 = p at hm hq0 YES NO
        clear HM
        have hbig2 : decide ((4294967296 : Int) ≤ (q : Int)) = false := decide_eq_false (by omega)
        by_cases ht : 4294967296 * r + d1 < p
        · obtain ⟨q1, D2⟩ := YES ht
          have HD2 := Lib.hid D2
          clear D2 YES NO
          have HB := Lib.hid hbig
          clear hbig
          by_cases hr : 4294967296 ≤ r + n1
          · have HE := Lib.hid (digit_great HV.out n0l hv0 HD2.out (by have := HB.out; omega) hr)
            have hd : decide ((4294967296 : Int) ≤ (r : Int) + (n1 : Int)) = true := decide_eq_true (by omega)
            have HR' := Lib.hid hr
            clear hr
            go_wp2_with fail
            go_meet
            case rel => exact ⟨by have := HE.out; rw [HQ1.out] at this; rw [← this]; go_num, rfl⟩
          · have hd : decide ((4294967296 : Int) ≤ (r : Int) + (n1 : Int)) = false := decide_eq_false (by omega)
            have HR' := Lib.hid hr
            clear hr
            go_wp2_with fail
            go_roundw
            case rel => exact ⟨q - 1, r + n1, by go_num, by go_num, HD2, by omega, by have := HR'.out; omega, trivial⟩
            case measure => simp [intOf]; omega
        · have HE := Lib.hid (NO ht)
          clear YES NO
          go_wp2_with fail
          go_meet
          case rel => exact ⟨by rw [HE.out], rfl⟩
  case rest =>
    obtain ⟨rfl, rfl⟩ := hcut
    clear E10 E11
    go_upto_region 22 with (fail)
    rw [H12.out]
    have E13 := H13.out
    have E14 := H14.out
    go_upto_block 2 with (fail)
    go_cut [18] from 102 to 120 (fun q' wx => q' = .int .u64 (Q0 : Int) ∧ wx = wc)
    case first =>
      go_wp2_with fail
      go_loopw [18, 16] (fun qv rv wr => ∃ q r : Nat, qv = .int .u64 q ∧ rv = .int .u64 r ∧ Hid (DigAt v n1 R1 d0 q r) ∧ q ≤ 4294967297 ∧ r < 4294967296 ∧ wr = wc) (fun qv _ _ => (intOf qv).toNat)
      case atStart => exact ⟨q2, r2, rfl, by have := HR2.out; go_num, HDT, by omega, by omega, rfl⟩
      case round =>
        obtain ⟨q, r, rfl, rfl, HD, qb, rb, rfl⟩ := hrel
        have HM := Lib.hid (rfl : q * n0 = q * n0)
        by_cases hbig : 4294967296 ≤ q
        · obtain ⟨q1, D2⟩ := digit_yes HV.out d0l hv0 U2 HD.out (.inl hbig)
          have hb : decide ((4294967296 : Int) ≤ (q : Int)) = true := decide_eq_true (by omega)
          have HD2 := Lib.hid D2
          clear D2
          have HB := Lib.hid hbig
          clear hbig
          by_cases hr : 4294967296 ≤ r + n1
          · have HE := Lib.hid (digit_great HV.out n0l hv0 HD2.out (by have := HB.out; omega) hr)
            have hd : decide ((4294967296 : Int) ≤ (r : Int) + (n1 : Int)) = true := decide_eq_true (by omega)
            have HR' := Lib.hid hr
            clear hr
            go_wp2_with fail
            go_meet
            case rel => exact ⟨by have := HE.out; rw [HQ0.out] at this; rw [← this]; go_num, rfl⟩
          · have hd : decide ((4294967296 : Int) ≤ (r : Int) + (n1 : Int)) = false := decide_eq_false (by omega)
            have HR' := Lib.hid hr
            clear hr
            go_wp2_with fail
            go_roundw
            case rel => exact ⟨q - 1, r + n1, by go_num, by go_num, HD2, by omega, by have := HR'.out; omega, trivial⟩
            case measure => simp [intOf]; omega
        · have hq0 : q * n0 ≤ 4294967295 * 4294967295 := Nat.mul_le_mul (by omega) (by omega)
          have hm : IntKind.u64.wrap ((q : Int) * (n0 : Int)) = ((q * n0 : Nat) : Int) := by rw [Mul64.mulN, Mul64.wrapN _ (by omega)]
          have YES := fun h => digit_yes HV.out d0l hv0 U2 HD.out (.inr h)
          have NO := fun h => digit_no HV.out hv0 HD.out h
          rw [HQ0.out] at NO
          generalize q * n0 = p at hm hq0 YES NO
          clear HM
          have hbig2 : decide ((4294967296 : Int) ≤ (q : Int)) = false := decide_eq_false (by omega)
          by_cases ht : 4294967296 * r + d0 < p
          · obtain ⟨q1, D2⟩ := YES ht
            have HD2 := Lib.hid D2
            clear D2 YES NO
            have HB := Lib.hid hbig
            clear hbig
            by_cases hr : 4294967296 ≤ r + n1
            · have HE := Lib.hid (digit_great HV.out n0l hv0 HD2.out (by have := HB.out; omega) hr)
              have hd : decide ((4294967296 : Int) ≤ (r : Int) + (n1 : Int)) = true := decide_eq_true (by omega)
              have HR' := Lib.hid hr
              clear hr
              go_wp2_with fail
              go_meet
              case rel => exact ⟨by have := HE.out; rw [HQ0.out] at this; rw [← this]; go_num, rfl⟩
            · have hd : decide ((4294967296 : Int) ≤ (r : Int) + (n1 : Int)) = false := decide_eq_false (by omega)
              have HR' := Lib.hid hr
              clear hr
              go_wp2_with fail
              go_roundw
              case rel => exact ⟨q - 1, r + n1, by go_num, by go_num, HD2, by omega, by have := HR'.out; omega, trivial⟩
              case measure => simp [intOf]; omega
          · have HE := Lib.hid (NO ht)
            clear YES NO
            go_wp2_with fail
            go_meet
            case rel => exact ⟨by rw [HE.out], rfl⟩
    case rest =>
      obtain ⟨rfl, rfl⟩ := hcut
      clear E13 E14
      go_wp2_with fail
      simp only [H15.out, H16.out]
      go_ret2
      refine ⟨?_, rfl⟩
      rw [H17.out]
      simp
theorem bits_Div64 (hi lo y : Nat) (w : World) (hl : lo < 18446744073709551616) (hy : y < 18446744073709551616) (h1 : hi < y) :
    Calls Try.prog 118 #[.int .u64 hi, .int .u64 lo, .int .u64 y] w fun e w' => e = .returned (.tuple #[.int .u64 (((hi * 18446744073709551616 + lo) / y : Nat) : Int), .int .u64 (((hi * 18446744073709551616 + lo) % y : Nat) : Int)]) ∧ Below w.heap.size w w' := by
  by_cases h0 : hi = 0
  · subst h0
    refine (bits_Div64_0 lo y w hl hy (by omega)).mono fun e w' h => ⟨?_, h.2⟩
    rw [h.1, Nat.zero_mul, Nat.zero_add]
  · have hb := bitLen_le64 y (by omega) (by omega)
    rw [Int.toNat_natCast] at hb
    refine (bits_Div64_1 hi lo y (64 - Lib.bitLen y) w hl hy (by omega) h1 (by omega)).mono fun e w' h => ⟨h.1, ?_⟩
    rw [← h.2]
    exact Below.refl _ _
#print axioms bits_Div64
end Go.Proofs.Ytombjkokncepnaa
