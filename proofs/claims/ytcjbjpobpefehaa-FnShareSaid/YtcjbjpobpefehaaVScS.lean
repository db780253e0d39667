/- Scores, fees, room, fields: the reference's walks. -/
import Derived.Test.YtcjbjpobpefehaaRows
import Derived.Test.YtcjbjpobpefehaaVM3
import Derived.Test.YtcjbjpobpefehaaVM1
import Derived.Deep.QuietTactic
import Derived.BigQuiet
namespace Go.Proofs.Ytcjbjpobpefehaa
open Go.RowKit Go.Deep
theorem s_Clamp (n lo hi : Int) (w : World) (h : lo ≤ hi) : Calls Try.prog 113 #[.int .i64 n, .int .i64 lo, .int .i64 hi] w fun e w' => e = .returned (.int .i64 (max lo (min n hi))) ∧ w = w' := by
 by_cases h1 : n < lo
 ·
  go_enter Try.func113, Try.ntmps113
  go_wp2
  go_ret
  exact ⟨zji (by omega), rfl⟩
 ·
  by_cases h2 : hi < n
  all_goals
   go_enter Try.func113, Try.ntmps113
   go_wp2
   go_ret
   exact ⟨zji (by omega), rfl⟩
theorem s_ScoreUp (n : Int) (w : World) : Calls Try.prog 93 #[.int .i64 n] w fun e w' => e = .returned (.int .i64 (upF n)) ∧ w = w' := by
 cases h : inB n (-100) 100
 ·
  have HE := Lib.hid (show upF n = 0 by unfold upF; rw [h]; rfl)
  go_enter Try.func93, Try.ntmps93
  go_wp2_with (go_at_call 29; refine (zje _ _).mono ?_; rintro e w' ⟨rfl, rfl⟩)
  go_ret
  exact ⟨zji HE.out.symm, rfl⟩
 ·
  have HE := Lib.hid (show upF n = min (n + 10) 100 by unfold upF; rw [h]; rfl)
  obtain ⟨h1, h2⟩ := zwb.1 h
  go_enter Try.func93, Try.ntmps93
  go_wp2_with (first | (go_at_call 29; refine (zje _ _).mono ?_; rintro e w' ⟨rfl, rfl⟩) | (go_at_call 113; refine (s_Clamp _ _ _ _ (by decide)).mono ?_; rintro e w' ⟨rfl, rfl⟩))
  go_ret
  exact ⟨zji (by rw [HE.out]; omega), rfl⟩
theorem s_ScoreDown (n : Int) (w : World) : Calls Try.prog 94 #[.int .i64 n] w fun e w' => e = .returned (.int .i64 (downF n)) ∧ w = w' := by
 cases h : inB n (-100) 100
 ·
  have HE := Lib.hid (show downF n = 0 by unfold downF; rw [h]; rfl)
  go_enter Try.func94, Try.ntmps94
  go_wp2_with (go_at_call 29; refine (zje _ _).mono ?_; rintro e w' ⟨rfl, rfl⟩)
  go_ret
  exact ⟨zji HE.out.symm, rfl⟩
 ·
  have HE := Lib.hid (show downF n = max (n - 15) (-100) by unfold downF; rw [h]; rfl)
  obtain ⟨h1, h2⟩ := zwb.1 h
  go_enter Try.func94, Try.ntmps94
  go_wp2_with (first | (go_at_call 29; refine (zje _ _).mono ?_; rintro e w' ⟨rfl, rfl⟩) | (go_at_call 113; refine (s_Clamp _ _ _ _ (by decide)).mono ?_; rintro e w' ⟨rfl, rfl⟩))
  go_ret
  exact ⟨zji (by rw [HE.out]; omega), rfl⟩
theorem s_ScoreFade (n : Int) (w : World) : Calls Try.prog 95 #[.int .i64 n] w fun e w' => e = .returned (.int .i64 (fadeF n)) ∧ w = w' := by
 cases h : inB n (-100) 100
 ·
  have HE := Lib.hid (show fadeF n = 0 by unfold fadeF; rw [h]; rfl)
  go_enter Try.func95, Try.ntmps95
  go_wp2_with (go_at_call 29; refine (zje _ _).mono ?_; rintro e w' ⟨rfl, rfl⟩)
  go_ret
  exact ⟨zji HE.out.symm, rfl⟩
 ·
  have HE := Lib.hid (show fadeF n = if 0 < n then n - 1 else if n < 0 then n + 1 else 0 by unfold fadeF; rw [h]; rfl)
  obtain ⟨h1, h2⟩ := zwb.1 h
  by_cases h0 : n = 0
  ·
   subst h0
   go_enter Try.func95, Try.ntmps95
   go_wp2_with (go_at_call 29; refine (zje _ _).mono ?_; rintro e w' ⟨rfl, rfl⟩)
   go_ret
   exact ⟨zji HE.out.symm, rfl⟩
  ·
   have t0 : (n == 0) = false := by simpa using h0
   by_cases hp : 0 < n
   ·
    have HF := Lib.hid (show fadeF n = n - 1 by rw [HE.out, if_pos hp])
    clear h0
    go_enter Try.func95, Try.ntmps95
    go_wp2_with (go_at_call 29; refine (zje _ _).mono ?_; rintro e w' ⟨rfl, rfl⟩)
    go_ret
    exact ⟨zji HF.out.symm, rfl⟩
   ·
    have HF := Lib.hid (show fadeF n = n + 1 by rw [HE.out, if_neg hp, if_pos (by omega)])
    clear h0
    go_enter Try.func95, Try.ntmps95
    go_wp2_with (go_at_call 29; refine (zje _ _).mono ?_; rintro e w' ⟨rfl, rfl⟩)
    go_ret
    exact ⟨zji HF.out.symm, rfl⟩
theorem s_Standing (n : Int) (y : Bool) (w : World) : Calls Try.prog 112 #[.int .i64 n, .bool y] w fun e w' => e = .returned (.bool (standB n y)) ∧ w = w' := by
 cases h : inB n (-100) 100
 ·
  have HE := Lib.hid (show standB n y = false by unfold standB; rw [h]; rfl)
  go_enter Try.func112, Try.ntmps112
  go_wp2_with (go_at_call 29; refine (zje _ _).mono ?_; rintro e w' ⟨rfl, rfl⟩)
  go_ret
  exact ⟨zxa HE.out.symm, rfl⟩
 ·
  by_cases h2 : 20 ≤ n
  ·
   have HE := Lib.hid (show standB n y = y by unfold standB; rw [h, decide_eq_true h2]; rfl)
   go_enter Try.func112, Try.ntmps112
   go_wp2_with (go_at_call 29; refine (zje _ _).mono ?_; rintro e w' ⟨rfl, rfl⟩)
   go_ret
   exact ⟨zxa HE.out.symm, rfl⟩
  ·
   have HE := Lib.hid (show standB n y = false by unfold standB; rw [decide_eq_false h2, Bool.and_false]; rfl)
   have t2 : decide (n ≥ 20) = false := decide_eq_false (by omega)
   go_enter Try.func112, Try.ntmps112
   go_wp2_with (go_at_call 29; refine (zje _ _).mono ?_; rintro e w' ⟨rfl, rfl⟩)
   go_ret
   exact ⟨zxa HE.out.symm, rfl⟩
theorem s_Allow (size few all sf s amt : Int) (good : Bool) (w : World) (b1 : -1000 ≤ sf ∧ sf ≤ 1000) (b2 : -1000 ≤ s ∧ s ≤ 1000) :
  Calls Try.prog 111 #[.int .i64 size, .int .i64 few, .int .i64 all, .int .i64 sf, .int .i64 s, .int .i64 amt, .bool good] w fun e w' => e = .returned (.int .i64 (allowF size few all sf s amt good)) ∧ w = w' := by
 have none : ∀ h : (amtB size && amtB few && amtB all && amtB amt && decide (0 ≤ sf) && decide (0 ≤ s) && decide (few ≤ all) && decide (sf ≤ s)) = false, allowF size few all sf s amt good = 0 := fun h => by unfold allowF; rw [if_pos h]
 cases h1 : amtB size
 ·
  have HE := Lib.hid (none (by rw [h1]; rfl))
  clear none
  go_enter Try.func111, Try.ntmps111
  go_wp2_with (go_at_call 27; refine (zxf _ _).mono ?_; rintro e w' ⟨rfl, rfl⟩)
  go_ret
  exact ⟨zji HE.out.symm, rfl⟩
 cases h2 : amtB few
 ·
  have HE := Lib.hid (none (by rw [h2]; simp))
  clear none
  go_enter Try.func111, Try.ntmps111
  go_wp2_with (go_at_call 27; refine (zxf _ _).mono ?_; rintro e w' ⟨rfl, rfl⟩)
  go_ret
  exact ⟨zji HE.out.symm, rfl⟩
 cases h3 : amtB all
 ·
  have HE := Lib.hid (none (by rw [h3]; simp))
  clear none
  go_enter Try.func111, Try.ntmps111
  go_wp2_with (go_at_call 27; refine (zxf _ _).mono ?_; rintro e w' ⟨rfl, rfl⟩)
  go_ret
  exact ⟨zji HE.out.symm, rfl⟩
 cases h4 : amtB amt
 ·
  have HE := Lib.hid (none (by rw [h4]; simp))
  clear none
  go_enter Try.func111, Try.ntmps111
  go_wp2_with (go_at_call 27; refine (zxf _ _).mono ?_; rintro e w' ⟨rfl, rfl⟩)
  go_ret
  exact ⟨zji HE.out.symm, rfl⟩
 by_cases h5 : sf < 0
 ·
  have HE := Lib.hid (none (by rw [decide_eq_false (show ¬ 0 ≤ sf by omega)]; simp))
  clear none
  go_enter Try.func111, Try.ntmps111
  go_wp2_with (go_at_call 27; refine (zxf _ _).mono ?_; rintro e w' ⟨rfl, rfl⟩)
  go_ret
  exact ⟨zji HE.out.symm, rfl⟩
 by_cases h6 : s < 0
 ·
  have HE := Lib.hid (none (by rw [decide_eq_false (show ¬ 0 ≤ s by omega)]; simp))
  clear none
  have t5 : decide (sf < 0) = false := decide_eq_false h5
  go_enter Try.func111, Try.ntmps111
  go_wp2_with (go_at_call 27; refine (zxf _ _).mono ?_; rintro e w' ⟨rfl, rfl⟩)
  go_ret
  exact ⟨zji HE.out.symm, rfl⟩
 have t5 : decide (sf < 0) = false := decide_eq_false h5
 have t6 : decide (s < 0) = false := decide_eq_false h6
 by_cases h7 : all < few
 ·
  have HE := Lib.hid (none (by rw [decide_eq_false (show ¬ few ≤ all by omega)]; simp))
  clear none
  go_enter Try.func111, Try.ntmps111
  go_wp2_with (go_at_call 27; refine (zxf _ _).mono ?_; rintro e w' ⟨rfl, rfl⟩)
  go_ret
  exact ⟨zji HE.out.symm, rfl⟩
 have t7 : decide (few > all) = false := decide_eq_false (by omega)
 by_cases h8 : s < sf
 ·
  have HE := Lib.hid (none (by rw [decide_eq_false (show ¬ sf ≤ s by omega)]; simp))
  clear none
  go_enter Try.func111, Try.ntmps111
  go_wp2_with (go_at_call 27; refine (zxf _ _).mono ?_; rintro e w' ⟨rfl, rfl⟩)
  go_ret
  exact ⟨zji HE.out.symm, rfl⟩
 have t8 : decide (sf > s) = false := decide_eq_false (by omega)
 clear none
 have HA := Lib.hid (show allowF size few all sf s amt good = if 10 ≤ s ∨ size < all + amt then 0 else if sf < 5 ∧ few + amt ≤ size / 2 then 1 else if good = true then 2 else 0 by
  unfold allowF
  rw [if_neg]
  rw [h1, h2, h3, h4, decide_eq_true (show 0 ≤ sf by omega), decide_eq_true (show 0 ≤ s by omega), decide_eq_true (show few ≤ all by omega), decide_eq_true (show sf ≤ s by omega)]
  simp)
 obtain ⟨x1, y1⟩ := zvh.1 h1
 obtain ⟨x2, y2⟩ := zvh.1 h2
 obtain ⟨x3, y3⟩ := zvh.1 h3
 obtain ⟨x4, y4⟩ := zvh.1 h4
 by_cases g1 : 10 ≤ s
 ·
  have HE := Lib.hid (show allowF size few all sf s amt good = 0 by rw [HA.out, if_pos (Or.inl g1)])
  go_enter Try.func111, Try.ntmps111
  go_wp2_with (go_at_call 27; refine (zxf _ _).mono ?_; rintro e w' ⟨rfl, rfl⟩)
  go_ret
  exact ⟨zji HE.out.symm, rfl⟩
 have t9 : decide (s ≥ 10) = false := decide_eq_false (by omega)
 by_cases g2 : size < all + amt
 ·
  have HE := Lib.hid (show allowF size few all sf s amt good = 0 by rw [HA.out, if_pos (Or.inr g2)])
  go_enter Try.func111, Try.ntmps111
  go_wp2_with (go_at_call 27; refine (zxf _ _).mono ?_; rintro e w' ⟨rfl, rfl⟩)
  go_ret
  exact ⟨zji HE.out.symm, rfl⟩
 have u2 : decide (all + amt > size) = false := decide_eq_false (by omega)
 have HB := Lib.hid (show allowF size few all sf s amt good = if sf < 5 ∧ few + amt ≤ size / 2 then 1 else if good = true then 2 else 0 by rw [HA.out, if_neg (by omega)])
 by_cases g3 : sf < 5
 ·
  by_cases g4 : few + amt ≤ size / 2
  ·
   have HE := Lib.hid (show allowF size few all sf s amt good = 1 by rw [HB.out, if_pos ⟨g3, g4⟩])
   go_enter Try.func111, Try.ntmps111
   go_wp2_with (go_at_call 27; refine (zxf _ _).mono ?_; rintro e w' ⟨rfl, rfl⟩)
   go_ret
   exact ⟨zji HE.out.symm, rfl⟩
  ·
   have u4 : decide (few + amt ≤ size / 2) = false := decide_eq_false g4
   cases good
   ·
    have HE := Lib.hid (show allowF size few all sf s amt false = 0 by rw [HB.out, if_neg (fun h => g4 h.2)]; rfl)
    go_enter Try.func111, Try.ntmps111
    go_wp2_with (go_at_call 27; refine (zxf _ _).mono ?_; rintro e w' ⟨rfl, rfl⟩)
    go_ret
    exact ⟨zji HE.out.symm, rfl⟩
   ·
    have HE := Lib.hid (show allowF size few all sf s amt true = 2 by rw [HB.out, if_neg (fun h => g4 h.2)]; rfl)
    go_enter Try.func111, Try.ntmps111
    go_wp2_with (go_at_call 27; refine (zxf _ _).mono ?_; rintro e w' ⟨rfl, rfl⟩)
    go_ret
    exact ⟨zji HE.out.symm, rfl⟩
 ·
  have u3 : decide (sf < 5) = false := decide_eq_false g3
  cases good
  ·
   have HE := Lib.hid (show allowF size few all sf s amt false = 0 by rw [HB.out, if_neg (fun h => g3 h.1)]; rfl)
   go_enter Try.func111, Try.ntmps111
   go_wp2_with (go_at_call 27; refine (zxf _ _).mono ?_; rintro e w' ⟨rfl, rfl⟩)
   go_ret
   exact ⟨zji HE.out.symm, rfl⟩
  ·
   have HE := Lib.hid (show allowF size few all sf s amt true = 2 by rw [HB.out, if_neg (fun h => g3 h.1)]; rfl)
   go_enter Try.func111, Try.ntmps111
   go_wp2_with (go_at_call 27; refine (zxf _ _).mono ?_; rintro e w' ⟨rfl, rfl⟩)
   go_ret
   exact ⟨zji HE.out.symm, rfl⟩
theorem fee_bounds {ppm n : Int} (hn : 0 ≤ n ∧ n ≤ 1125899906842624) (hp : 0 ≤ ppm ∧ ppm ≤ 1000000) : divB n ppm 1000000 = true ∧ 0 ≤ n * ppm / 1000000 ∧ n * ppm / 1000000 ≤ 1125899906842624 ∧ 0 ≤ n * ppm % 1000000 ∧ n * ppm % 1000000 < 1000000 := by
 have h1 : n * ppm ≤ 1125899906842624 * 1000000 := Int.mul_le_mul hn.2 hp.2 hp.1 (by omega)
 have h0 : 0 ≤ n * ppm := Int.mul_nonneg hn.1 hp.1
 obtain ⟨m, hm⟩ : ∃ m, n * ppm = m := ⟨_, rfl⟩
 unfold divB
 rw [hm] at h1 h0 ⊢
 refine ⟨decide_eq_true (by omega), by omega, by omega, by omega, by omega⟩
theorem feeOk_no {base ppm n : Int} (h : (amtB base && amtB n && inB ppm 0 1000000) = false) : feeOk base ppm n = false ∧ feeV base ppm n = 0 := by
 have h2 : feeOk base ppm n = false := by unfold feeOk; rw [h]; rfl
 exact ⟨h2, by unfold feeV; rw [h2]; rfl⟩
set_option maxHeartbeats 1000000 in
theorem s_l01Fee (base ppm n : Int) (w : World) : Calls Try.prog 110 #[.int .i64 base, .int .i64 ppm, .int .i64 n, .bool true] w fun e w' => e = .returned (.tuple #[.int .i64 (feeV base ppm n), .bool (feeOk base ppm n)]) ∧ w = w' := by
 cases h1 : amtB base
 ·
  have HE := Lib.hid (feeOk_no (base := base) (ppm := ppm) (n := n) (by rw [h1]; rfl))
  go_enter Try.func110, Try.ntmps110
  go_wp2_with (go_at_call 27; refine (zxf _ _).mono ?_; rintro e w' ⟨rfl, rfl⟩)
  go_ret2
  exact ⟨by rw [HE.out.1, HE.out.2]; rfl, rfl⟩
 cases h2 : amtB n
 ·
  have HE := Lib.hid (feeOk_no (base := base) (ppm := ppm) (n := n) (by rw [h2]; simp))
  go_enter Try.func110, Try.ntmps110
  go_wp2_with (go_at_call 27; refine (zxf _ _).mono ?_; rintro e w' ⟨rfl, rfl⟩)
  go_ret2
  exact ⟨by rw [HE.out.1, HE.out.2]; rfl, rfl⟩
 by_cases h3 : ppm < 0
 ·
  have HE := Lib.hid (feeOk_no (base := base) (ppm := ppm) (n := n) (by rw [show inB ppm 0 1000000 = false by unfold inB; exact decide_eq_false (by omega)]; simp))
  go_enter Try.func110, Try.ntmps110
  go_wp2_with (go_at_call 27; refine (zxf _ _).mono ?_; rintro e w' ⟨rfl, rfl⟩)
  go_ret2
  exact ⟨by rw [HE.out.1, HE.out.2]; rfl, rfl⟩
 have t3 : decide (ppm < 0) = false := decide_eq_false h3
 by_cases h4 : 1000000 < ppm
 ·
  have HE := Lib.hid (feeOk_no (base := base) (ppm := ppm) (n := n) (by rw [show inB ppm 0 1000000 = false by unfold inB; exact decide_eq_false (by omega)]; simp))
  go_enter Try.func110, Try.ntmps110
  go_wp2_with (go_at_call 27; refine (zxf _ _).mono ?_; rintro e w' ⟨rfl, rfl⟩)
  go_ret2
  exact ⟨by rw [HE.out.1, HE.out.2]; rfl, rfl⟩
 have t4 : decide (ppm > 1000000) = false := decide_eq_false (by omega)
 obtain ⟨a1, a2⟩ := zvh.1 h1
 obtain ⟨n1, n2⟩ := zvh.1 h2
 obtain ⟨d0, d1, d2, d3, d4⟩ := fee_bounds (ppm := ppm) (n := n) ⟨n1, n2⟩ ⟨by omega, by omega⟩
 have HQ := Lib.hid (show divQ n ppm 1000000 = n * ppm / 1000000 by unfold divQ; rw [if_pos d0])
 have HR := Lib.hid (show divR n ppm 1000000 = n * ppm % 1000000 by unfold divR; rw [if_pos d0])
 have HD := Lib.hid d0
 have HOk := Lib.hid (show feeOk base ppm n = (amtB (feeQ ppm n) && amtB (base + feeQ ppm n)) by
  unfold feeOk
  rw [h1, h2, show inB ppm 0 1000000 = true from zwb.2 ⟨by omega, by omega⟩]
  rfl)
 have HV := Lib.hid (show feeV base ppm n = if feeOk base ppm n = true then base + feeQ ppm n else 0 from rfl)
 have HQF := Lib.hid (show feeQ ppm n = n * ppm / 1000000 + (if 0 < n * ppm % 1000000 then 1 else 0) from rfl)
 obtain ⟨q, hq⟩ : ∃ q, n * ppm / 1000000 = q := ⟨_, rfl⟩
 obtain ⟨r, hr⟩ : ∃ r, n * ppm % 1000000 = r := ⟨_, rfl⟩
 rw [hq] at d1 d2 HQ HQF
 rw [hr] at d3 d4 HR HQF
 clear d0 hq hr
 by_cases hr0 : 0 < r
 ·
  have HF := Lib.hid (show feeQ ppm n = q + 1 by rw [HQF.out, if_pos hr0])
  go_enter Try.func110, Try.ntmps110
  go_wp2_with (go_at_call 27; refine (zxf _ _).mono ?_; rintro e w' ⟨rfl, rfl⟩)
  refine (s_l01Div n ppm 1000000 _ ⟨n1, n2⟩ ⟨by omega, by omega⟩ (by decide)).mono ?_
  rintro e w' ⟨rfl, rfl⟩
  rw [HQ.out, HR.out, HD.out]
  go_wp2_with fail
  cases hs : (amtB base && amtB (q + 1) && amtB (base + (q + 1)))
  ·
   have HO2 := Lib.hid (show feeOk base ppm n = false by rw [HOk.out, HF.out]; simpa [h1] using hs)
   refine (zwc _ _ _ hs).mono ?_
   rintro e w' ⟨rfl, rfl⟩
   go_wp2_with fail
   go_ret2
   exact ⟨by rw [HV.out, HO2.out]; rfl, rfl⟩
  ·
   simp only [Bool.and_eq_true] at hs
   have HO2 := Lib.hid (show feeOk base ppm n = true by rw [HOk.out, HF.out, hs.1.2, hs.2]; rfl)
   refine (zvj _ _ _ hs.1.1 hs.1.2 hs.2).mono ?_
   rintro e w' ⟨rfl, rfl⟩
   go_wp2_with fail
   go_ret2
   exact ⟨by rw [HV.out, HO2.out, if_pos rfl, HF.out]; rfl, rfl⟩
 ·
  have HF := Lib.hid (show feeQ ppm n = q by rw [HQF.out, if_neg hr0, Int.add_zero])
  have tr : decide (r > 0) = false := decide_eq_false (by omega)
  go_enter Try.func110, Try.ntmps110
  go_wp2_with (go_at_call 27; refine (zxf _ _).mono ?_; rintro e w' ⟨rfl, rfl⟩)
  refine (s_l01Div n ppm 1000000 _ ⟨n1, n2⟩ ⟨by omega, by omega⟩ (by decide)).mono ?_
  rintro e w' ⟨rfl, rfl⟩
  rw [HQ.out, HR.out, HD.out]
  go_wp2_with fail
  cases hs : (amtB base && amtB q && amtB (base + q))
  ·
   have HO2 := Lib.hid (show feeOk base ppm n = false by rw [HOk.out, HF.out]; simpa [h1] using hs)
   refine (zwc _ _ _ hs).mono ?_
   rintro e w' ⟨rfl, rfl⟩
   go_wp2_with fail
   go_ret2
   exact ⟨by rw [HV.out, HO2.out]; rfl, rfl⟩
  ·
   simp only [Bool.and_eq_true] at hs
   have HO2 := Lib.hid (show feeOk base ppm n = true by rw [HOk.out, HF.out, hs.1.2, hs.2]; rfl)
   refine (zvj _ _ _ hs.1.1 hs.1.2 hs.2).mono ?_
   rintro e w' ⟨rfl, rfl⟩
   go_wp2_with fail
   go_ret2
   exact ⟨by rw [HV.out, HO2.out, if_pos rfl, HF.out]; rfl, rfl⟩
theorem s_FeeUp (base ppm n : Int) (w : World) : Calls Try.prog 90 #[.int .i64 base, .int .i64 ppm, .int .i64 n] w fun e w' => e = .returned (.tuple #[.int .i64 (feeV base ppm n), .bool (feeOk base ppm n)]) ∧ w = w' := by
 go_enter Try.func90, Try.ntmps90
 go_wp2_with fail
 refine (s_l01Fee _ _ _ _).mono ?_
 rintro e w' ⟨rfl, rfl⟩
 go_wp2_with fail
 go_ret2
 exact ⟨rfl, rfl⟩
end Go.Proofs.Ytcjbjpobpefehaa
