/- Draws: an event. -/
import Derived.Test.YtcjbjpobpefehaaGreatDoorRows
import Derived.Test.YtcjbjpobpefehaaGreatDoorBDrawL
import Derived.Test.YtcjbjpobpefehaaGreatDoorBM4
import Derived.Test.YtcjbjpobpefehaaGreatDoorBM5
import Derived.Test.YtcjbjpobpefehaaGreatDoorBSAll
import Derived.Deep.CutRange
namespace Go.Proofs.YtcjbjpobpefehaaGreatDoor
open Go.RowKit Go.Deep
def DrewE (g : Nat) (w : World) (e : Ending) (w' : World) : Prop := ∃ ev : Event, e = .returned (.agg #[.int .i64 ev.Kind, .int .i64 ev.Key, .int .i64 ev.Ch, .int .i64 ev.To, .int .i64 ev.Amt, .int .i64 ev.Fee, .bool ev.Yes]) ∧ Crs w' g ∧ w.grownBy w' (some g)
theorem zhf {a w : World} {r} (h : a.grownBy w r) : a.grownBy w.drew r := ⟨h.os, h.tape, h.output, h.size, h.block⟩
theorem hasR_six {k : Int} (h1 : 1 ≤ k) (h2 : k ≤ 11) : ∃ h0 h1 h2 h3 h4 h5, hasR k = [h0, h1, h2, h3, h4, h5] := by
 obtain ⟨h0, h1', h2', h3, h4, h5, hr, _⟩ := evB_in (e := ⟨k, 0, 0, 0, 0, 0, false⟩) h1 h2
 exact ⟨h0, h1', h2', h3, h4, h5, hr⟩
set_option maxRecDepth 100000 in
set_option maxHeartbeats 4000000 in
theorem s_l04Draw (g : Nat) (w : World) (hc : Crs w g) :
  Calls Tryz.prog 65 #[.pointer (some ⟨g, 0, none⟩)] w (DrewE g w) := by
 have hgw := hc.lt
 have HC_w := Lib.hid hc
 have HG_w := Lib.hid (World.grownBy.refl w (some g))
 clear hc
 go_enter Tryz.func65, Tryz.ntmps65
 go_wp2_with fail
 refine nm_ ?_
 intro w1 hw
 have HC_w1 : Hid (Crs w1 g) := Lib.hid (by rw [hw]; exact (HC_w.out).alloc _)
 have HG_w1 : Hid (w.grownBy w1 (some g)) := Lib.hid (by rw [hw]; exact zjd (HG_w.out) _)
 obtain ⟨RB, h9R⟩ : ∃ v, v = w.heap.size := ⟨_, rfl⟩
 have HR_w1 : Hid (w1.heap[RB]? = some (.cells #[.int .i64 0, .int .i64 0, .int .i64 0, .int .i64 0, .int .i64 0, .int .i64 0, .bool false] 69 (0, 0))) := Lib.hid (by rw [hw, h9R]; exact zxa (by first | rfl | (simp; done)))
 have HLR : Hid (w.heap.size ≤ RB) := Lib.hid (by have := HG_w.out.size; omega)
 try rw [← h9R]
 clear hw h9R
 obtain ⟨R0, R1, R2, R3, R4, R5, R6, Rf, Rz⟩ := box7_ HR_w1.out
 refine (zxc g 11 _ HC_w1.out (by first | decide | omega) (by first | decide | omega)).mono ?_
 rintro e' w2 ⟨x, x1, x2, rfl, hcn, hg⟩
 have HC_w2 := Lib.hid hcn
 have HG_w2 := Lib.hid (zqn HG_w1.out hg)
 have HR_w2 := Lib.hid (zqg hg (zxi (by have := HLR.out; omega)) HR_w1.out)
 clear hcn hg
 clear R0 R1 R2 R3 R4 R5 R6 Rf Rz
 obtain ⟨R0, R1, R2, R3, R4, R5, R6, Rf, Rz⟩ := box7_ HR_w2.out
 obtain ⟨h0, h1, h2, h3, h4, h5, hr⟩ := hasR_six (k := 1 + x) (by omega) (by omega)
 have HR9 := Lib.hid hr
 clear hr
 go_wp2_with fail
 refine nm_ ?_
 intro w3 hw
 have HC_w3 : Hid (Crs w3 g) := Lib.hid (by rw [hw]; exact (HC_w2.out).alloc _)
 have HG_w3 : Hid (w.grownBy w3 (some g)) := Lib.hid (by rw [hw]; exact zjd (HG_w2.out) _)
 have HR_w3 : Hid (w3.heap[RB]? = some (.cells #[.int .i64 0, .int .i64 0, .int .i64 0, .int .i64 0, .int .i64 0, .int .i64 0, .bool false] 69 (0, 0))) := Lib.hid (by rw [hw]; exact zqe (by have := (gz_ HR_w2.out).1; first | omega | (simp; omega)) (HR_w2.out))
 obtain ⟨EB, h9E⟩ : ∃ v, v = w2.heap.size := ⟨_, rfl⟩
 have HE_w3 : Hid (w3.heap[EB]? = some (.cells #[.int .i64 (1 + x), .int .i64 0, .int .i64 0, .int .i64 0, .int .i64 0, .int .i64 0, .bool false] 69 (0, 0))) := Lib.hid (by rw [hw, h9E]; exact zxa (by first | rfl | (simp; done)))
 have HLE : Hid (w.heap.size ≤ EB) := Lib.hid (by have := HG_w2.out.size; omega)
 try rw [← h9E]
 have HNER : Hid (EB ≠ RB) := Lib.hid (by have := (gz_ HR_w2.out).1; omega)
 clear hw h9E
 clear R0 R1 R2 R3 R4 R5 R6 Rf Rz
 obtain ⟨R0, R1, R2, R3, R4, R5, R6, Rf, Rz⟩ := box7_ HR_w3.out
 obtain ⟨E0, E1, E2, E3, E4, E5, E6, Ef, Ez⟩ := box7_ HE_w3.out
 refine (s_l04Has (1 + x) _ (by omega) (by omega)).mono ?_
 rintro e' w9 ⟨rfl, rfl⟩
 rw [HR9.out]
 go_upto_if 15 with fail
 refine nm_ ?_
 intro w4 hw
 have HC_w4 : Hid (Crs w4 g) := Lib.hid (by rw [hw]; exact (HC_w3.out).alloc _)
 have HG_w4 : Hid (w.grownBy w4 (some g)) := Lib.hid (by rw [hw]; exact zjd (HG_w3.out) _)
 have HR_w4 : Hid (w4.heap[RB]? = some (.cells #[.int .i64 0, .int .i64 0, .int .i64 0, .int .i64 0, .int .i64 0, .int .i64 0, .bool false] 69 (0, 0))) := Lib.hid (by rw [hw]; exact zqe (by have := (gz_ HR_w3.out).1; first | omega | (simp; omega)) (HR_w3.out))
 have HE_w4 : Hid (w4.heap[EB]? = some (.cells #[.int .i64 (1 + x), .int .i64 0, .int .i64 0, .int .i64 0, .int .i64 0, .int .i64 0, .bool false] 69 (0, 0))) := Lib.hid (by rw [hw]; exact zqe (by have := (gz_ HE_w3.out).1; first | omega | (simp; omega)) (HE_w3.out))
 obtain ⟨HB, h9H⟩ : ∃ v, v = w3.heap.size := ⟨_, rfl⟩
 have HH_w4 : Hid (w4.heap[HB]? = some (.cells #[.bool h0, .bool h1, .bool h2, .bool h3, .bool h4, .bool h5] 4 (0, 0))) := Lib.hid (by rw [hw, h9H]; exact zxa (by first | rfl | (simp; done)))
 have HLH : Hid (w.heap.size ≤ HB) := Lib.hid (by have := HG_w3.out.size; omega)
 try rw [← h9H]
 have HNHR : Hid (HB ≠ RB) := Lib.hid (by have := (gz_ HR_w3.out).1; omega)
 have HNHE : Hid (HB ≠ EB) := Lib.hid (by have := (gz_ HE_w3.out).1; omega)
 clear hw h9H
 clear R0 R1 R2 R3 R4 R5 R6 E0 E1 E2 E3 E4 E5 E6 Rf Ef Rz Ez
 obtain ⟨R0, R1, R2, R3, R4, R5, R6, Rf, Rz⟩ := box7_ HR_w4.out
 obtain ⟨E0, E1, E2, E3, E4, E5, E6, Ef, Ez⟩ := box7_ HE_w4.out
 obtain ⟨H0, H1, H2, H3, H4, H5, Hf, Hz⟩ := box6_ HH_w4.out
 skip
 clear R0 R1 R2 R3 R4 R5 R6 E0 E1 E2 E3 E4 E5 E6 H0 H1 H2 H3 H4 H5 Rf Ef Hf Rz Ez Hz
 go_cut [] from 16 to 19 (fun wx => ∃ (v0 v1 v2 v3 v4 v5 : Int) (v6 : Bool), Hid (Crs wx g) ∧ Hid (w.grownBy wx (some g)) ∧ Hid (wx.heap[RB]? = some (.cells #[.int .i64 0, .int .i64 0, .int .i64 0, .int .i64 0, .int .i64 0, .int .i64 0, .bool false] 69 (0, 0))) ∧ Hid (wx.heap[EB]? = some (.cells #[.int .i64 v0, .int .i64 v1, .int .i64 v2, .int .i64 v3, .int .i64 v4, .int .i64 v5, .bool v6] 69 (0, 0))) ∧ Hid (wx.heap[HB]? = some (.cells #[.bool h0, .bool h1, .bool h2, .bool h3, .bool h4, .bool h5] 4 (0, 0))))
 case first =>
  cases h0
  ·
   obtain ⟨R0, R1, R2, R3, R4, R5, R6, Rf, Rz⟩ := box7_ HR_w4.out
   obtain ⟨E0, E1, E2, E3, E4, E5, E6, Ef, Ez⟩ := box7_ HE_w4.out
   obtain ⟨H0, H1, H2, H3, H4, H5, Hf, Hz⟩ := box6_ HH_w4.out
   go_wp2_with fail
   go_meet
   case rel => exact ⟨_, _, _, _, _, _, _, HC_w4, HG_w4, HR_w4, HE_w4, HH_w4⟩
  ·
   obtain ⟨R0, R1, R2, R3, R4, R5, R6, Rf, Rz⟩ := box7_ HR_w4.out
   obtain ⟨E0, E1, E2, E3, E4, E5, E6, Ef, Ez⟩ := box7_ HE_w4.out
   obtain ⟨H0, H1, H2, H3, H4, H5, Hf, Hz⟩ := box6_ HH_w4.out
   go_wp2_with fail
   refine (zxc g 6 _ HC_w4.out (by first | decide | omega) (by first | decide | omega)).mono ?_
   rintro e' w5 ⟨y, y1, y2, rfl, hcn, hg⟩
   have HC_w5 := Lib.hid hcn
   have HG_w5 := Lib.hid (zqn HG_w4.out hg)
   have HR_w5 := Lib.hid (zqg hg (zxi (by have := HLR.out; omega)) HR_w4.out)
   have HE_w5 := Lib.hid (zqg hg (zxi (by have := HLE.out; omega)) HE_w4.out)
   have HH_w5 := Lib.hid (zqg hg (zxi (by have := HLH.out; omega)) HH_w4.out)
   clear hcn hg
   clear R0 R1 R2 R3 R4 R5 R6 E0 E1 E2 E3 E4 E5 E6 H0 H1 H2 H3 H4 H5 Rf Ef Hf Rz Ez Hz
   obtain ⟨R0, R1, R2, R3, R4, R5, R6, Rf, Rz⟩ := box7_ HR_w5.out
   obtain ⟨E0, E1, E2, E3, E4, E5, E6, Ef, Ez⟩ := box7_ HE_w5.out
   obtain ⟨H0, H1, H2, H3, H4, H5, Hf, Hz⟩ := box6_ HH_w5.out
   go_wp2_with fail
   go_meet
   case rel => exact ⟨_, _, _, _, _, _, _, Lib.hid ((HC_w5.out).set (by have := HLE.out; omega)), Lib.hid (zqd (HG_w5.out) HLE.out _ _), Lib.hid (zqb (by first | exact HNRE.out | exact fun e9 => HNER.out e9.symm) (HR_w5.out)), Lib.hid (zqa (HE_w5.out)), Lib.hid (zqb (by first | exact HNHE.out | exact fun e9 => HNEH.out e9.symm) (HH_w5.out))⟩
 case rest =>
  obtain ⟨v0, v1, v2, v3, v4, v5, v6, HC_wc, HG_wc, HR_wc, HE_wc, HH_wc⟩ := hcut
  obtain ⟨c0, hcw⟩ : ∃ v : World, v = wc := ⟨_, rfl⟩
  subst hcw
  clear HC_w4 HG_w4 HR_w4 HE_w4 HH_w4
  have HC_c0 := HC_wc
  have HG_c0 := HG_wc
  have HR_c0 := HR_wc
  have HE_c0 := HE_wc
  have HH_c0 := HH_wc
  clear HC_wc HG_wc HR_wc HE_wc HH_wc
  obtain ⟨R0, R1, R2, R3, R4, R5, R6, Rf, Rz⟩ := box7_ HR_c0.out
  obtain ⟨E0, E1, E2, E3, E4, E5, E6, Ef, Ez⟩ := box7_ HE_c0.out
  obtain ⟨H0, H1, H2, H3, H4, H5, Hf, Hz⟩ := box6_ HH_c0.out
  go_upto_if 22 with fail
  clear R0 R1 R2 R3 R4 R5 R6 E0 E1 E2 E3 E4 E5 E6 H0 H1 H2 H3 H4 H5 Rf Ef Hf Rz Ez Hz
  go_cut [] from 23 to 26 (fun wx => ∃ (v0 v1 v2 v3 v4 v5 : Int) (v6 : Bool), Hid (Crs wx g) ∧ Hid (w.grownBy wx (some g)) ∧ Hid (wx.heap[RB]? = some (.cells #[.int .i64 0, .int .i64 0, .int .i64 0, .int .i64 0, .int .i64 0, .int .i64 0, .bool false] 69 (0, 0))) ∧ Hid (wx.heap[EB]? = some (.cells #[.int .i64 v0, .int .i64 v1, .int .i64 v2, .int .i64 v3, .int .i64 v4, .int .i64 v5, .bool v6] 69 (0, 0))) ∧ Hid (wx.heap[HB]? = some (.cells #[.bool h0, .bool h1, .bool h2, .bool h3, .bool h4, .bool h5] 4 (0, 0))))
  case first =>
   cases h1
   ·
    obtain ⟨R0, R1, R2, R3, R4, R5, R6, Rf, Rz⟩ := box7_ HR_c0.out
    obtain ⟨E0, E1, E2, E3, E4, E5, E6, Ef, Ez⟩ := box7_ HE_c0.out
    obtain ⟨H0, H1, H2, H3, H4, H5, Hf, Hz⟩ := box6_ HH_c0.out
    go_wp2_with fail
    go_meet
    case rel => exact ⟨_, _, _, _, _, _, _, HC_c0, HG_c0, HR_c0, HE_c0, HH_c0⟩
   ·
    obtain ⟨R0, R1, R2, R3, R4, R5, R6, Rf, Rz⟩ := box7_ HR_c0.out
    obtain ⟨E0, E1, E2, E3, E4, E5, E6, Ef, Ez⟩ := box7_ HE_c0.out
    obtain ⟨H0, H1, H2, H3, H4, H5, Hf, Hz⟩ := box6_ HH_c0.out
    go_wp2_with fail
    refine (zxc g 4 _ HC_c0.out (by first | decide | omega) (by first | decide | omega)).mono ?_
    rintro e' w5 ⟨y, y1, y2, rfl, hcn, hg⟩
    have HC_w5 := Lib.hid hcn
    have HG_w5 := Lib.hid (zqn HG_c0.out hg)
    have HR_w5 := Lib.hid (zqg hg (zxi (by have := HLR.out; omega)) HR_c0.out)
    have HE_w5 := Lib.hid (zqg hg (zxi (by have := HLE.out; omega)) HE_c0.out)
    have HH_w5 := Lib.hid (zqg hg (zxi (by have := HLH.out; omega)) HH_c0.out)
    clear hcn hg
    clear R0 R1 R2 R3 R4 R5 R6 E0 E1 E2 E3 E4 E5 E6 H0 H1 H2 H3 H4 H5 Rf Ef Hf Rz Ez Hz
    obtain ⟨R0, R1, R2, R3, R4, R5, R6, Rf, Rz⟩ := box7_ HR_w5.out
    obtain ⟨E0, E1, E2, E3, E4, E5, E6, Ef, Ez⟩ := box7_ HE_w5.out
    obtain ⟨H0, H1, H2, H3, H4, H5, Hf, Hz⟩ := box6_ HH_w5.out
    go_wp2_with fail
    go_meet
    case rel => exact ⟨_, _, _, _, _, _, _, Lib.hid ((HC_w5.out).set (by have := HLE.out; omega)), Lib.hid (zqd (HG_w5.out) HLE.out _ _), Lib.hid (zqb (by first | exact HNRE.out | exact fun e9 => HNER.out e9.symm) (HR_w5.out)), Lib.hid (zqa (HE_w5.out)), Lib.hid (zqb (by first | exact HNHE.out | exact fun e9 => HNEH.out e9.symm) (HH_w5.out))⟩
  case rest =>
   obtain ⟨v0, v1, v2, v3, v4, v5, v6, HC_wc, HG_wc, HR_wc, HE_wc, HH_wc⟩ := hcut
   obtain ⟨c1, hcw⟩ : ∃ v : World, v = wc := ⟨_, rfl⟩
   subst hcw
   clear HC_c0 HG_c0 HR_c0 HE_c0 HH_c0
   have HC_c1 := HC_wc
   have HG_c1 := HG_wc
   have HR_c1 := HR_wc
   have HE_c1 := HE_wc
   have HH_c1 := HH_wc
   clear HC_wc HG_wc HR_wc HE_wc HH_wc
   obtain ⟨R0, R1, R2, R3, R4, R5, R6, Rf, Rz⟩ := box7_ HR_c1.out
   obtain ⟨E0, E1, E2, E3, E4, E5, E6, Ef, Ez⟩ := box7_ HE_c1.out
   obtain ⟨H0, H1, H2, H3, H4, H5, Hf, Hz⟩ := box6_ HH_c1.out
   go_upto_if 29 with fail
   clear R0 R1 R2 R3 R4 R5 R6 E0 E1 E2 E3 E4 E5 E6 H0 H1 H2 H3 H4 H5 Rf Ef Hf Rz Ez Hz
   go_cut [] from 30 to 37 (fun wx => ∃ (v0 v1 v2 v3 v4 v5 : Int) (v6 : Bool), Hid (Crs wx g) ∧ Hid (w.grownBy wx (some g)) ∧ Hid (wx.heap[RB]? = some (.cells #[.int .i64 0, .int .i64 0, .int .i64 0, .int .i64 0, .int .i64 0, .int .i64 0, .bool false] 69 (0, 0))) ∧ Hid (wx.heap[EB]? = some (.cells #[.int .i64 v0, .int .i64 v1, .int .i64 v2, .int .i64 v3, .int .i64 v4, .int .i64 v5, .bool v6] 69 (0, 0))) ∧ Hid (wx.heap[HB]? = some (.cells #[.bool h0, .bool h1, .bool h2, .bool h3, .bool h4, .bool h5] 4 (0, 0))))
   case first =>
    cases h2
    ·
     obtain ⟨R0, R1, R2, R3, R4, R5, R6, Rf, Rz⟩ := box7_ HR_c1.out
     obtain ⟨E0, E1, E2, E3, E4, E5, E6, Ef, Ez⟩ := box7_ HE_c1.out
     obtain ⟨H0, H1, H2, H3, H4, H5, Hf, Hz⟩ := box6_ HH_c1.out
     go_wp2_with fail
     go_meet
     case rel => exact ⟨_, _, _, _, _, _, _, HC_c1, HG_c1, HR_c1, HE_c1, HH_c1⟩
    ·
     obtain ⟨R0, R1, R2, R3, R4, R5, R6, Rf, Rz⟩ := box7_ HR_c1.out
     obtain ⟨E0, E1, E2, E3, E4, E5, E6, Ef, Ez⟩ := box7_ HE_c1.out
     obtain ⟨H0, H1, H2, H3, H4, H5, Hf, Hz⟩ := box6_ HH_c1.out
     go_wp2_with fail
     refine zje (fun w' => w'.cell? ⟨EB, 0, none⟩ = some (.int .i64 v0) ∧ w'.cell? ⟨EB, 1, none⟩ = some (.int .i64 v1) ∧ w'.cell? ⟨EB, 2, none⟩ = some (.int .i64 v2) ∧ w'.cell? ⟨EB, 3, none⟩ = some (.int .i64 v3) ∧ w'.cell? ⟨EB, 4, none⟩ = some (.int .i64 v4) ∧ w'.cell? ⟨EB, 5, none⟩ = some (.int .i64 v5) ∧ w'.cell? ⟨EB, 6, none⟩ = some (.bool v6)) [(0, some 30, false, none), (1, some 31, false, none), (2, some 32, false, none), (3, some 33, true, none), (4, some 34, false, none), (5, some 35, false, none), (6, some 36, false, none), (7, some 37, false, none)] rfl (by kernel_rfl) (by kernel_rfl) (by kernel_rfl) (by kernel_rfl) (by kernel_rfl) (by kernel_rfl) ⟨E0, E1, E2, E3, E4, E5, E6⟩ (fun hHeld => ?_)
     obtain ⟨w5, hwd⟩ : ∃ wd, c1.drew = wd := ⟨_, rfl⟩
     have HC_w5 : Hid (Crs w5 g) := Lib.hid (by rw [← hwd]; exact HC_c1.out)
     have HG_w5 : Hid (w.grownBy w5 (some g)) := Lib.hid (by rw [← hwd]; exact zhf HG_c1.out)
     have HR_w5 : Hid (w5.heap[RB]? = some (.cells #[.int .i64 0, .int .i64 0, .int .i64 0, .int .i64 0, .int .i64 0, .int .i64 0, .bool false] 69 (0, 0))) := Lib.hid (by rw [← hwd]; exact zqm HR_c1.out)
     have HE_w5 : Hid (w5.heap[EB]? = some (.cells #[.int .i64 v0, .int .i64 v1, .int .i64 v2, .int .i64 v3, .int .i64 v4, .int .i64 v5, .bool v6] 69 (0, 0))) := Lib.hid (by rw [← hwd]; exact zqm HE_c1.out)
     have HH_w5 : Hid (w5.heap[HB]? = some (.cells #[.bool h0, .bool h1, .bool true, .bool h3, .bool h4, .bool h5] 4 (0, 0))) := Lib.hid (by rw [← hwd]; exact zqm HH_c1.out)
     clear R0 R1 R2 R3 R4 R5 R6 E0 E1 E2 E3 E4 E5 E6 H0 H1 H2 H3 H4 H5 Rf Ef Hf Rz Ez Hz
     rw [hwd] at hHeld ⊢
     clear hwd
     obtain ⟨R0, R1, R2, R3, R4, R5, R6, Rf, Rz⟩ := box7_ HR_w5.out
     obtain ⟨E0, E1, E2, E3, E4, E5, E6, Ef, Ez⟩ := box7_ HE_w5.out
     obtain ⟨H0, H1, H2, H3, H4, H5, Hf, Hz⟩ := box6_ HH_w5.out
     refine tk_ ?_
     refine Sq.step rfl (by rfl) (fun K hK => ?_)
     go_simp
     refine (zxc g 3 _ HC_w5.out (by first | decide | omega) (by first | decide | omega)).mono ?_
     rintro e' w6 ⟨y, y1, y2, rfl, hcn, hg⟩
     have HC_w6 := Lib.hid hcn
     have HG_w6 := Lib.hid (zqn HG_w5.out hg)
     have HR_w6 := Lib.hid (zqg hg (zxi (by have := HLR.out; omega)) HR_w5.out)
     have HE_w6 := Lib.hid (zqg hg (zxi (by have := HLE.out; omega)) HE_w5.out)
     have HH_w6 := Lib.hid (zqg hg (zxi (by have := HLH.out; omega)) HH_w5.out)
     clear hcn hg
     clear R0 R1 R2 R3 R4 R5 R6 E0 E1 E2 E3 E4 E5 E6 H0 H1 H2 H3 H4 H5 Rf Ef Hf Rz Ez Hz
     obtain ⟨R0, R1, R2, R3, R4, R5, R6, Rf, Rz⟩ := box7_ HR_w6.out
     obtain ⟨E0, E1, E2, E3, E4, E5, E6, Ef, Ez⟩ := box7_ HE_w6.out
     obtain ⟨H0, H1, H2, H3, H4, H5, Hf, Hz⟩ := box6_ HH_w6.out
     go_simp
     refine hK.out _ _ ⟨E0, E1, E2, E3, E4, E5, E6⟩ (fun hHeld => ?_)
     clear hK K
     refine tk_ ?_
     refine Sq.done ?_
     intro KK hKK
     go_simp
     refine hKK _ _ (NoPanic.normal ?_)
     go_wp2_with fail
     go_meet
     case rel => exact ⟨_, _, _, _, _, _, _, Lib.hid ((HC_w6.out).set (by have := HLE.out; omega)), Lib.hid (zqd (HG_w6.out) HLE.out _ _), Lib.hid (zqb (by first | exact HNRE.out | exact fun e9 => HNER.out e9.symm) (HR_w6.out)), Lib.hid (zqa (HE_w6.out)), Lib.hid (zqb (by first | exact HNHE.out | exact fun e9 => HNEH.out e9.symm) (HH_w6.out))⟩
   case rest =>
    obtain ⟨v0, v1, v2, v3, v4, v5, v6, HC_wc, HG_wc, HR_wc, HE_wc, HH_wc⟩ := hcut
    obtain ⟨c2, hcw⟩ : ∃ v : World, v = wc := ⟨_, rfl⟩
    subst hcw
    clear HC_c1 HG_c1 HR_c1 HE_c1 HH_c1
    have HC_c2 := HC_wc
    have HG_c2 := HG_wc
    have HR_c2 := HR_wc
    have HE_c2 := HE_wc
    have HH_c2 := HH_wc
    clear HC_wc HG_wc HR_wc HE_wc HH_wc
    obtain ⟨R0, R1, R2, R3, R4, R5, R6, Rf, Rz⟩ := box7_ HR_c2.out
    obtain ⟨E0, E1, E2, E3, E4, E5, E6, Ef, Ez⟩ := box7_ HE_c2.out
    obtain ⟨H0, H1, H2, H3, H4, H5, Hf, Hz⟩ := box6_ HH_c2.out
    go_upto_if 40 with fail
    clear R0 R1 R2 R3 R4 R5 R6 E0 E1 E2 E3 E4 E5 E6 H0 H1 H2 H3 H4 H5 Rf Ef Hf Rz Ez Hz
    go_cut [] from 41 to 45 (fun wx => ∃ (v0 v1 v2 v3 v4 v5 : Int) (v6 : Bool), Hid (Crs wx g) ∧ Hid (w.grownBy wx (some g)) ∧ Hid (wx.heap[RB]? = some (.cells #[.int .i64 0, .int .i64 0, .int .i64 0, .int .i64 0, .int .i64 0, .int .i64 0, .bool false] 69 (0, 0))) ∧ Hid (wx.heap[EB]? = some (.cells #[.int .i64 v0, .int .i64 v1, .int .i64 v2, .int .i64 v3, .int .i64 v4, .int .i64 v5, .bool v6] 69 (0, 0))) ∧ Hid (wx.heap[HB]? = some (.cells #[.bool h0, .bool h1, .bool h2, .bool h3, .bool h4, .bool h5] 4 (0, 0))))
    case first =>
     cases h3
     ·
      obtain ⟨R0, R1, R2, R3, R4, R5, R6, Rf, Rz⟩ := box7_ HR_c2.out
      obtain ⟨E0, E1, E2, E3, E4, E5, E6, Ef, Ez⟩ := box7_ HE_c2.out
      obtain ⟨H0, H1, H2, H3, H4, H5, Hf, Hz⟩ := box6_ HH_c2.out
      go_wp2_with fail
      go_meet
      case rel => exact ⟨_, _, _, _, _, _, _, HC_c2, HG_c2, HR_c2, HE_c2, HH_c2⟩
     ·
      obtain ⟨R0, R1, R2, R3, R4, R5, R6, Rf, Rz⟩ := box7_ HR_c2.out
      obtain ⟨E0, E1, E2, E3, E4, E5, E6, Ef, Ez⟩ := box7_ HE_c2.out
      obtain ⟨H0, H1, H2, H3, H4, H5, Hf, Hz⟩ := box6_ HH_c2.out
      go_wp2_with fail
      refine (zxc g 400 _ HC_c2.out (by first | decide | omega) (by first | decide | omega)).mono ?_
      rintro e' w5 ⟨y, y1, y2, rfl, hcn, hg⟩
      have HC_w5 := Lib.hid hcn
      have HG_w5 := Lib.hid (zqn HG_c2.out hg)
      have HR_w5 := Lib.hid (zqg hg (zxi (by have := HLR.out; omega)) HR_c2.out)
      have HE_w5 := Lib.hid (zqg hg (zxi (by have := HLE.out; omega)) HE_c2.out)
      have HH_w5 := Lib.hid (zqg hg (zxi (by have := HLH.out; omega)) HH_c2.out)
      clear hcn hg
      clear R0 R1 R2 R3 R4 R5 R6 E0 E1 E2 E3 E4 E5 E6 H0 H1 H2 H3 H4 H5 Rf Ef Hf Rz Ez Hz
      obtain ⟨R0, R1, R2, R3, R4, R5, R6, Rf, Rz⟩ := box7_ HR_w5.out
      obtain ⟨E0, E1, E2, E3, E4, E5, E6, Ef, Ez⟩ := box7_ HE_w5.out
      obtain ⟨H0, H1, H2, H3, H4, H5, Hf, Hz⟩ := box6_ HH_w5.out
      go_wp2_with fail
      go_meet
      case rel => exact ⟨_, _, _, _, _, _, _, Lib.hid ((HC_w5.out).set (by have := HLE.out; omega)), Lib.hid (zqd (HG_w5.out) HLE.out _ _), Lib.hid (zqb (by first | exact HNRE.out | exact fun e9 => HNER.out e9.symm) (HR_w5.out)), Lib.hid (zqa (HE_w5.out)), Lib.hid (zqb (by first | exact HNHE.out | exact fun e9 => HNEH.out e9.symm) (HH_w5.out))⟩
    case rest =>
     obtain ⟨v0, v1, v2, v3, v4, v5, v6, HC_wc, HG_wc, HR_wc, HE_wc, HH_wc⟩ := hcut
     obtain ⟨c3, hcw⟩ : ∃ v : World, v = wc := ⟨_, rfl⟩
     subst hcw
     clear HC_c2 HG_c2 HR_c2 HE_c2 HH_c2
     have HC_c3 := HC_wc
     have HG_c3 := HG_wc
     have HR_c3 := HR_wc
     have HE_c3 := HE_wc
     have HH_c3 := HH_wc
     clear HC_wc HG_wc HR_wc HE_wc HH_wc
     obtain ⟨R0, R1, R2, R3, R4, R5, R6, Rf, Rz⟩ := box7_ HR_c3.out
     obtain ⟨E0, E1, E2, E3, E4, E5, E6, Ef, Ez⟩ := box7_ HE_c3.out
     obtain ⟨H0, H1, H2, H3, H4, H5, Hf, Hz⟩ := box6_ HH_c3.out
     go_upto_if 48 with fail
     clear R0 R1 R2 R3 R4 R5 R6 E0 E1 E2 E3 E4 E5 E6 H0 H1 H2 H3 H4 H5 Rf Ef Hf Rz Ez Hz
     go_cut [] from 49 to 52 (fun wx => ∃ (v0 v1 v2 v3 v4 v5 : Int) (v6 : Bool), Hid (Crs wx g) ∧ Hid (w.grownBy wx (some g)) ∧ Hid (wx.heap[RB]? = some (.cells #[.int .i64 0, .int .i64 0, .int .i64 0, .int .i64 0, .int .i64 0, .int .i64 0, .bool false] 69 (0, 0))) ∧ Hid (wx.heap[EB]? = some (.cells #[.int .i64 v0, .int .i64 v1, .int .i64 v2, .int .i64 v3, .int .i64 v4, .int .i64 v5, .bool v6] 69 (0, 0))) ∧ Hid (wx.heap[HB]? = some (.cells #[.bool h0, .bool h1, .bool h2, .bool h3, .bool h4, .bool h5] 4 (0, 0))))
     case first =>
      cases h4
      ·
       obtain ⟨R0, R1, R2, R3, R4, R5, R6, Rf, Rz⟩ := box7_ HR_c3.out
       obtain ⟨E0, E1, E2, E3, E4, E5, E6, Ef, Ez⟩ := box7_ HE_c3.out
       obtain ⟨H0, H1, H2, H3, H4, H5, Hf, Hz⟩ := box6_ HH_c3.out
       go_wp2_with fail
       go_meet
       case rel => exact ⟨_, _, _, _, _, _, _, HC_c3, HG_c3, HR_c3, HE_c3, HH_c3⟩
      ·
       obtain ⟨R0, R1, R2, R3, R4, R5, R6, Rf, Rz⟩ := box7_ HR_c3.out
       obtain ⟨E0, E1, E2, E3, E4, E5, E6, Ef, Ez⟩ := box7_ HE_c3.out
       obtain ⟨H0, H1, H2, H3, H4, H5, Hf, Hz⟩ := box6_ HH_c3.out
       go_wp2_with fail
       refine (zxc g 300 _ HC_c3.out (by first | decide | omega) (by first | decide | omega)).mono ?_
       rintro e' w5 ⟨y, y1, y2, rfl, hcn, hg⟩
       have HC_w5 := Lib.hid hcn
       have HG_w5 := Lib.hid (zqn HG_c3.out hg)
       have HR_w5 := Lib.hid (zqg hg (zxi (by have := HLR.out; omega)) HR_c3.out)
       have HE_w5 := Lib.hid (zqg hg (zxi (by have := HLE.out; omega)) HE_c3.out)
       have HH_w5 := Lib.hid (zqg hg (zxi (by have := HLH.out; omega)) HH_c3.out)
       clear hcn hg
       clear R0 R1 R2 R3 R4 R5 R6 E0 E1 E2 E3 E4 E5 E6 H0 H1 H2 H3 H4 H5 Rf Ef Hf Rz Ez Hz
       obtain ⟨R0, R1, R2, R3, R4, R5, R6, Rf, Rz⟩ := box7_ HR_w5.out
       obtain ⟨E0, E1, E2, E3, E4, E5, E6, Ef, Ez⟩ := box7_ HE_w5.out
       obtain ⟨H0, H1, H2, H3, H4, H5, Hf, Hz⟩ := box6_ HH_w5.out
       go_wp2_with fail
       go_meet
       case rel => exact ⟨_, _, _, _, _, _, _, Lib.hid ((HC_w5.out).set (by have := HLE.out; omega)), Lib.hid (zqd (HG_w5.out) HLE.out _ _), Lib.hid (zqb (by first | exact HNRE.out | exact fun e9 => HNER.out e9.symm) (HR_w5.out)), Lib.hid (zqa (HE_w5.out)), Lib.hid (zqb (by first | exact HNHE.out | exact fun e9 => HNEH.out e9.symm) (HH_w5.out))⟩
     case rest =>
      obtain ⟨v0, v1, v2, v3, v4, v5, v6, HC_wc, HG_wc, HR_wc, HE_wc, HH_wc⟩ := hcut
      obtain ⟨c4, hcw⟩ : ∃ v : World, v = wc := ⟨_, rfl⟩
      subst hcw
      clear HC_c3 HG_c3 HR_c3 HE_c3 HH_c3
      have HC_c4 := HC_wc
      have HG_c4 := HG_wc
      have HR_c4 := HR_wc
      have HE_c4 := HE_wc
      have HH_c4 := HH_wc
      clear HC_wc HG_wc HR_wc HE_wc HH_wc
      obtain ⟨R0, R1, R2, R3, R4, R5, R6, Rf, Rz⟩ := box7_ HR_c4.out
      obtain ⟨E0, E1, E2, E3, E4, E5, E6, Ef, Ez⟩ := box7_ HE_c4.out
      obtain ⟨H0, H1, H2, H3, H4, H5, Hf, Hz⟩ := box6_ HH_c4.out
      cases h5
      ·
       go_wp2_with fail
       refine nm_ ?_
       intro w5 hw
       have HC_w5 : Hid (Crs w5 g) := Lib.hid (by rw [hw]; exact (HC_c4.out).set (by have := HLE.out; omega))
       have HG_w5 : Hid (w.grownBy w5 (some g)) := Lib.hid (by rw [hw]; exact zqd (HG_c4.out) HLE.out _ _)
       have HR_w5 : Hid (w5.heap[RB]? = some (.cells #[.int .i64 0, .int .i64 0, .int .i64 0, .int .i64 0, .int .i64 0, .int .i64 0, .bool false] 69 (0, 0))) := Lib.hid (by rw [hw]; exact zqb (by first | exact HNRE.out | exact fun e9 => HNER.out e9.symm) (HR_c4.out))
       have HE_w5 : Hid (w5.heap[EB]? = some (.cells #[.int .i64 v0, .int .i64 v1, .int .i64 v2, .int .i64 v3, .int .i64 v4, .int .i64 v5, .bool false] 69 (0, 0))) := Lib.hid (by rw [hw]; exact zqa (HE_c4.out))
       have HH_w5 : Hid (w5.heap[HB]? = some (.cells #[.bool h0, .bool h1, .bool h2, .bool h3, .bool h4, .bool false] 4 (0, 0))) := Lib.hid (by rw [hw]; exact zqb (by first | exact HNHE.out | exact fun e9 => HNEH.out e9.symm) (HH_c4.out))
       clear hw
       clear R0 R1 R2 R3 R4 R5 R6 E0 E1 E2 E3 E4 E5 E6 H0 H1 H2 H3 H4 H5 Rf Ef Hf Rz Ez Hz
       obtain ⟨R0, R1, R2, R3, R4, R5, R6, Rf, Rz⟩ := box7_ HR_w5.out
       obtain ⟨E0, E1, E2, E3, E4, E5, E6, Ef, Ez⟩ := box7_ HE_w5.out
       obtain ⟨H0, H1, H2, H3, H4, H5, Hf, Hz⟩ := box6_ HH_w5.out
       refine (zxc g 14 _ HC_w5.out (by first | decide | omega) (by first | decide | omega)).mono ?_
       rintro e' w6 ⟨q, q1, q2, rfl, hcn, hg⟩
       have HC_w6 := Lib.hid hcn
       have HG_w6 := Lib.hid (zqn HG_w5.out hg)
       have HR_w6 := Lib.hid (zqg hg (zxi (by have := HLR.out; omega)) HR_w5.out)
       have HE_w6 := Lib.hid (zqg hg (zxi (by have := HLE.out; omega)) HE_w5.out)
       have HH_w6 := Lib.hid (zqg hg (zxi (by have := HLH.out; omega)) HH_w5.out)
       clear hcn hg
       clear R0 R1 R2 R3 R4 R5 R6 E0 E1 E2 E3 E4 E5 E6 H0 H1 H2 H3 H4 H5 Rf Ef Hf Rz Ez Hz
       obtain ⟨R0, R1, R2, R3, R4, R5, R6, Rf, Rz⟩ := box7_ HR_w6.out
       obtain ⟨E0, E1, E2, E3, E4, E5, E6, Ef, Ez⟩ := box7_ HE_w6.out
       obtain ⟨H0, H1, H2, H3, H4, H5, Hf, Hz⟩ := box6_ HH_w6.out
       cases tq : (q == 0)
       ·
        go_wp2_with fail
        refine nm_ ?_
        intro w7 hw
        have HC_w7 : Hid (Crs w7 g) := Lib.hid (by rw [hw]; exact (((((((HC_w6.out).set (by have := HLR.out; omega)).set (by have := HLR.out; omega)).set (by have := HLR.out; omega)).set (by have := HLR.out; omega)).set (by have := HLR.out; omega)).set (by have := HLR.out; omega)).set (by have := HLR.out; omega))
        have HG_w7 : Hid (w.grownBy w7 (some g)) := Lib.hid (by rw [hw]; exact zqd (zqd (zqd (zqd (zqd (zqd (zqd (HG_w6.out) HLR.out _ _) HLR.out _ _) HLR.out _ _) HLR.out _ _) HLR.out _ _) HLR.out _ _) HLR.out _ _)
        have HR_w7 : Hid (w7.heap[RB]? = some (.cells #[.int .i64 v0, .int .i64 v1, .int .i64 v2, .int .i64 v3, .int .i64 v4, .int .i64 v5, .bool false] 69 (0, 0))) := Lib.hid (by rw [hw]; exact zqa (zqa (zqa (zqa (zqa (zqa (zqa (HR_w6.out))))))))
        have HE_w7 : Hid (w7.heap[EB]? = some (.cells #[.int .i64 v0, .int .i64 v1, .int .i64 v2, .int .i64 v3, .int .i64 v4, .int .i64 v5, .bool false] 69 (0, 0))) := Lib.hid (by rw [hw]; exact zqb (by first | exact HNER.out | exact fun e9 => HNRE.out e9.symm) (zqb (by first | exact HNER.out | exact fun e9 => HNRE.out e9.symm) (zqb (by first | exact HNER.out | exact fun e9 => HNRE.out e9.symm) (zqb (by first | exact HNER.out | exact fun e9 => HNRE.out e9.symm) (zqb (by first | exact HNER.out | exact fun e9 => HNRE.out e9.symm) (zqb (by first | exact HNER.out | exact fun e9 => HNRE.out e9.symm) (zqb (by first | exact HNER.out | exact fun e9 => HNRE.out e9.symm) (HE_w6.out))))))))
        have HH_w7 : Hid (w7.heap[HB]? = some (.cells #[.bool h0, .bool h1, .bool h2, .bool h3, .bool h4, .bool false] 4 (0, 0))) := Lib.hid (by rw [hw]; exact zqb (by first | exact HNHR.out | exact fun e9 => HNRH.out e9.symm) (zqb (by first | exact HNHR.out | exact fun e9 => HNRH.out e9.symm) (zqb (by first | exact HNHR.out | exact fun e9 => HNRH.out e9.symm) (zqb (by first | exact HNHR.out | exact fun e9 => HNRH.out e9.symm) (zqb (by first | exact HNHR.out | exact fun e9 => HNRH.out e9.symm) (zqb (by first | exact HNHR.out | exact fun e9 => HNRH.out e9.symm) (zqb (by first | exact HNHR.out | exact fun e9 => HNRH.out e9.symm) (HH_w6.out))))))))
        clear hw
        clear R0 R1 R2 R3 R4 R5 R6 E0 E1 E2 E3 E4 E5 E6 H0 H1 H2 H3 H4 H5 Rf Ef Hf Rz Ez Hz
        obtain ⟨R0, R1, R2, R3, R4, R5, R6, Rf, Rz⟩ := box7_ HR_w7.out
        obtain ⟨E0, E1, E2, E3, E4, E5, E6, Ef, Ez⟩ := box7_ HE_w7.out
        obtain ⟨H0, H1, H2, H3, H4, H5, Hf, Hz⟩ := box6_ HH_w7.out
        refine bodyPost_ret (v := .agg #[.int .i64 v0, .int .i64 v1, .int .i64 v2, .int .i64 v3, .int .i64 v4, .int .i64 v5, .bool false]) (by simp [results, Tryz.results65, go_sem, *]) rfl ?_
        exact ⟨⟨v0, v1, v2, v3, v4, v5, false⟩, rfl, HC_w7.out, HG_w7.out⟩
       ·
        cases h3
        ·
         go_wp2_with fail
         refine nm_ ?_
         intro w7 hw
         have HC_w7 : Hid (Crs w7 g) := Lib.hid (by rw [hw]; exact (((((((HC_w6.out).set (by have := HLR.out; omega)).set (by have := HLR.out; omega)).set (by have := HLR.out; omega)).set (by have := HLR.out; omega)).set (by have := HLR.out; omega)).set (by have := HLR.out; omega)).set (by have := HLR.out; omega))
         have HG_w7 : Hid (w.grownBy w7 (some g)) := Lib.hid (by rw [hw]; exact zqd (zqd (zqd (zqd (zqd (zqd (zqd (HG_w6.out) HLR.out _ _) HLR.out _ _) HLR.out _ _) HLR.out _ _) HLR.out _ _) HLR.out _ _) HLR.out _ _)
         have HR_w7 : Hid (w7.heap[RB]? = some (.cells #[.int .i64 v0, .int .i64 v1, .int .i64 v2, .int .i64 v3, .int .i64 v4, .int .i64 v5, .bool false] 69 (0, 0))) := Lib.hid (by rw [hw]; exact zqa (zqa (zqa (zqa (zqa (zqa (zqa (HR_w6.out))))))))
         have HE_w7 : Hid (w7.heap[EB]? = some (.cells #[.int .i64 v0, .int .i64 v1, .int .i64 v2, .int .i64 v3, .int .i64 v4, .int .i64 v5, .bool false] 69 (0, 0))) := Lib.hid (by rw [hw]; exact zqb (by first | exact HNER.out | exact fun e9 => HNRE.out e9.symm) (zqb (by first | exact HNER.out | exact fun e9 => HNRE.out e9.symm) (zqb (by first | exact HNER.out | exact fun e9 => HNRE.out e9.symm) (zqb (by first | exact HNER.out | exact fun e9 => HNRE.out e9.symm) (zqb (by first | exact HNER.out | exact fun e9 => HNRE.out e9.symm) (zqb (by first | exact HNER.out | exact fun e9 => HNRE.out e9.symm) (zqb (by first | exact HNER.out | exact fun e9 => HNRE.out e9.symm) (HE_w6.out))))))))
         have HH_w7 : Hid (w7.heap[HB]? = some (.cells #[.bool h0, .bool h1, .bool h2, .bool false, .bool h4, .bool false] 4 (0, 0))) := Lib.hid (by rw [hw]; exact zqb (by first | exact HNHR.out | exact fun e9 => HNRH.out e9.symm) (zqb (by first | exact HNHR.out | exact fun e9 => HNRH.out e9.symm) (zqb (by first | exact HNHR.out | exact fun e9 => HNRH.out e9.symm) (zqb (by first | exact HNHR.out | exact fun e9 => HNRH.out e9.symm) (zqb (by first | exact HNHR.out | exact fun e9 => HNRH.out e9.symm) (zqb (by first | exact HNHR.out | exact fun e9 => HNRH.out e9.symm) (zqb (by first | exact HNHR.out | exact fun e9 => HNRH.out e9.symm) (HH_w6.out))))))))
         clear hw
         clear R0 R1 R2 R3 R4 R5 R6 E0 E1 E2 E3 E4 E5 E6 H0 H1 H2 H3 H4 H5 Rf Ef Hf Rz Ez Hz
         obtain ⟨R0, R1, R2, R3, R4, R5, R6, Rf, Rz⟩ := box7_ HR_w7.out
         obtain ⟨E0, E1, E2, E3, E4, E5, E6, Ef, Ez⟩ := box7_ HE_w7.out
         obtain ⟨H0, H1, H2, H3, H4, H5, Hf, Hz⟩ := box6_ HH_w7.out
         refine bodyPost_ret (v := .agg #[.int .i64 v0, .int .i64 v1, .int .i64 v2, .int .i64 v3, .int .i64 v4, .int .i64 v5, .bool false]) (by simp [results, Tryz.results65, go_sem, *]) rfl ?_
         exact ⟨⟨v0, v1, v2, v3, v4, v5, false⟩, rfl, HC_w7.out, HG_w7.out⟩
        ·
         go_wp2_with fail
         refine (zxc g 2 _ HC_w6.out (by first | decide | omega) (by first | decide | omega)).mono ?_
         rintro e' w7 ⟨r, r1, r2, rfl, hcn, hg⟩
         have HC_w7 := Lib.hid hcn
         have HG_w7 := Lib.hid (zqn HG_w6.out hg)
         have HR_w7 := Lib.hid (zqg hg (zxi (by have := HLR.out; omega)) HR_w6.out)
         have HE_w7 := Lib.hid (zqg hg (zxi (by have := HLE.out; omega)) HE_w6.out)
         have HH_w7 := Lib.hid (zqg hg (zxi (by have := HLH.out; omega)) HH_w6.out)
         clear hcn hg
         clear R0 R1 R2 R3 R4 R5 R6 E0 E1 E2 E3 E4 E5 E6 H0 H1 H2 H3 H4 H5 Rf Ef Hf Rz Ez Hz
         obtain ⟨R0, R1, R2, R3, R4, R5, R6, Rf, Rz⟩ := box7_ HR_w7.out
         obtain ⟨E0, E1, E2, E3, E4, E5, E6, Ef, Ez⟩ := box7_ HE_w7.out
         obtain ⟨H0, H1, H2, H3, H4, H5, Hf, Hz⟩ := box6_ HH_w7.out
         go_upto_region 17 with fail
         refine nm_ ?_
         intro w8 hw
         have HC_w8 : Hid (Crs w8 g) := Lib.hid (by rw [hw]; exact (HC_w7.out).set (by have := HLE.out; omega))
         have HG_w8 : Hid (w.grownBy w8 (some g)) := Lib.hid (by rw [hw]; exact zqd (HG_w7.out) HLE.out _ _)
         have HR_w8 : Hid (w8.heap[RB]? = some (.cells #[.int .i64 0, .int .i64 0, .int .i64 0, .int .i64 0, .int .i64 0, .int .i64 0, .bool false] 69 (0, 0))) := Lib.hid (by rw [hw]; exact zqb (by first | exact HNRE.out | exact fun e9 => HNER.out e9.symm) (HR_w7.out))
         have HE_w8 : Hid (w8.heap[EB]? = some (.cells #[.int .i64 v0, .int .i64 v1, .int .i64 v2, .int .i64 v3, .int .i64 (1125899906842624 - r), .int .i64 v5, .bool false] 69 (0, 0))) := Lib.hid (by rw [hw]; exact zqa (HE_w7.out))
         have HH_w8 : Hid (w8.heap[HB]? = some (.cells #[.bool h0, .bool h1, .bool h2, .bool true, .bool h4, .bool false] 4 (0, 0))) := Lib.hid (by rw [hw]; exact zqb (by first | exact HNHE.out | exact fun e9 => HNEH.out e9.symm) (HH_w7.out))
         clear hw
         clear R0 R1 R2 R3 R4 R5 R6 E0 E1 E2 E3 E4 E5 E6 H0 H1 H2 H3 H4 H5 Rf Ef Hf Rz Ez Hz
         obtain ⟨R0, R1, R2, R3, R4, R5, R6, Rf, Rz⟩ := box7_ HR_w8.out
         obtain ⟨E0, E1, E2, E3, E4, E5, E6, Ef, Ez⟩ := box7_ HE_w8.out
         obtain ⟨H0, H1, H2, H3, H4, H5, Hf, Hz⟩ := box6_ HH_w8.out
         go_wp2_with fail
         refine nm_ ?_
         intro w9 hw
         have HC_w9 : Hid (Crs w9 g) := Lib.hid (by rw [hw]; exact (((((((HC_w8.out).set (by have := HLR.out; omega)).set (by have := HLR.out; omega)).set (by have := HLR.out; omega)).set (by have := HLR.out; omega)).set (by have := HLR.out; omega)).set (by have := HLR.out; omega)).set (by have := HLR.out; omega))
         have HG_w9 : Hid (w.grownBy w9 (some g)) := Lib.hid (by rw [hw]; exact zqd (zqd (zqd (zqd (zqd (zqd (zqd (HG_w8.out) HLR.out _ _) HLR.out _ _) HLR.out _ _) HLR.out _ _) HLR.out _ _) HLR.out _ _) HLR.out _ _)
         have HR_w9 : Hid (w9.heap[RB]? = some (.cells #[.int .i64 v0, .int .i64 v1, .int .i64 v2, .int .i64 v3, .int .i64 (1125899906842624 - r), .int .i64 v5, .bool false] 69 (0, 0))) := Lib.hid (by rw [hw]; exact zqa (zqa (zqa (zqa (zqa (zqa (zqa (HR_w8.out))))))))
         have HE_w9 : Hid (w9.heap[EB]? = some (.cells #[.int .i64 v0, .int .i64 v1, .int .i64 v2, .int .i64 v3, .int .i64 (1125899906842624 - r), .int .i64 v5, .bool false] 69 (0, 0))) := Lib.hid (by rw [hw]; exact zqb (by first | exact HNER.out | exact fun e9 => HNRE.out e9.symm) (zqb (by first | exact HNER.out | exact fun e9 => HNRE.out e9.symm) (zqb (by first | exact HNER.out | exact fun e9 => HNRE.out e9.symm) (zqb (by first | exact HNER.out | exact fun e9 => HNRE.out e9.symm) (zqb (by first | exact HNER.out | exact fun e9 => HNRE.out e9.symm) (zqb (by first | exact HNER.out | exact fun e9 => HNRE.out e9.symm) (zqb (by first | exact HNER.out | exact fun e9 => HNRE.out e9.symm) (HE_w8.out))))))))
         have HH_w9 : Hid (w9.heap[HB]? = some (.cells #[.bool h0, .bool h1, .bool h2, .bool true, .bool h4, .bool false] 4 (0, 0))) := Lib.hid (by rw [hw]; exact zqb (by first | exact HNHR.out | exact fun e9 => HNRH.out e9.symm) (zqb (by first | exact HNHR.out | exact fun e9 => HNRH.out e9.symm) (zqb (by first | exact HNHR.out | exact fun e9 => HNRH.out e9.symm) (zqb (by first | exact HNHR.out | exact fun e9 => HNRH.out e9.symm) (zqb (by first | exact HNHR.out | exact fun e9 => HNRH.out e9.symm) (zqb (by first | exact HNHR.out | exact fun e9 => HNRH.out e9.symm) (zqb (by first | exact HNHR.out | exact fun e9 => HNRH.out e9.symm) (HH_w8.out))))))))
         clear hw
         clear R0 R1 R2 R3 R4 R5 R6 E0 E1 E2 E3 E4 E5 E6 H0 H1 H2 H3 H4 H5 Rf Ef Hf Rz Ez Hz
         obtain ⟨R0, R1, R2, R3, R4, R5, R6, Rf, Rz⟩ := box7_ HR_w9.out
         obtain ⟨E0, E1, E2, E3, E4, E5, E6, Ef, Ez⟩ := box7_ HE_w9.out
         obtain ⟨H0, H1, H2, H3, H4, H5, Hf, Hz⟩ := box6_ HH_w9.out
         refine bodyPost_ret (v := .agg #[.int .i64 v0, .int .i64 v1, .int .i64 v2, .int .i64 v3, .int .i64 (1125899906842624 - r), .int .i64 v5, .bool false]) (by simp [results, Tryz.results65, go_sem, *]) rfl ?_
         exact ⟨⟨v0, v1, v2, v3, (1125899906842624 - r), v5, false⟩, rfl, HC_w9.out, HG_w9.out⟩
      ·
       go_wp2_with fail
       refine (zxc g 2 _ HC_c4.out (by first | decide | omega) (by first | decide | omega)).mono ?_
       rintro e' w5 ⟨z, z1, z2, rfl, hcn, hg⟩
       have HC_w5 := Lib.hid hcn
       have HG_w5 := Lib.hid (zqn HG_c4.out hg)
       have HR_w5 := Lib.hid (zqg hg (zxi (by have := HLR.out; omega)) HR_c4.out)
       have HE_w5 := Lib.hid (zqg hg (zxi (by have := HLE.out; omega)) HE_c4.out)
       have HH_w5 := Lib.hid (zqg hg (zxi (by have := HLH.out; omega)) HH_c4.out)
       clear hcn hg
       clear R0 R1 R2 R3 R4 R5 R6 E0 E1 E2 E3 E4 E5 E6 H0 H1 H2 H3 H4 H5 Rf Ef Hf Rz Ez Hz
       obtain ⟨R0, R1, R2, R3, R4, R5, R6, Rf, Rz⟩ := box7_ HR_w5.out
       obtain ⟨E0, E1, E2, E3, E4, E5, E6, Ef, Ez⟩ := box7_ HE_w5.out
       obtain ⟨H0, H1, H2, H3, H4, H5, Hf, Hz⟩ := box6_ HH_w5.out
       go_wp2_with fail
       refine nm_ ?_
       intro w6 hw
       have HC_w6 : Hid (Crs w6 g) := Lib.hid (by rw [hw]; exact (HC_w5.out).set (by have := HLE.out; omega))
       have HG_w6 : Hid (w.grownBy w6 (some g)) := Lib.hid (by rw [hw]; exact zqd (HG_w5.out) HLE.out _ _)
       have HR_w6 : Hid (w6.heap[RB]? = some (.cells #[.int .i64 0, .int .i64 0, .int .i64 0, .int .i64 0, .int .i64 0, .int .i64 0, .bool false] 69 (0, 0))) := Lib.hid (by rw [hw]; exact zqb (by first | exact HNRE.out | exact fun e9 => HNER.out e9.symm) (HR_w5.out))
       have HE_w6 : Hid (w6.heap[EB]? = some (.cells #[.int .i64 v0, .int .i64 v1, .int .i64 v2, .int .i64 v3, .int .i64 v4, .int .i64 v5, .bool (z == 0)] 69 (0, 0))) := Lib.hid (by rw [hw]; exact zqa (HE_w5.out))
       have HH_w6 : Hid (w6.heap[HB]? = some (.cells #[.bool h0, .bool h1, .bool h2, .bool h3, .bool h4, .bool true] 4 (0, 0))) := Lib.hid (by rw [hw]; exact zqb (by first | exact HNHE.out | exact fun e9 => HNEH.out e9.symm) (HH_w5.out))
       clear hw
       clear R0 R1 R2 R3 R4 R5 R6 E0 E1 E2 E3 E4 E5 E6 H0 H1 H2 H3 H4 H5 Rf Ef Hf Rz Ez Hz
       obtain ⟨R0, R1, R2, R3, R4, R5, R6, Rf, Rz⟩ := box7_ HR_w6.out
       obtain ⟨E0, E1, E2, E3, E4, E5, E6, Ef, Ez⟩ := box7_ HE_w6.out
       obtain ⟨H0, H1, H2, H3, H4, H5, Hf, Hz⟩ := box6_ HH_w6.out
       refine (zxc g 14 _ HC_w6.out (by first | decide | omega) (by first | decide | omega)).mono ?_
       rintro e' w7 ⟨q, q1, q2, rfl, hcn, hg⟩
       have HC_w7 := Lib.hid hcn
       have HG_w7 := Lib.hid (zqn HG_w6.out hg)
       have HR_w7 := Lib.hid (zqg hg (zxi (by have := HLR.out; omega)) HR_w6.out)
       have HE_w7 := Lib.hid (zqg hg (zxi (by have := HLE.out; omega)) HE_w6.out)
       have HH_w7 := Lib.hid (zqg hg (zxi (by have := HLH.out; omega)) HH_w6.out)
       clear hcn hg
       clear R0 R1 R2 R3 R4 R5 R6 E0 E1 E2 E3 E4 E5 E6 H0 H1 H2 H3 H4 H5 Rf Ef Hf Rz Ez Hz
       obtain ⟨R0, R1, R2, R3, R4, R5, R6, Rf, Rz⟩ := box7_ HR_w7.out
       obtain ⟨E0, E1, E2, E3, E4, E5, E6, Ef, Ez⟩ := box7_ HE_w7.out
       obtain ⟨H0, H1, H2, H3, H4, H5, Hf, Hz⟩ := box6_ HH_w7.out
       cases tq : (q == 0)
       ·
        go_wp2_with fail
        refine nm_ ?_
        intro w8 hw
        have HC_w8 : Hid (Crs w8 g) := Lib.hid (by rw [hw]; exact (((((((HC_w7.out).set (by have := HLR.out; omega)).set (by have := HLR.out; omega)).set (by have := HLR.out; omega)).set (by have := HLR.out; omega)).set (by have := HLR.out; omega)).set (by have := HLR.out; omega)).set (by have := HLR.out; omega))
        have HG_w8 : Hid (w.grownBy w8 (some g)) := Lib.hid (by rw [hw]; exact zqd (zqd (zqd (zqd (zqd (zqd (zqd (HG_w7.out) HLR.out _ _) HLR.out _ _) HLR.out _ _) HLR.out _ _) HLR.out _ _) HLR.out _ _) HLR.out _ _)
        have HR_w8 : Hid (w8.heap[RB]? = some (.cells #[.int .i64 v0, .int .i64 v1, .int .i64 v2, .int .i64 v3, .int .i64 v4, .int .i64 v5, .bool (z == 0)] 69 (0, 0))) := Lib.hid (by rw [hw]; exact zqa (zqa (zqa (zqa (zqa (zqa (zqa (HR_w7.out))))))))
        have HE_w8 : Hid (w8.heap[EB]? = some (.cells #[.int .i64 v0, .int .i64 v1, .int .i64 v2, .int .i64 v3, .int .i64 v4, .int .i64 v5, .bool (z == 0)] 69 (0, 0))) := Lib.hid (by rw [hw]; exact zqb (by first | exact HNER.out | exact fun e9 => HNRE.out e9.symm) (zqb (by first | exact HNER.out | exact fun e9 => HNRE.out e9.symm) (zqb (by first | exact HNER.out | exact fun e9 => HNRE.out e9.symm) (zqb (by first | exact HNER.out | exact fun e9 => HNRE.out e9.symm) (zqb (by first | exact HNER.out | exact fun e9 => HNRE.out e9.symm) (zqb (by first | exact HNER.out | exact fun e9 => HNRE.out e9.symm) (zqb (by first | exact HNER.out | exact fun e9 => HNRE.out e9.symm) (HE_w7.out))))))))
        have HH_w8 : Hid (w8.heap[HB]? = some (.cells #[.bool h0, .bool h1, .bool h2, .bool h3, .bool h4, .bool true] 4 (0, 0))) := Lib.hid (by rw [hw]; exact zqb (by first | exact HNHR.out | exact fun e9 => HNRH.out e9.symm) (zqb (by first | exact HNHR.out | exact fun e9 => HNRH.out e9.symm) (zqb (by first | exact HNHR.out | exact fun e9 => HNRH.out e9.symm) (zqb (by first | exact HNHR.out | exact fun e9 => HNRH.out e9.symm) (zqb (by first | exact HNHR.out | exact fun e9 => HNRH.out e9.symm) (zqb (by first | exact HNHR.out | exact fun e9 => HNRH.out e9.symm) (zqb (by first | exact HNHR.out | exact fun e9 => HNRH.out e9.symm) (HH_w7.out))))))))
        clear hw
        clear R0 R1 R2 R3 R4 R5 R6 E0 E1 E2 E3 E4 E5 E6 H0 H1 H2 H3 H4 H5 Rf Ef Hf Rz Ez Hz
        obtain ⟨R0, R1, R2, R3, R4, R5, R6, Rf, Rz⟩ := box7_ HR_w8.out
        obtain ⟨E0, E1, E2, E3, E4, E5, E6, Ef, Ez⟩ := box7_ HE_w8.out
        obtain ⟨H0, H1, H2, H3, H4, H5, Hf, Hz⟩ := box6_ HH_w8.out
        refine bodyPost_ret (v := .agg #[.int .i64 v0, .int .i64 v1, .int .i64 v2, .int .i64 v3, .int .i64 v4, .int .i64 v5, .bool (z == 0)]) (by simp [results, Tryz.results65, go_sem, *]) rfl ?_
        exact ⟨⟨v0, v1, v2, v3, v4, v5, (z == 0)⟩, rfl, HC_w8.out, HG_w8.out⟩
       ·
        cases h3
        ·
         go_wp2_with fail
         refine nm_ ?_
         intro w8 hw
         have HC_w8 : Hid (Crs w8 g) := Lib.hid (by rw [hw]; exact (((((((HC_w7.out).set (by have := HLR.out; omega)).set (by have := HLR.out; omega)).set (by have := HLR.out; omega)).set (by have := HLR.out; omega)).set (by have := HLR.out; omega)).set (by have := HLR.out; omega)).set (by have := HLR.out; omega))
         have HG_w8 : Hid (w.grownBy w8 (some g)) := Lib.hid (by rw [hw]; exact zqd (zqd (zqd (zqd (zqd (zqd (zqd (HG_w7.out) HLR.out _ _) HLR.out _ _) HLR.out _ _) HLR.out _ _) HLR.out _ _) HLR.out _ _) HLR.out _ _)
         have HR_w8 : Hid (w8.heap[RB]? = some (.cells #[.int .i64 v0, .int .i64 v1, .int .i64 v2, .int .i64 v3, .int .i64 v4, .int .i64 v5, .bool (z == 0)] 69 (0, 0))) := Lib.hid (by rw [hw]; exact zqa (zqa (zqa (zqa (zqa (zqa (zqa (HR_w7.out))))))))
         have HE_w8 : Hid (w8.heap[EB]? = some (.cells #[.int .i64 v0, .int .i64 v1, .int .i64 v2, .int .i64 v3, .int .i64 v4, .int .i64 v5, .bool (z == 0)] 69 (0, 0))) := Lib.hid (by rw [hw]; exact zqb (by first | exact HNER.out | exact fun e9 => HNRE.out e9.symm) (zqb (by first | exact HNER.out | exact fun e9 => HNRE.out e9.symm) (zqb (by first | exact HNER.out | exact fun e9 => HNRE.out e9.symm) (zqb (by first | exact HNER.out | exact fun e9 => HNRE.out e9.symm) (zqb (by first | exact HNER.out | exact fun e9 => HNRE.out e9.symm) (zqb (by first | exact HNER.out | exact fun e9 => HNRE.out e9.symm) (zqb (by first | exact HNER.out | exact fun e9 => HNRE.out e9.symm) (HE_w7.out))))))))
         have HH_w8 : Hid (w8.heap[HB]? = some (.cells #[.bool h0, .bool h1, .bool h2, .bool false, .bool h4, .bool true] 4 (0, 0))) := Lib.hid (by rw [hw]; exact zqb (by first | exact HNHR.out | exact fun e9 => HNRH.out e9.symm) (zqb (by first | exact HNHR.out | exact fun e9 => HNRH.out e9.symm) (zqb (by first | exact HNHR.out | exact fun e9 => HNRH.out e9.symm) (zqb (by first | exact HNHR.out | exact fun e9 => HNRH.out e9.symm) (zqb (by first | exact HNHR.out | exact fun e9 => HNRH.out e9.symm) (zqb (by first | exact HNHR.out | exact fun e9 => HNRH.out e9.symm) (zqb (by first | exact HNHR.out | exact fun e9 => HNRH.out e9.symm) (HH_w7.out))))))))
         clear hw
         clear R0 R1 R2 R3 R4 R5 R6 E0 E1 E2 E3 E4 E5 E6 H0 H1 H2 H3 H4 H5 Rf Ef Hf Rz Ez Hz
         obtain ⟨R0, R1, R2, R3, R4, R5, R6, Rf, Rz⟩ := box7_ HR_w8.out
         obtain ⟨E0, E1, E2, E3, E4, E5, E6, Ef, Ez⟩ := box7_ HE_w8.out
         obtain ⟨H0, H1, H2, H3, H4, H5, Hf, Hz⟩ := box6_ HH_w8.out
         refine bodyPost_ret (v := .agg #[.int .i64 v0, .int .i64 v1, .int .i64 v2, .int .i64 v3, .int .i64 v4, .int .i64 v5, .bool (z == 0)]) (by simp [results, Tryz.results65, go_sem, *]) rfl ?_
         exact ⟨⟨v0, v1, v2, v3, v4, v5, (z == 0)⟩, rfl, HC_w8.out, HG_w8.out⟩
        ·
         go_wp2_with fail
         refine (zxc g 2 _ HC_w7.out (by first | decide | omega) (by first | decide | omega)).mono ?_
         rintro e' w8 ⟨r, r1, r2, rfl, hcn, hg⟩
         have HC_w8 := Lib.hid hcn
         have HG_w8 := Lib.hid (zqn HG_w7.out hg)
         have HR_w8 := Lib.hid (zqg hg (zxi (by have := HLR.out; omega)) HR_w7.out)
         have HE_w8 := Lib.hid (zqg hg (zxi (by have := HLE.out; omega)) HE_w7.out)
         have HH_w8 := Lib.hid (zqg hg (zxi (by have := HLH.out; omega)) HH_w7.out)
         clear hcn hg
         clear R0 R1 R2 R3 R4 R5 R6 E0 E1 E2 E3 E4 E5 E6 H0 H1 H2 H3 H4 H5 Rf Ef Hf Rz Ez Hz
         obtain ⟨R0, R1, R2, R3, R4, R5, R6, Rf, Rz⟩ := box7_ HR_w8.out
         obtain ⟨E0, E1, E2, E3, E4, E5, E6, Ef, Ez⟩ := box7_ HE_w8.out
         obtain ⟨H0, H1, H2, H3, H4, H5, Hf, Hz⟩ := box6_ HH_w8.out
         go_upto_region 17 with fail
         refine nm_ ?_
         intro w9 hw
         have HC_w9 : Hid (Crs w9 g) := Lib.hid (by rw [hw]; exact (HC_w8.out).set (by have := HLE.out; omega))
         have HG_w9 : Hid (w.grownBy w9 (some g)) := Lib.hid (by rw [hw]; exact zqd (HG_w8.out) HLE.out _ _)
         have HR_w9 : Hid (w9.heap[RB]? = some (.cells #[.int .i64 0, .int .i64 0, .int .i64 0, .int .i64 0, .int .i64 0, .int .i64 0, .bool false] 69 (0, 0))) := Lib.hid (by rw [hw]; exact zqb (by first | exact HNRE.out | exact fun e9 => HNER.out e9.symm) (HR_w8.out))
         have HE_w9 : Hid (w9.heap[EB]? = some (.cells #[.int .i64 v0, .int .i64 v1, .int .i64 v2, .int .i64 v3, .int .i64 (1125899906842624 - r), .int .i64 v5, .bool (z == 0)] 69 (0, 0))) := Lib.hid (by rw [hw]; exact zqa (HE_w8.out))
         have HH_w9 : Hid (w9.heap[HB]? = some (.cells #[.bool h0, .bool h1, .bool h2, .bool true, .bool h4, .bool true] 4 (0, 0))) := Lib.hid (by rw [hw]; exact zqb (by first | exact HNHE.out | exact fun e9 => HNEH.out e9.symm) (HH_w8.out))
         clear hw
         clear R0 R1 R2 R3 R4 R5 R6 E0 E1 E2 E3 E4 E5 E6 H0 H1 H2 H3 H4 H5 Rf Ef Hf Rz Ez Hz
         obtain ⟨R0, R1, R2, R3, R4, R5, R6, Rf, Rz⟩ := box7_ HR_w9.out
         obtain ⟨E0, E1, E2, E3, E4, E5, E6, Ef, Ez⟩ := box7_ HE_w9.out
         obtain ⟨H0, H1, H2, H3, H4, H5, Hf, Hz⟩ := box6_ HH_w9.out
         go_wp2_with fail
         refine nm_ ?_
         intro w10 hw
         have HC_w10 : Hid (Crs w10 g) := Lib.hid (by rw [hw]; exact (((((((HC_w9.out).set (by have := HLR.out; omega)).set (by have := HLR.out; omega)).set (by have := HLR.out; omega)).set (by have := HLR.out; omega)).set (by have := HLR.out; omega)).set (by have := HLR.out; omega)).set (by have := HLR.out; omega))
         have HG_w10 : Hid (w.grownBy w10 (some g)) := Lib.hid (by rw [hw]; exact zqd (zqd (zqd (zqd (zqd (zqd (zqd (HG_w9.out) HLR.out _ _) HLR.out _ _) HLR.out _ _) HLR.out _ _) HLR.out _ _) HLR.out _ _) HLR.out _ _)
         have HR_w10 : Hid (w10.heap[RB]? = some (.cells #[.int .i64 v0, .int .i64 v1, .int .i64 v2, .int .i64 v3, .int .i64 (1125899906842624 - r), .int .i64 v5, .bool (z == 0)] 69 (0, 0))) := Lib.hid (by rw [hw]; exact zqa (zqa (zqa (zqa (zqa (zqa (zqa (HR_w9.out))))))))
         have HE_w10 : Hid (w10.heap[EB]? = some (.cells #[.int .i64 v0, .int .i64 v1, .int .i64 v2, .int .i64 v3, .int .i64 (1125899906842624 - r), .int .i64 v5, .bool (z == 0)] 69 (0, 0))) := Lib.hid (by rw [hw]; exact zqb (by first | exact HNER.out | exact fun e9 => HNRE.out e9.symm) (zqb (by first | exact HNER.out | exact fun e9 => HNRE.out e9.symm) (zqb (by first | exact HNER.out | exact fun e9 => HNRE.out e9.symm) (zqb (by first | exact HNER.out | exact fun e9 => HNRE.out e9.symm) (zqb (by first | exact HNER.out | exact fun e9 => HNRE.out e9.symm) (zqb (by first | exact HNER.out | exact fun e9 => HNRE.out e9.symm) (zqb (by first | exact HNER.out | exact fun e9 => HNRE.out e9.symm) (HE_w9.out))))))))
         have HH_w10 : Hid (w10.heap[HB]? = some (.cells #[.bool h0, .bool h1, .bool h2, .bool true, .bool h4, .bool true] 4 (0, 0))) := Lib.hid (by rw [hw]; exact zqb (by first | exact HNHR.out | exact fun e9 => HNRH.out e9.symm) (zqb (by first | exact HNHR.out | exact fun e9 => HNRH.out e9.symm) (zqb (by first | exact HNHR.out | exact fun e9 => HNRH.out e9.symm) (zqb (by first | exact HNHR.out | exact fun e9 => HNRH.out e9.symm) (zqb (by first | exact HNHR.out | exact fun e9 => HNRH.out e9.symm) (zqb (by first | exact HNHR.out | exact fun e9 => HNRH.out e9.symm) (zqb (by first | exact HNHR.out | exact fun e9 => HNRH.out e9.symm) (HH_w9.out))))))))
         clear hw
         clear R0 R1 R2 R3 R4 R5 R6 E0 E1 E2 E3 E4 E5 E6 H0 H1 H2 H3 H4 H5 Rf Ef Hf Rz Ez Hz
         obtain ⟨R0, R1, R2, R3, R4, R5, R6, Rf, Rz⟩ := box7_ HR_w10.out
         obtain ⟨E0, E1, E2, E3, E4, E5, E6, Ef, Ez⟩ := box7_ HE_w10.out
         obtain ⟨H0, H1, H2, H3, H4, H5, Hf, Hz⟩ := box6_ HH_w10.out
         refine bodyPost_ret (v := .agg #[.int .i64 v0, .int .i64 v1, .int .i64 v2, .int .i64 v3, .int .i64 (1125899906842624 - r), .int .i64 v5, .bool (z == 0)]) (by simp [results, Tryz.results65, go_sem, *]) rfl ?_
         exact ⟨⟨v0, v1, v2, v3, (1125899906842624 - r), v5, (z == 0)⟩, rfl, HC_w10.out, HG_w10.out⟩
end Go.Proofs.YtcjbjpobpefehaaGreatDoor
