/- Lines of a book read by the reference: a channel. -/
import Derived.Test.YtcjbjpobpefehaaGreatDoorRows
import Derived.Test.YtcjbjpobpefehaaGreatDoorM4
import Derived.Test.YtcjbjpobpefehaaGreatDoorM3
import Derived.Deep.RegionHeld3
namespace Go.Proofs.YtcjbjpobpefehaaGreatDoor
open Go.RowKit Go.Deep

set_option maxRecDepth 100000 in
set_option maxHeartbeats 4000000 in
theorem s_l21Take_chan (B : Nat) (b : Bk) (A1 A2 A3 : Option Addr) (p1 p2 p3 : Nat) (P : List (List UInt8)) (A : Option Addr) (cap : Nat) (w : World) (hr : Rd w w.heap.size 1 A (P.map strC)) (hO : OwB w B b A1 A2 A3 p1 p2 p3) (hB : B ≤ w.heap.size) (hlb : P.length ≤ 1048577 ∧ b.cs.length ≤ 1000 ∧ b.hs.length ≤ 1000 ∧ b.os.length ≤ 1000) (l : List (List UInt8)) (hP : P = chanW :: l) :
    Calls Tryz.prog 30 #[bkVal b A1 A2 A3 p1 p2 p3, .slice A P.length cap] w (TakeP w B (takeS b P)) := by
  have hl := hlb.1
  have hlb1 := hlb.2.1
  have hlb2 := hlb.2.2.1
  have hlb3 := hlb.2.2.2
  clear hlb
  have h0 : 0 < P.length := by rw [hP]; simp
  have hP0 : P[0] = chanW := by simp [hP]
  have HH := Lib.hid (show P.headD [] = chanW by rw [hP]; rfl)
  obtain ⟨b0, off0, rfl, hbB, c0⟩ := strs_rd hr h0
  rw [hP0] at c0
  simp only [Nat.add_zero] at c0
  have HR := Lib.hid hr
  have HO := Lib.hid hO
  have e0l : (⟨chanW.toArray⟩ : ByteArray) = ⟨#[99, 104, 97, 110]⟩ := rfl
  rw [e0l] at c0
  clear e0l
  clear hP0 hP hr hO
  unfold bkVal
  go_enter Tryz.func30, Tryz.ntmps30
  go_wp2_with fail
  obtain ⟨X, hX⟩ : ∃ X, X = w.heap.size := ⟨_, rfl⟩
  obtain ⟨B0, hB0⟩ : ∃ B0, B0 = w.heap.size := ⟨_, rfl⟩
  obtain ⟨wa, hwa⟩ : ∃ wa, ((w.alloc (.cells #[.int .i64 b.t, .int .i64 b.n, .int .i64 b.w, .slice A1 b.cs.length p1, .slice A2 b.hs.length p2, .slice A3 b.os.length p3] 27)).alloc (.cells #[.int .i64 0, .int .i64 0, .int .i64 0, .slice none 0 0, .slice none 0 0, .slice none 0 0] 27)) = wa := ⟨_, rfl⟩
  have HX_wa : Hid (BoxB wa X b A1 A2 A3 p1 p2 p3) := Lib.hid (by rw [← hwa, hX]; exact heap_past (by simp) (heap_at rfl))
  have HR_wa : Hid (wa.heap[X + 1]? = some (.cells #[.int .i64 0, .int .i64 0, .int .i64 0, .slice none 0 0, .slice none 0 0, .slice none 0 0] 27 (0, 0))) := Lib.hid (by rw [← hwa, hX]; exact heap_at (by simp))
  have HO_wa : Hid (OwB wa B b A1 A2 A3 p1 p2 p3) := Lib.hid (by rw [← hwa]; exact (HO.out.alloc _).alloc _)
  have HB_wa : Hid (Below B w wa) := Lib.hid (by rw [← hwa]; exact (((Below.refl _ _).alloc hB _).alloc (by simp; omega) _))
  have HF_wa : Hid (Fr [44, 46, 49] w wa) := Lib.hid (by rw [← hwa]; exact ((Fr.refl _ _).alloc _).alloc _)
  have HP_wa : Hid (Rd wa B0 1 (some ⟨b0, off0, none⟩) (P.map strC)) := Lib.hid (by rw [← hwa, hB0]; exact (HR.out.below (((Below.refl _ _).alloc (Nat.le_refl _) _).alloc (by simp) _)))
  have hz_wa : X + 2 ≤ wa.heap.size := by rw [← hwa, hX]; simp
  rw [hwa, ← hX]
  have hXw : w.heap.size ≤ X := by omega
  have hBX : B ≤ X := by omega
  have hB0X : B0 ≤ X := by omega
  have c0 : wa.cell? ⟨b0, off0, none⟩ = some (Value.string ⟨#[99, 104, 97, 110]⟩) := by rw [← hwa]; exact cell_past (by show b0 < _; simp; omega) (cell_past hbB c0)
  clear hwa hX hB0 HO HR c0
  obtain ⟨ti0, hi, hz0, hz1, hz2⟩ := info_parts info_chanB
  have HI := Lib.hid hi
  have HZZ0 := Lib.hid hz0
  have HZZ1 := Lib.hid hz1
  have HZZ2 := Lib.hid hz2
  clear hi hz0 hz1 hz2
  obtain ⟨_, a0, a1, a2, a3, a4, a5, af, az⟩ := own6 (g := X) (Below.refl _ wa) (by omega) HX_wa.out
  obtain ⟨_, r0, r1, r2, r3, r4, r5, rf, rz⟩ := own6 (g := X + 1) (Below.refl _ wa) (by omega) HR_wa.out
  refine wp_region_noPanic ?_
  refine wp_region_lastL2 (S := (fun w' => w'.cell? ⟨X, 3, none⟩ = some (.slice A1 b.cs.length p1))) rfl (by kernel_rfl) (by kernel_rfl) (by kernel_rfl) (by kernel_rfl) (a3) (fun hHeld => ?_)
  clear a0 a1 a2 a3 a4 a5 af az r0 r1 r2 r3 r4 r5 rf rz
  obtain ⟨wd, hwd⟩ : ∃ wd, wa.drew = wd := ⟨_, rfl⟩
  have HX_wd : Hid (BoxB wd X b A1 A2 A3 p1 p2 p3) := Lib.hid (by rw [← hwd]; exact HX_wa.out)
  have HR_wd : Hid (wd.heap[X + 1]? = some (.cells #[.int .i64 0, .int .i64 0, .int .i64 0, .slice none 0 0, .slice none 0 0, .slice none 0 0] 27 (0, 0))) := Lib.hid (by rw [← hwd]; exact HR_wa.out)
  have HO_wd : Hid (OwB wd B b A1 A2 A3 p1 p2 p3) := Lib.hid (by rw [← hwd]; exact HO_wa.out.drew)
  have HB_wd : Hid (Below B w wd) := Lib.hid (by rw [← hwd]; exact HB_wa.out.drew)
  have HF_wd : Hid (Fr [44, 46, 49] w wd) := Lib.hid (by rw [← hwd]; exact HF_wa.out.drew)
  have HP_wd : Hid (Rd wd B0 1 (some ⟨b0, off0, none⟩) (P.map strC)) := Lib.hid (by rw [← hwd]; exact HP_wa.out)
  have hz_wd : X + 2 ≤ wd.heap.size := by rw [← hwd]; exact hz_wa
  rw [hwd] at hHeld ⊢
  clear hwd
  clear HX_wa HR_wa HO_wa HB_wa HF_wa HP_wa hz_wa
  simp only [List.dropLast]
  refine wpAnyH_take (i := 0) (v := ?v1) rfl (by kernel_rfl) (by kernel_rfl) (by kernel_rfl) (fun _ _ _ h => h) (Or.inl ⟨by rfl, ?hy1⟩) (by assumption) ?rest1
  case hy1 => (intro w hSw; (try dsimp only at hSw); go_simp; (try with_reducible rfl))
  ((try simp only [Act.put]); (try simp only [List.setIfInBounds_toArray]); (repeat (first | simp only [List.set_cons_succ] | simp only [List.set_cons_zero])))
  refine wpAnyH_take (i := 1) (v := ?v2) rfl (by kernel_rfl) (by kernel_rfl) (by kernel_rfl) (fun _ _ _ h => h) (Or.inl ⟨by rfl, ?hy2⟩) (by assumption) ?rest2
  case hy2 => (intro w hSw; (try dsimp only at hSw); go_simp; (try with_reducible rfl))
  ((try simp only [Act.put]); (try simp only [List.setIfInBounds_toArray]); (repeat (first | simp only [List.set_cons_succ] | simp only [List.set_cons_zero])))
  refine wpAnyH_take (i := 2) (v := ?v3) rfl (by kernel_rfl) (by kernel_rfl) (by kernel_rfl) (fun _ _ _ h => h) (Or.inl ⟨by rfl, ?hy3⟩) (by assumption) ?rest3
  case hy3 => (intro w hSw; (try dsimp only at hSw); go_simp; (try with_reducible rfl))
  ((try simp only [Act.put]); (try simp only [List.setIfInBounds_toArray]); (repeat (first | simp only [List.set_cons_succ] | simp only [List.set_cons_zero])))
  refine wpAnyH_take (i := 4) (v := ?v4) rfl (by kernel_rfl) (by kernel_rfl) (by kernel_rfl) (fun _ _ _ h => h) (Or.inl ⟨by rfl, ?hy4⟩) (by assumption) ?rest4
  case hy4 => (intro w hSw; (try dsimp only at hSw); go_simp; (try with_reducible rfl))
  ((try simp only [Act.put]); (try simp only [List.setIfInBounds_toArray]); (repeat (first | simp only [List.set_cons_succ] | simp only [List.set_cons_zero])))
  refine wpAnyH_take (i := 6) (v := ?v5) rfl (by kernel_rfl) (by kernel_rfl) (by kernel_rfl) (fun _ _ _ h => h) (Or.inl ⟨by rfl, ?hy5⟩) (by assumption) ?rest5
  case hy5 => (intro w hSw; (try dsimp only at hSw); go_simp; (try with_reducible rfl))
  ((try simp only [Act.put]); (try simp only [List.setIfInBounds_toArray]); (repeat (first | simp only [List.set_cons_succ] | simp only [List.set_cons_zero])))
  refine wpAnyH_take (i := 8) (v := ?v6) rfl (by kernel_rfl) (by kernel_rfl) (by kernel_rfl) (fun _ _ _ h => h) (Or.inl ⟨by rfl, ?hy6⟩) (by assumption) ?rest6
  case hy6 => (intro w hSw; (try dsimp only at hSw); go_simp; (try with_reducible rfl))
  ((try simp only [Act.put]); (try simp only [List.setIfInBounds_toArray]); (repeat (first | simp only [List.set_cons_succ] | simp only [List.set_cons_zero])))
  refine wpAnyH_take (i := 10) (v := ?v7) rfl (by kernel_rfl) (by kernel_rfl) (by kernel_rfl) (fun _ _ _ h => h) (Or.inl ⟨by rfl, ?hy7⟩) (by assumption) ?rest7
  case hy7 => (intro w hSw; (try dsimp only at hSw); go_simp; (try with_reducible rfl))
  ((try simp only [Act.put]); (try simp only [List.setIfInBounds_toArray]); (repeat (first | simp only [List.set_cons_succ] | simp only [List.set_cons_zero])))
  refine wpAnyH_take (i := 12) (v := ?v8) rfl (by kernel_rfl) (by kernel_rfl) (by kernel_rfl) (fun _ _ _ h => h) (Or.inl ⟨by rfl, ?hy8⟩) (by assumption) ?rest8
  case hy8 => (intro w hSw; (try dsimp only at hSw); go_simp; (try with_reducible rfl))
  ((try simp only [Act.put]); (try simp only [List.setIfInBounds_toArray]); (repeat (first | simp only [List.set_cons_succ] | simp only [List.set_cons_zero])))
  refine wpAnyH_take (i := 14) (v := ?v9) rfl (by kernel_rfl) (by kernel_rfl) (by kernel_rfl) (fun _ _ _ h => h) (Or.inl ⟨by rfl, ?hy9⟩) (by assumption) ?rest9
  case hy9 => (intro w hSw; (try dsimp only at hSw); go_simp; (try with_reducible rfl))
  ((try simp only [Act.put]); (try simp only [List.setIfInBounds_toArray]); (repeat (first | simp only [List.set_cons_succ] | simp only [List.set_cons_zero])))
  refine wpAnyH_ready (rs := [3]) (by kernel_rfl) (by simp) ?_
  refine AllReadyH.cons rfl (fun K hK => ?_) ?_
  · skip
    go_simp
    refine (s_l21Num P _ cap 1 1 rfl _ (by decide) (HP_wd.out.more (by first | omega | (simp; omega)))).mono ?_
    rintro e w1 ⟨rfl, hb_w1⟩
    obtain ⟨z1, hz1⟩ : ∃ z, numIx P 1 = z := ⟨_, rfl⟩
    rw [hz1]
    have HZ1 := Lib.hid hz1
    have zz_w1 := hb_w1.size
    have HX_w1 : Hid (BoxB w1 X b A1 A2 A3 p1 p2 p3) := Lib.hid (heap_below hb_w1 (by omega) HX_wd.out)
    have HR_w1 : Hid (w1.heap[X + 1]? = some (.cells #[.int .i64 0, .int .i64 0, .int .i64 0, .slice none 0 0, .slice none 0 0, .slice none 0 0] 27 (0, 0))) := Lib.hid (heap_below hb_w1 (by omega) HR_wd.out)
    have HO_w1 : Hid (OwB w1 B b A1 A2 A3 p1 p2 p3) := Lib.hid (HO_wd.out.below hb_w1)
    have HB_w1 : Hid (Below B w w1) := Lib.hid (HB_wd.out.trans (hb_w1.mono (by omega)))
    have HF_w1 : Hid (Fr [44, 46, 49] w w1) := Lib.hid (HF_wd.out.below hb_w1)
    have HP_w1 : Hid (Rd w1 B0 1 (some ⟨b0, off0, none⟩) (P.map strC)) := Lib.hid (HP_wd.out.below (hb_w1.mono (by omega)))
    have hz_w1 : X + 2 ≤ w1.heap.size := by omega
    clear hb_w1 hz1 zz_w1
    clear HX_wd HR_wd HO_wd HB_wd HF_wd HP_wd hz_wd
    go_simp
    refine hK.out _ _ (blk_cell HX_w1.out 3) (fun hHeld => ?_)
    clear hK K
    ((try simp only [Act.put]); (try simp only [List.setIfInBounds_toArray]); (repeat (first | simp only [List.set_cons_succ] | simp only [List.set_cons_zero])))
    refine wpAnyH_ready (rs := [5]) (by kernel_rfl) (by simp) ?_
    refine AllReadyH.cons rfl (fun K hK => ?_) ?_
    · skip
      go_simp
      refine (s_l21Num P _ cap 2 2 rfl _ (by decide) (HP_w1.out.more (by first | omega | (simp; omega)))).mono ?_
      rintro e w2 ⟨rfl, hb_w2⟩
      obtain ⟨z2, hz2⟩ : ∃ z, numIx P 2 = z := ⟨_, rfl⟩
      rw [hz2]
      have HZ2 := Lib.hid hz2
      have zz_w2 := hb_w2.size
      have HX_w2 : Hid (BoxB w2 X b A1 A2 A3 p1 p2 p3) := Lib.hid (heap_below hb_w2 (by omega) HX_w1.out)
      have HR_w2 : Hid (w2.heap[X + 1]? = some (.cells #[.int .i64 0, .int .i64 0, .int .i64 0, .slice none 0 0, .slice none 0 0, .slice none 0 0] 27 (0, 0))) := Lib.hid (heap_below hb_w2 (by omega) HR_w1.out)
      have HO_w2 : Hid (OwB w2 B b A1 A2 A3 p1 p2 p3) := Lib.hid (HO_w1.out.below hb_w2)
      have HB_w2 : Hid (Below B w w2) := Lib.hid (HB_w1.out.trans (hb_w2.mono (by omega)))
      have HF_w2 : Hid (Fr [44, 46, 49] w w2) := Lib.hid (HF_w1.out.below hb_w2)
      have HP_w2 : Hid (Rd w2 B0 1 (some ⟨b0, off0, none⟩) (P.map strC)) := Lib.hid (HP_w1.out.below (hb_w2.mono (by omega)))
      have hz_w2 : X + 2 ≤ w2.heap.size := by omega
      clear hb_w2 hz2 zz_w2
      clear HX_w1 HR_w1 HO_w1 HB_w1 HF_w1 HP_w1 hz_w1
      go_simp
      refine hK.out _ _ (blk_cell HX_w2.out 3) (fun hHeld => ?_)
      clear hK K
      ((try simp only [Act.put]); (try simp only [List.setIfInBounds_toArray]); (repeat (first | simp only [List.set_cons_succ] | simp only [List.set_cons_zero])))
      refine wpAnyH_ready (rs := [7]) (by kernel_rfl) (by simp) ?_
      refine AllReadyH.cons rfl (fun K hK => ?_) ?_
      · skip
        go_simp
        refine (s_l21Num P _ cap 3 3 rfl _ (by decide) (HP_w2.out.more (by first | omega | (simp; omega)))).mono ?_
        rintro e w3 ⟨rfl, hb_w3⟩
        obtain ⟨z3, hz3⟩ : ∃ z, numIx P 3 = z := ⟨_, rfl⟩
        rw [hz3]
        have HZ3 := Lib.hid hz3
        have zz_w3 := hb_w3.size
        have HX_w3 : Hid (BoxB w3 X b A1 A2 A3 p1 p2 p3) := Lib.hid (heap_below hb_w3 (by omega) HX_w2.out)
        have HR_w3 : Hid (w3.heap[X + 1]? = some (.cells #[.int .i64 0, .int .i64 0, .int .i64 0, .slice none 0 0, .slice none 0 0, .slice none 0 0] 27 (0, 0))) := Lib.hid (heap_below hb_w3 (by omega) HR_w2.out)
        have HO_w3 : Hid (OwB w3 B b A1 A2 A3 p1 p2 p3) := Lib.hid (HO_w2.out.below hb_w3)
        have HB_w3 : Hid (Below B w w3) := Lib.hid (HB_w2.out.trans (hb_w3.mono (by omega)))
        have HF_w3 : Hid (Fr [44, 46, 49] w w3) := Lib.hid (HF_w2.out.below hb_w3)
        have HP_w3 : Hid (Rd w3 B0 1 (some ⟨b0, off0, none⟩) (P.map strC)) := Lib.hid (HP_w2.out.below (hb_w3.mono (by omega)))
        have hz_w3 : X + 2 ≤ w3.heap.size := by omega
        clear hb_w3 hz3 zz_w3
        clear HX_w2 HR_w2 HO_w2 HB_w2 HF_w2 HP_w2 hz_w2
        go_simp
        refine hK.out _ _ (blk_cell HX_w3.out 3) (fun hHeld => ?_)
        clear hK K
        ((try simp only [Act.put]); (try simp only [List.setIfInBounds_toArray]); (repeat (first | simp only [List.set_cons_succ] | simp only [List.set_cons_zero])))
        refine wpAnyH_ready (rs := [9]) (by kernel_rfl) (by simp) ?_
        refine AllReadyH.cons rfl (fun K hK => ?_) ?_
        · skip
          go_simp
          refine (s_l21Num P _ cap 4 4 rfl _ (by decide) (HP_w3.out.more (by first | omega | (simp; omega)))).mono ?_
          rintro e w4 ⟨rfl, hb_w4⟩
          obtain ⟨z4, hz4⟩ : ∃ z, numIx P 4 = z := ⟨_, rfl⟩
          rw [hz4]
          have HZ4 := Lib.hid hz4
          have zz_w4 := hb_w4.size
          have HX_w4 : Hid (BoxB w4 X b A1 A2 A3 p1 p2 p3) := Lib.hid (heap_below hb_w4 (by omega) HX_w3.out)
          have HR_w4 : Hid (w4.heap[X + 1]? = some (.cells #[.int .i64 0, .int .i64 0, .int .i64 0, .slice none 0 0, .slice none 0 0, .slice none 0 0] 27 (0, 0))) := Lib.hid (heap_below hb_w4 (by omega) HR_w3.out)
          have HO_w4 : Hid (OwB w4 B b A1 A2 A3 p1 p2 p3) := Lib.hid (HO_w3.out.below hb_w4)
          have HB_w4 : Hid (Below B w w4) := Lib.hid (HB_w3.out.trans (hb_w4.mono (by omega)))
          have HF_w4 : Hid (Fr [44, 46, 49] w w4) := Lib.hid (HF_w3.out.below hb_w4)
          have HP_w4 : Hid (Rd w4 B0 1 (some ⟨b0, off0, none⟩) (P.map strC)) := Lib.hid (HP_w3.out.below (hb_w4.mono (by omega)))
          have hz_w4 : X + 2 ≤ w4.heap.size := by omega
          clear hb_w4 hz4 zz_w4
          clear HX_w3 HR_w3 HO_w3 HB_w3 HF_w3 HP_w3 hz_w3
          go_simp
          refine hK.out _ _ (blk_cell HX_w4.out 3) (fun hHeld => ?_)
          clear hK K
          ((try simp only [Act.put]); (try simp only [List.setIfInBounds_toArray]); (repeat (first | simp only [List.set_cons_succ] | simp only [List.set_cons_zero])))
          refine wpAnyH_ready (rs := [11]) (by kernel_rfl) (by simp) ?_
          refine AllReadyH.cons rfl (fun K hK => ?_) ?_
          · skip
            go_simp
            refine (s_l21Num P _ cap 5 5 rfl _ (by decide) (HP_w4.out.more (by first | omega | (simp; omega)))).mono ?_
            rintro e w5 ⟨rfl, hb_w5⟩
            obtain ⟨z5, hz5⟩ : ∃ z, numIx P 5 = z := ⟨_, rfl⟩
            rw [hz5]
            have HZ5 := Lib.hid hz5
            have zz_w5 := hb_w5.size
            have HX_w5 : Hid (BoxB w5 X b A1 A2 A3 p1 p2 p3) := Lib.hid (heap_below hb_w5 (by omega) HX_w4.out)
            have HR_w5 : Hid (w5.heap[X + 1]? = some (.cells #[.int .i64 0, .int .i64 0, .int .i64 0, .slice none 0 0, .slice none 0 0, .slice none 0 0] 27 (0, 0))) := Lib.hid (heap_below hb_w5 (by omega) HR_w4.out)
            have HO_w5 : Hid (OwB w5 B b A1 A2 A3 p1 p2 p3) := Lib.hid (HO_w4.out.below hb_w5)
            have HB_w5 : Hid (Below B w w5) := Lib.hid (HB_w4.out.trans (hb_w5.mono (by omega)))
            have HF_w5 : Hid (Fr [44, 46, 49] w w5) := Lib.hid (HF_w4.out.below hb_w5)
            have HP_w5 : Hid (Rd w5 B0 1 (some ⟨b0, off0, none⟩) (P.map strC)) := Lib.hid (HP_w4.out.below (hb_w5.mono (by omega)))
            have hz_w5 : X + 2 ≤ w5.heap.size := by omega
            clear hb_w5 hz5 zz_w5
            clear HX_w4 HR_w4 HO_w4 HB_w4 HF_w4 HP_w4 hz_w4
            go_simp
            refine hK.out _ _ (blk_cell HX_w5.out 3) (fun hHeld => ?_)
            clear hK K
            ((try simp only [Act.put]); (try simp only [List.setIfInBounds_toArray]); (repeat (first | simp only [List.set_cons_succ] | simp only [List.set_cons_zero])))
            refine wpAnyH_ready (rs := [13]) (by kernel_rfl) (by simp) ?_
            refine AllReadyH.cons rfl (fun K hK => ?_) ?_
            · skip
              go_simp
              refine (s_l21Num P _ cap 6 6 rfl _ (by decide) (HP_w5.out.more (by first | omega | (simp; omega)))).mono ?_
              rintro e w6 ⟨rfl, hb_w6⟩
              obtain ⟨z6, hz6⟩ : ∃ z, numIx P 6 = z := ⟨_, rfl⟩
              rw [hz6]
              have HZ6 := Lib.hid hz6
              have zz_w6 := hb_w6.size
              have HX_w6 : Hid (BoxB w6 X b A1 A2 A3 p1 p2 p3) := Lib.hid (heap_below hb_w6 (by omega) HX_w5.out)
              have HR_w6 : Hid (w6.heap[X + 1]? = some (.cells #[.int .i64 0, .int .i64 0, .int .i64 0, .slice none 0 0, .slice none 0 0, .slice none 0 0] 27 (0, 0))) := Lib.hid (heap_below hb_w6 (by omega) HR_w5.out)
              have HO_w6 : Hid (OwB w6 B b A1 A2 A3 p1 p2 p3) := Lib.hid (HO_w5.out.below hb_w6)
              have HB_w6 : Hid (Below B w w6) := Lib.hid (HB_w5.out.trans (hb_w6.mono (by omega)))
              have HF_w6 : Hid (Fr [44, 46, 49] w w6) := Lib.hid (HF_w5.out.below hb_w6)
              have HP_w6 : Hid (Rd w6 B0 1 (some ⟨b0, off0, none⟩) (P.map strC)) := Lib.hid (HP_w5.out.below (hb_w6.mono (by omega)))
              have hz_w6 : X + 2 ≤ w6.heap.size := by omega
              clear hb_w6 hz6 zz_w6
              clear HX_w5 HR_w5 HO_w5 HB_w5 HF_w5 HP_w5 hz_w5
              go_simp
              refine hK.out _ _ (blk_cell HX_w6.out 3) (fun hHeld => ?_)
              clear hK K
              ((try simp only [Act.put]); (try simp only [List.setIfInBounds_toArray]); (repeat (first | simp only [List.set_cons_succ] | simp only [List.set_cons_zero])))
              refine wpAnyH_ready (rs := [15]) (by kernel_rfl) (by simp) ?_
              refine AllReadyH.cons rfl (fun K hK => ?_) ?_
              · skip
                go_simp
                refine (s_l21Num P _ cap 7 7 rfl _ (by decide) (HP_w6.out.more (by first | omega | (simp; omega)))).mono ?_
                rintro e w7 ⟨rfl, hb_w7⟩
                obtain ⟨z7, hz7⟩ : ∃ z, numIx P 7 = z := ⟨_, rfl⟩
                rw [hz7]
                have HZ7 := Lib.hid hz7
                have zz_w7 := hb_w7.size
                have HX_w7 : Hid (BoxB w7 X b A1 A2 A3 p1 p2 p3) := Lib.hid (heap_below hb_w7 (by omega) HX_w6.out)
                have HR_w7 : Hid (w7.heap[X + 1]? = some (.cells #[.int .i64 0, .int .i64 0, .int .i64 0, .slice none 0 0, .slice none 0 0, .slice none 0 0] 27 (0, 0))) := Lib.hid (heap_below hb_w7 (by omega) HR_w6.out)
                have HO_w7 : Hid (OwB w7 B b A1 A2 A3 p1 p2 p3) := Lib.hid (HO_w6.out.below hb_w7)
                have HB_w7 : Hid (Below B w w7) := Lib.hid (HB_w6.out.trans (hb_w7.mono (by omega)))
                have HF_w7 : Hid (Fr [44, 46, 49] w w7) := Lib.hid (HF_w6.out.below hb_w7)
                have HP_w7 : Hid (Rd w7 B0 1 (some ⟨b0, off0, none⟩) (P.map strC)) := Lib.hid (HP_w6.out.below (hb_w7.mono (by omega)))
                have hz_w7 : X + 2 ≤ w7.heap.size := by omega
                clear hb_w7 hz7 zz_w7
                clear HX_w6 HR_w6 HO_w6 HB_w6 HF_w6 HP_w6 hz_w6
                go_simp
                refine hK.out _ _ (blk_cell HX_w7.out 3) (fun hHeld => ?_)
                clear hK K
                ((try simp only [Act.put]); (try simp only [List.setIfInBounds_toArray]); (repeat (first | simp only [List.set_cons_succ] | simp only [List.set_cons_zero])))
                refine wpAnyH_take (i := 16) (v := ?v10) rfl (by kernel_rfl) (by kernel_rfl) (by kernel_rfl) (fun _ _ _ h => h) (Or.inl ⟨by rfl, ?hy10⟩) (by assumption) ?rest10
                case hy10 => (intro w hSw; (try dsimp only at hSw); go_simp; (try with_reducible rfl))
                ((try simp only [Act.put]); (try simp only [List.setIfInBounds_toArray]); (repeat (first | simp only [List.set_cons_succ] | simp only [List.set_cons_zero])))
                refine wpAnyH_ready (rs := [17]) (by kernel_rfl) (by simp) ?_
                refine AllReadyH.cons rfl (fun K hK => ?_) ?_
                · skip
                  go_simp
                  refine hK.out _ _ (cell_past (by show X < _; omega) (blk_cell HX_w7.out 3)) (fun hHeld => ?_)
                  clear hK K
                  ((try simp only [Act.put]); (try simp only [List.setIfInBounds_toArray]); (repeat (first | simp only [List.set_cons_succ] | simp only [List.set_cons_zero])))
                  refine wpAnyH_ready (rs := [18]) (by kernel_rfl) (by simp) ?_
                  refine AllReadyH.cons rfl (fun K hK => ?_) ?_
                  · skip
                    refine step_app1 (by rfl) _ _ _ (by rfl) B 44 ti0 _ 7 56 Tryz.underlying23 HI.out HZZ0.out HZZ1.out HZZ2.out rfl (by decide) (.slice A1 b.cs.length p1) (b.cs.map Chan.cells) (by rfl) (HO_w7.out.c.alloc _) w7.heap.size 1 [.int .i64 z1, .int .i64 z2, .int .i64 z3, .int .i64 z4, .int .i64 z5, .int .i64 z6, .int .i64 z7] 44 (by rfl) (heap_at (by first | rfl | (simp; done))) rfl (by simp [Value.oneCell']) (by rw [List.length_map]; omega) (by decide) (by first | omega | (simp; omega) | (simp; done)) ?_
                    intro g2 cap2 wx how6 hgr6 hat6 hlt6
                    rw [List.length_map] at how6
                    rw [List.length_map]
                    have hOa := HO_w7.out.alloc (.cells ([.int .i64 z1, .int .i64 z2, .int .i64 z3, .int .i64 z4, .int .i64 z5, .int .i64 z6, .int .i64 z7] : List Value).toArray 44)
                    have HX_wx : Hid (BoxB wx X b A1 A2 A3 p1 p2 p3) := Lib.hid (heap_grown hgr6 (hOa.c.ne_ (heap_past (by omega) HX_w7.out) (by decide)) (heap_past (by omega) HX_w7.out))
                    have HR_wx : Hid (wx.heap[X + 1]? = some (.cells #[.int .i64 0, .int .i64 0, .int .i64 0, .slice none 0 0, .slice none 0 0, .slice none 0 0] 27 (0, 0))) := Lib.hid (heap_grown hgr6 (hOa.c.ne_ (heap_past (by omega) HR_w7.out) (by decide)) (heap_past (by omega) HR_w7.out))
                    have HB_wx : Hid (Below B w wx) := Lib.hid ((HB_w7.out.alloc (by omega) _).grown hgr6 (by simp; omega) (fun k e => (hOa.c.block k e).1))
                    have HF_wx : Hid (Fr [44, 46, 49] w wx) := Lib.hid ((HF_w7.out.alloc _).grown hOa.c (by decide) hgr6)
                    have HG := Lib.hid how6
                    have HOh := Lib.hid (hOa.h.apart_ hOa.c (by decide) hgr6)
                    have HOo := Lib.hid (hOa.o.apart_ hOa.c (by decide) hgr6)
                    have hz_wx : X + 2 ≤ wx.heap.size := by have := hgr6.size; simp at this; omega
                    clear hOa how6 hgr6 hat6
                    refine hK.out _ _ (blk_cell HX_wx.out 3) (fun hHeld => ?_)
                    clear hK K
                    ((try simp only [Act.put]); (try simp only [List.setIfInBounds_toArray]); (repeat (first | simp only [List.set_cons_succ] | simp only [List.set_cons_zero])))
                    refine wpAnyH_take (i := 19) (v := ?v11) rfl (by kernel_rfl) (by kernel_rfl) (by kernel_rfl) (fun _ _ _ h => h) (Or.inl ⟨by rfl, ?hy11⟩) (by assumption) ?rest11
                    case hy11 => (intro w hSw; (try dsimp only at hSw); go_simp; (try with_reducible rfl))
                    ((try simp only [Act.put]); (try simp only [List.setIfInBounds_toArray]); (repeat (first | simp only [List.set_cons_succ] | simp only [List.set_cons_zero])))
                    refine wpAnyH_done (by kernel_rfl) ?_ _
                    intro KK hKK
                    obtain ⟨vx, hvx⟩ : ∃ v, wx.setCell ⟨X, 3, none⟩ (.slice (some ⟨g2, 0, none⟩) (b.cs.length + 1) cap2) = v := ⟨_, rfl⟩
                    have HX_vx : Hid (vx.heap[X]? = some (.cells #[.int .i64 b.t, .int .i64 b.n, .int .i64 b.w, .slice (some ⟨g2, 0, none⟩) (b.cs.length + 1) cap2, .slice A2 b.hs.length p2, .slice A3 b.os.length p3] 27 (0, 0))) := Lib.hid (by rw [← hvx]; exact (six_set HX_wx.out _).2.2.2.1)
                    have HR_vx : Hid (vx.heap[X + 1]? = some (.cells #[.int .i64 0, .int .i64 0, .int .i64 0, .slice none 0 0, .slice none 0 0, .slice none 0 0] 27 (0, 0))) := Lib.hid (by rw [← hvx]; exact heap_far' (by omega) HR_wx.out)
                    have HO_vx : Hid (OwB vx B ⟨b.t, b.n, b.w, b.cs ++ [⟨z1, z2, z3, z4, z5, z6, z7⟩], b.hs, b.os⟩ (some ⟨g2, 0, none⟩) A2 A3 cap2 p2 p3) := Lib.hid (by rw [← hvx]; exact ⟨(by dsimp only; rw [List.length_append, List.map_append]; exact HG.out.aside HX_wx.out (by decide) _), HOh.out.aside HX_wx.out (by decide) _, HOo.out.aside HX_wx.out (by decide) _⟩)
                    have HB_vx : Hid (Below B w vx) := Lib.hid (by rw [← hvx]; exact below_setB HB_wx.out hBX _)
                    have HF_vx : Hid (Fr [44, 46, 49] w vx) := Lib.hid (by rw [← hvx]; exact HF_wx.out.setNew hXw _)
                    have hz_vx : X + 2 ≤ vx.heap.size := by rw [← hvx]; simpa [World.setCell] using hz_wx
                    obtain ⟨_, a0, a1, a2, a3, a4, a5, af, az⟩ := own6 (g := X) (Below.refl _ wx) (by omega) HX_wx.out
                    obtain ⟨_, d0, d1, d2, d3, d4, d5, df, dz⟩ := own6 (g := X) (Below.refl _ vx) (by omega) HX_vx.out
                    obtain ⟨_, e0, e1, e2, e3, e4, e5, ef, ez⟩ := own6 (g := X + 1) (Below.refl _ vx) (by omega) HR_vx.out
                    have HT := Lib.hid (show takeS b P = ⟨b.t, b.n, b.w, b.cs ++ [⟨z1, z2, z3, z4, z5, z6, z7⟩], b.hs, b.os⟩ by
                      unfold takeS
                      rw [HH.out]
                      simp [ne_chan_book, HZ1.out, HZ2.out, HZ3.out, HZ4.out, HZ5.out, HZ6.out, HZ7.out])
                    go_simp
                    refine hKK _ _ (NoPanic.normal ?_)
                    go_wp2_with fail
                    refine bodyPost_ret (v := .agg #[.int .i64 b.t, .int .i64 b.n, .int .i64 b.w, .slice (some ⟨g2, 0, none⟩) (b.cs.length + 1) cap2, .slice A2 b.hs.length p2, .slice A3 b.os.length p3]) (by simp [results, Tryz.results30, go_sem, *]) rfl ?_
                    rw [HT.out]
                    have hT := TakeP.mk (w := w) HO_vx.out HR_vx.out (by omega) (by omega) HB_vx.out HF_vx.out (.int .i64 b.t) (.int .i64 b.n) (.int .i64 b.w) (.slice (some ⟨g2, 0, none⟩) (b.cs.length + 1) cap2) (.slice A2 b.hs.length p2) (.slice A3 b.os.length p3)
                    simp only [List.length_append, List.length_cons, List.length_nil, Nat.zero_add] at hT
                    exact hT
                  exact AllReadyH.nil
                exact AllReadyH.nil
              exact AllReadyH.nil
            exact AllReadyH.nil
          exact AllReadyH.nil
        exact AllReadyH.nil
      exact AllReadyH.nil
    exact AllReadyH.nil
  exact AllReadyH.nil
end Go.Proofs.YtcjbjpobpefehaaGreatDoor
