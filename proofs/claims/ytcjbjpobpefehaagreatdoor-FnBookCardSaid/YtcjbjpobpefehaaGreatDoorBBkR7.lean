/- A line of a book read by the program: eight words, a payment that is kept. -/
import Derived.Test.YtcjbjpobpefehaaGreatDoorRows
import Derived.Test.YtcjbjpobpefehaaGreatDoorBBkRp
import Derived.Test.YtcjbjpobpefehaaGreatDoorBM2
import Derived.Deep.RegionHeld3
namespace Go.Proofs.YtcjbjpobpefehaaGreatDoor
open Go.RowKit Go.Deep
set_option maxRecDepth 100000 in
set_option maxHeartbeats 4000000 in
theorem i_textPart_A_kept (X B : Nat) (b : Bk) (A1 A2 A3 : Option Addr) (p1 p2 p3 : Nat) (t : ByteArray) (w : World) (hld : Le w) (hs : t.size ≤ 1048576) (hX : BoxB w X b A1 A2 A3 p1 p2 p3) (hO : OwB w B b A1 A2 A3 p1 p2 p3) (hBX : B ≤ X) (hl : b.cs.length ≤ 20 ∧ b.hs.length ≤ 60 ∧ b.os.length ≤ 20) (v1 v2 v3 v4 v5 v7 : List UInt8) (hP : parts 32 t.data.toList = [htlcW, v1, v2, v3, v4, v5, keptW true, v7]) :
  Calls Tryz.prog 27 #[.pointer (some ⟨X, 0, none⟩), .string t] w (PartP X B b t.data.toList w) := by
 have hl1 := hl.1
 have hl2 := hl.2.1
 have hl3 := hl.2.2
 clear hl
 have HLD := Lib.hid hld
 have hXl : X < w.heap.size := hX.lt
 have hBw : B ≤ w.heap.size := by omega
 have HX := Lib.hid hX
 have HO := Lib.hid hO
 have HC := Lib.hid (zvh t 32 w hld.toLd (by omega))
 have hz : t.data.toList.length = t.size := Array.length_toList
 have hsub := zji 32 t.data.toList
 rw [hP] at hsub
 have HSZ := Lib.hid (show ∀ x ∈ [v1, v2, v3, v4, v5, v7], x.length ≤ 1048576 from fun x hx => by
  have := hsub x (by
   simp only [List.mem_cons, List.not_mem_nil, or_false] at hx ⊢
   rcases hx with h | h | h | h | h | h <;> simp [h])
  omega)
 have hcut : cutI [htlcW, v1, v2, v3, v4, v5, keptW true, v7] = [htlcW, v1, v2, v3, v4, v5, v7] := if_pos ⟨rfl, rfl⟩
 have hkept : keptI [htlcW, v1, v2, v3, v4, v5, keptW true, v7] = true := by
  unfold keptI
  rfl
 have HPI := Lib.hid (show partI b t.data.toList = if [v1, v2, v3, v4, v5, v7].all numOk = false then none else wordI b htlcW [v1, v2, v3, v4, v5, v7] true by
  unfold partI
  rw [hP, hcut, hkept]
  rfl)
 rw [hP] at HC
 obtain ⟨x7, hx7', hx7⟩ := zhb v7
 obtain ⟨si0, hi, hz0, hz1, hz2⟩ := info_parts info_str
 have HSI := Lib.hid hi
 have HS0 := Lib.hid hz0
 have HS1 := Lib.hid hz1
 have HS2 := Lib.hid hz2
 clear hP hsub hz hcut hkept hld hX hO hi hz0 hz1 hz2
 go_enter Tryz.func27, Tryz.ntmps27
 go_wp2_with fail
 refine HC.out.mono ?_
 rintro e w1 ⟨rfl, how1, hb1⟩
 have z1 := hb1.size
 have hN : ([htlcW, v1, v2, v3, v4, v5, keptW true, v7] : List (List UInt8)).length = 8 := rfl
 rw [hN] at how1 ⊢
 have HR1 := Lib.hid how1.rd
 have hr1 := how1.rd
 obtain ⟨b0, off0, e0, hbB, c0⟩ := zkb hr1 (k := 0) (by simp)
 obtain ⟨b6, off6, e6, _, c6⟩ := zkb hr1 (k := 6) (by simp)
 obtain ⟨b7, off7, e7, _, c7⟩ := zkb hr1 (k := 7) (by simp)
 simp only [Option.some.injEq, Addr.mk.injEq, and_true] at e0 e6 e7
 obtain ⟨rfl, rfl⟩ := e0
 obtain ⟨rfl, rfl⟩ := e6
 obtain ⟨rfl, rfl⟩ := e7
 simp only [List.getElem_cons_zero, List.getElem_cons_succ, Nat.add_zero, Nat.zero_add] at c0 c6 c7
 rw [hx7'] at c7
 have e0l : (⟨htlcW.toArray⟩ : ByteArray) = ⟨#[104, 116, 108, 99]⟩ := rfl
 rw [e0l] at c0
 clear e0l
 have e6l : (⟨(keptW true).toArray⟩ : ByteArray) = ⟨#[107, 101, 112, 116]⟩ := rfl
 rw [e6l] at c6
 clear e6l
 have hbA : Below w.heap.size w w1 := hb1
 have hH6 : Rd w1.drew w1.heap.size 1 (some ⟨w.heap.size, 0, none⟩) ([htlcW, v1, v2, v3, v4, v5].map strC) := by
  have := hr1.take 6
  show Rd w1 _ _ _ _
  simpa using this
 have HR6 := Lib.hid hH6
 have H1 : ∀ u ∈ (([htlcW, v1, v2, v3, v4, v5].map strC)).flatten, u.oneCell' = true := by
  intro u hu
  rw [strs_flat] at hu
  obtain ⟨y, _, rfl⟩ := List.mem_map.1 hu
  rfl
 have HONE := Lib.hid H1
 have HX7 := Lib.hid hx7'
 clear hN how1 hr1 hb1 H1 hH6 hx7'
 go_wp2_with fail
 refine wp_region_noPanic ?_
 refine wp_region_held_drew (S := (fun w' => w'.cell? ⟨w.heap.size, 7, none⟩ = some (.string x7))) (by kernel_rfl) c7 (fun hHeld => ?_)
 obtain ⟨wd, hwd⟩ : ∃ wd, w1.drew = wd := ⟨_, rfl⟩
 have HBd : Hid (Below w.heap.size w wd) := Lib.hid (by rw [← hwd]; exact hbA.drew)
 have HRd : Hid (Rd wd wd.heap.size 1 (some ⟨w.heap.size, 0, none⟩) ([htlcW, v1, v2, v3, v4, v5].map strC)) := Lib.hid (by rw [← hwd]; exact HR6.out)
 have hPd : w.heap.size < wd.heap.size := by rw [← hwd]; exact hbB
 have d7 : wd.cell? ⟨w.heap.size, 7, none⟩ = some (.string x7) := by rw [← hwd]; exact c7
 rw [hwd] at hHeld ⊢
 clear hwd c0 c6 c7 HR6 HR1 hbA
 refine tw0_ ?_
 refine tw1_ ?_
 refine tw3_ ?_
 refine tw4_ ?_
 refine tw5_ ?_
 refine wpAnyH_ready (rs := [2, 6]) (by kernel_rfl) (by simp) ?_
 refine AllReadyH.cons rfl (fun K hK => ?_) ?_
 ·
  skip
  refine step_appN (by rfl) _ _ _ (by rfl) (w.heap.size + 1) 9 si0 _ 1 16 Tryz.underlying51 HSI.out HS0.out HS1.out HS2.out rfl (by decide) none 0 [] 0 rfl (by rfl) Ow.nil_ (some ⟨w.heap.size, 0, none⟩) 8 ([htlcW, v1, v2, v3, v4, v5].map strC) 6 rfl (by rfl) wd.heap.size HRd.out HONE.out (by simp) (by decide) (by omega) ?_
  intro A6 p6 w3 how3 hbl3 hgr3
  simp only [Nat.zero_add, List.nil_append] at how3 ⊢
  have z3 := hgr3.size
  have e7 : w3.cell? ⟨w.heap.size, 7, none⟩ = some (.string x7) := (hgr3.cell_far ⟨w.heap.size, 7, none⟩ hPd (by simp [Value.ownBlock])).trans d7
  have HW3 := Lib.hid how3
  have HB3 := Lib.hid (HBd.out.grown (row := none) hgr3 (by omega) (fun k e => by cases e))
  clear how3 hbl3 hgr3
  refine hK.out _ _ e7 (fun hHeld => ?_)
  clear hK K
  ((try simp only [Act.put]); (try simp only [List.setIfInBounds_toArray]); (repeat (first | simp only [List.set_cons_succ] | simp only [List.set_cons_zero])))
  refine wpAnyH_ready (rs := [6]) (by kernel_rfl) (by simp) ?_
  refine AllReadyH.cons rfl (fun K hK => ?_) ?_
  ·
   skip
   go_simp
   refine hK.out _ _ (zqj (by show w.heap.size < _; omega) e7) (fun hHeld => ?_)
   clear hK K
   ((try simp only [Act.put]); (try simp only [List.setIfInBounds_toArray]); (repeat (first | simp only [List.set_cons_succ] | simp only [List.set_cons_zero])))
   refine wpAnyH_ready (rs := [7]) (by kernel_rfl) (by simp) ?_
   refine AllReadyH.cons rfl (fun K hK => ?_) ?_
   ·
    skip
    refine zvg (by rfl) _ _ _ (by rfl) (w.heap.size + 1) 9 si0 _ 1 16 Tryz.underlying51 HSI.out HS0.out HS1.out HS2.out rfl (by decide) (.slice A6 6 p6) ([htlcW, v1, v2, v3, v4, v5].map strC) (by rfl) (HW3.out.alloc _) w3.heap.size 1 [.string x7] 9 (by rfl) (zxa (by first | rfl | (simp; done))) rfl (by simp [Value.oneCell']) (by simp) (by decide) (by simp; omega) ?_
    intro g7 p7 w7 how7 hgr7 _ _
    have HW7 := Lib.hid how7
    have HB7 := Lib.hid ((HB3.out.alloc (by omega) _).grown hgr7 (by simp; omega) (fun k e => by have := (HW3.out.block k e).1; omega))
    have f7 : w7.cell? ⟨w.heap.size, 7, none⟩ = some (.string x7) := (hgr7.cell_far ⟨w.heap.size, 7, none⟩ (by show w.heap.size < _; simp; omega) (fun e => by have := (HW3.out.block w.heap.size e.symm).1; omega)).trans (zqj (by show w.heap.size < _; omega) e7)
    clear how7 hgr7
    refine hK.out _ _ f7 (fun hHeld => ?_)
    clear hK K
    ((try simp only [Act.put]); (try simp only [List.setIfInBounds_toArray]); (repeat (first | simp only [List.set_cons_succ] | simp only [List.set_cons_zero])))
    refine tw8_ ?_
    refine wpAnyH_done (by kernel_rfl) ?_ _
    refine NoPanic.normal ?_
    have hX7 := zqf HB7.out hXl HX.out
    have HO7 := Lib.hid (HO.out.below HB7.out)
    have how7 : Ow w7 (w.heap.size + 1) 9 1 (.slice (some ⟨g7, 0, none⟩) 7 p7) ([htlcW, v1, v2, v3, v4, v5, v7].map strC) := by
     have := HW7.out
     rw [← HX7.out] at this
     simpa [strC] using this
    have hc7 : 7 ≤ p7 := by
     obtain ⟨A', cap', e1, _, h2, _⟩ := how7.form
     injection e1 with _ _ e3
     simp at h2
     omega
    obtain ⟨b8, off8, e8, h8B, c8⟩ := zkb how7.rd (k := 0) (by simp)
    simp only [Option.some.injEq, Addr.mk.injEq, and_true] at e8
    obtain ⟨rfl, rfl⟩ := e8
    simp only [List.getElem_cons_zero, Nat.add_zero] at c8
    have e0l : (⟨htlcW.toArray⟩ : ByteArray) = ⟨#[104, 116, 108, 99]⟩ := rfl
    rw [e0l] at c8
    clear e0l
    have HR7 := Lib.hid (zka how7.rd)
    have z7 := HB7.out.size
    have HX7b := Lib.hid hX7
    clear how7 hX7 HW7 HRd d7 hHeld e7 f7 HW3 HB3 HBd
    go_wp2_with fail
    refine (zjf [v1, v2, v3, v4, v5, v7] _ _ _ (HLD.out.below HB7.out) (by simp) HSZ.out HR7.out).mono ?_
    rintro e w2 ⟨hnum, hb2⟩
    have z2 := hb2.size
    have hX2 := zqf hb2 (Nat.lt_of_lt_of_le hXl z7) HX7b.out
    have HO2 := Lib.hid (HO7.out.below hb2)
    have c0 := (hb2.cell (p := ⟨g7, 0, none⟩) h8B).trans c8
    have hbB2 : Below w.heap.size w w2 := HB7.out.trans (hb2.mono z7)
    have HB := Lib.hid (hbB2.mono hBw)
    have HF := Lib.hid (Fr.of_below (ts := bkTs) hbB2)
    obtain ⟨_, a0, a1, a2, a3, a4, a5, af, az⟩ := own6 (g := X) (Below.refl _ w2) (gz_ hX2).1 hX2
    have HX2 := Lib.hid hX2
    rcases hnum with ⟨hok, AQ, capQ, rfl, how2⟩ | ⟨hno, rfl⟩
    rotate_left
    ·
     have HNo := Lib.hid (show partI b t.data.toList = none by rw [HPI.out, if_pos hno])
     clear hno hX2
     go_wp2_with fail
     go_ret
     exact PartP.no HNo.out HB.out HF.out
    have HOK := Lib.hid (show partI b t.data.toList = wordI b htlcW [v1, v2, v3, v4, v5, v7] true by rw [HPI.out, if_neg (by rw [hok]; simp)])
    have HW2 := Lib.hid how2
    clear hok hX2 how2 HX7b HO7 HPI hb2 hbB2 HB7
    by_cases hlt : b.hs.length < 60
    ·
     have hlt' : ((b.hs.length : Int) < 60) := by omega
     have hQ0 : 0 < ((([v1, v2, v3, v4, v5, v7].map numOf).map intCells)).length := by simp
     obtain ⟨Q, rfl, hQB⟩ := HW2.out.head_ hQ0
     clear hQ0
     have k0 := zxd HW2.out (k := 0) (by simp)
     have k1 := zxd HW2.out (k := 1) (by simp)
     have k2 := zxd HW2.out (k := 2) (by simp)
     have k3 := zxd HW2.out (k := 3) (by simp)
     have k4 := zxd HW2.out (k := 4) (by simp)
     have k5 := zxd HW2.out (k := 5) (by simp)
     simp only [List.map_cons, List.map_nil, List.getElem_cons_zero, List.getElem_cons_succ] at k0 k1 k2 k3 k4 k5
     obtain ⟨z0, hz0⟩ : ∃ z, numOf v1 = z := ⟨_, rfl⟩
     rw [hz0] at k0
     have HZ0 := Lib.hid hz0
     obtain ⟨z1, hz1⟩ : ∃ z, numOf v2 = z := ⟨_, rfl⟩
     rw [hz1] at k1
     have HZ1 := Lib.hid hz1
     obtain ⟨z2, hz2⟩ : ∃ z, numOf v3 = z := ⟨_, rfl⟩
     rw [hz2] at k2
     have HZ2 := Lib.hid hz2
     obtain ⟨z3, hz3⟩ : ∃ z, numOf v4 = z := ⟨_, rfl⟩
     rw [hz3] at k3
     have HZ3 := Lib.hid hz3
     obtain ⟨z4, hz4⟩ : ∃ z, numOf v5 = z := ⟨_, rfl⟩
     rw [hz4] at k4
     have HZ4 := Lib.hid hz4
     obtain ⟨z5, hz5⟩ : ∃ z, numOf v7 = z := ⟨_, rfl⟩
     rw [hz5] at k5
     have HZ5 := Lib.hid hz5
     have hQl : Q < w2.heap.size := Lib.lt_of_cell k0
     have NX := HW2.out.ne_ HX2.out (by decide)
     have hQX : Q ≠ X := fun e => NX (by rw [e]; rfl)
     clear NX hz0 hz1 hz2 hz3 hz4 hz5
     have HY := Lib.hid (show partI b t.data.toList = some { b with hs := b.hs ++ [⟨z0, z1, z2, z3, z4, true, z5⟩] } by
      rw [HOK.out]
      simp [wordI, numIx, zkj, zkk, hlt, HZ0.out, HZ1.out, HZ2.out, HZ3.out, HZ4.out, HZ5.out])
     obtain ⟨ti0, hi, hz0, hz1, hz2⟩ := info_parts zta
     have HI := Lib.hid hi
     have HZZ0 := Lib.hid hz0
     have HZZ1 := Lib.hid hz1
     have HZZ2 := Lib.hid hz2
     obtain ⟨curQ, hqh⟩ := HW2.out.heapB
     have NQ := Lib.hid (HO2.out.h.ne_ hqh (by decide))
     clear hqh HOK hi hz0 hz1 hz2
     go_wp2_with fail
     refine wp_region_noPanic ?_
     refine zkc (S := (fun w' => w'.cell? ⟨X, 4, none⟩ = some (.slice A2 b.hs.length p2) ∧ w'.cell? ⟨Q, 0, none⟩ = some (.int .i64 z0) ∧ w'.cell? ⟨Q, 1, none⟩ = some (.int .i64 z1) ∧ w'.cell? ⟨Q, 2, none⟩ = some (.int .i64 z2) ∧ w'.cell? ⟨Q, 3, none⟩ = some (.int .i64 z3) ∧ w'.cell? ⟨Q, 4, none⟩ = some (.int .i64 z4) ∧ w'.cell? ⟨Q, 5, none⟩ = some (.int .i64 z5))) rfl (by kernel_rfl) (by kernel_rfl) (by kernel_rfl) (by kernel_rfl) ?_ (fun hHeld => ?_)
     ·
      exact ⟨a4, k0, k1, k2, k3, k4, k5⟩
     obtain ⟨wd, hwd⟩ : ∃ wd, w2.drew = wd := ⟨_, rfl⟩
     have HXd : Hid (wd.heap[X]? = some (.cells #[.int .i64 b.t, .int .i64 b.n, .int .i64 b.w, .slice A1 b.cs.length p1, .slice A2 b.hs.length p2, .slice A3 b.os.length p3] 27 (0, 0))) := Lib.hid (by rw [← hwd]; exact HX2.out)
     have HOd : Hid (OwB wd B b A1 A2 A3 p1 p2 p3) := Lib.hid (by rw [← hwd]; exact HO2.out.drew)
     have HBd : Hid (Below B w wd) := Lib.hid (by rw [← hwd]; exact HB.out.drew)
     have HFd : Hid (Fr bkTs w wd) := Lib.hid (by rw [← hwd]; exact HF.out.drew)
     have hXd : X < wd.heap.size := (gz_ HXd.out).1
     have hQd : Q < wd.heap.size := by rw [← hwd]; exact hQl
     have hBd : B ≤ wd.heap.size := by omega
     have d0 : wd.cell? ⟨Q, 0, none⟩ = some (.int .i64 z0) := by rw [← hwd]; exact k0
     have d1 : wd.cell? ⟨Q, 1, none⟩ = some (.int .i64 z1) := by rw [← hwd]; exact k1
     have d2 : wd.cell? ⟨Q, 2, none⟩ = some (.int .i64 z2) := by rw [← hwd]; exact k2
     have d3 : wd.cell? ⟨Q, 3, none⟩ = some (.int .i64 z3) := by rw [← hwd]; exact k3
     have d4 : wd.cell? ⟨Q, 4, none⟩ = some (.int .i64 z4) := by rw [← hwd]; exact k4
     have d5 : wd.cell? ⟨Q, 5, none⟩ = some (.int .i64 z5) := by rw [← hwd]; exact k5
     have ad : wd.cell? ⟨X, 4, none⟩ = some (.slice A2 b.hs.length p2) := zqc HXd.out 4
     rw [hwd] at hHeld ⊢
     clear hwd a0 a1 a2 a3 a4 a5 k0 k1 k2 k3 k4 k5
     simp only [List.dropLast]
     refine tw0_ ?_
     refine tw1_ ?_
     refine tw2_ ?_
     refine tw3_ ?_
     refine tw4_ ?_
     refine tw5_ ?_
     refine tw6_ ?_
     refine tw7_ ?_
     refine tw8_ ?_
     refine tw9_ ?_
     refine tw10_ ?_
     refine tw11_ ?_
     refine tw12_ ?_
     refine tw13_ ?_
     refine tw14_ ?_
     refine tw15_ ?_
     refine tw16_ ?_
     refine tw17_ ?_
     refine tw18_ ?_
     refine tw19_ ?_
     refine tw20_ ?_
     refine tw21_ ?_
     refine tw22_ ?_
     refine tw23_ ?_
     refine tw24_ ?_
     refine wpAnyH_ready (rs := [25]) (by kernel_rfl) (by simp) ?_
     refine AllReadyH.cons rfl (fun K hK => ?_) ?_
     ·
      skip
      go_simp
      refine hK.out _ _ ?_ (fun hHeld => ?_)
      ·
       exact ⟨zqj hXd ad, zqj hQd d0, zqj hQd d1, zqj hQd d2, zqj hQd d3, zqj hQd d4, zqj hQd d5⟩
      clear hK K
      ((try simp only [Act.put]); (try simp only [List.setIfInBounds_toArray]); (repeat (first | simp only [List.set_cons_succ] | simp only [List.set_cons_zero])))
      refine wpAnyH_ready (rs := [26]) (by kernel_rfl) (by simp) ?_
      refine AllReadyH.cons rfl (fun K hK => ?_) ?_
      ·
       skip
       refine zvg (by rfl) _ _ _ (by rfl) B 46 ti0 _ 7 56 Tryz.underlying24 HI.out HZZ0.out HZZ1.out HZZ2.out rfl (by decide) (.slice A2 b.hs.length p2) (b.hs.map Htlc.cells) (by rfl) (HOd.out.h.alloc _) wd.heap.size 1 [.int .i64 z0, .int .i64 z1, .int .i64 z2, .int .i64 z3, .int .i64 z4, .bool true, .int .i64 z5] 46 (by rfl) (zxa (by first | rfl | (simp; done))) rfl (by simp [Value.oneCell']) (by rw [List.length_map]; omega) (by decide) (by first | omega | (simp; omega) | (simp; done)) ?_
       intro g2 cap2 w6 how6 hgr6 hat6 hlt6
       rw [List.length_map] at how6
       rw [List.length_map]
       have hOa := HOd.out.alloc (.cells ([.int .i64 z0, .int .i64 z1, .int .i64 z2, .int .i64 z3, .int .i64 z4, .bool true, .int .i64 z5] : List Value).toArray 46)
       have hX6 := zqg hgr6 (hOa.h.ne_ (zqe hXd HXd.out) (by decide)) (zqe hXd HXd.out)
       have hB6 := (HBd.out.alloc hBd _).grown hgr6 (by simp; omega) (fun k e => (hOa.h.block k e).1)
       have hF6 := (HFd.out.alloc _).grown hOa.h (by decide) hgr6
       have hQ6 := hgr6
       have hNQ : some Q ≠ (Value.slice A2 b.hs.length p2).ownBlock := NQ.out
       obtain ⟨_, f0, f1, f2, f3, f4, f5, ff, fz⟩ := own6 (g := X) (Below.refl _ w6) (gz_ hX6).1 hX6
       have e0 : w6.cell? ⟨Q, 0, none⟩ = some (.int .i64 z0) := (hgr6.cell_far ⟨Q, 0, none⟩ (by show Q < _; simp; omega) hNQ).trans (zqj hQd d0)
       have e1 : w6.cell? ⟨Q, 1, none⟩ = some (.int .i64 z1) := (hgr6.cell_far ⟨Q, 1, none⟩ (by show Q < _; simp; omega) hNQ).trans (zqj hQd d1)
       have e2 : w6.cell? ⟨Q, 2, none⟩ = some (.int .i64 z2) := (hgr6.cell_far ⟨Q, 2, none⟩ (by show Q < _; simp; omega) hNQ).trans (zqj hQd d2)
       have e3 : w6.cell? ⟨Q, 3, none⟩ = some (.int .i64 z3) := (hgr6.cell_far ⟨Q, 3, none⟩ (by show Q < _; simp; omega) hNQ).trans (zqj hQd d3)
       have e4 : w6.cell? ⟨Q, 4, none⟩ = some (.int .i64 z4) := (hgr6.cell_far ⟨Q, 4, none⟩ (by show Q < _; simp; omega) hNQ).trans (zqj hQd d4)
       have e5 : w6.cell? ⟨Q, 5, none⟩ = some (.int .i64 z5) := (hgr6.cell_far ⟨Q, 5, none⟩ (by show Q < _; simp; omega) hNQ).trans (zqj hQd d5)
       have HR6 := Lib.hid how6
       have HX6 := Lib.hid hX6
       have HB6 := Lib.hid hB6
       have HF6 := Lib.hid hF6
       have HOc := Lib.hid (hOa.c.apart_ hOa.h (by decide) hgr6)
       have HOo := Lib.hid (hOa.o.apart_ hOa.h (by decide) hgr6)
       clear how6 hgr6 hat6 hX6 hB6 hF6 hOa hQ6 hNQ
       refine hK.out _ _ ?_ (fun hHeld => ?_)
       ·
        exact ⟨f4, e0, e1, e2, e3, e4, e5⟩
       clear hK K
       ((try simp only [Act.put]); (try simp only [List.setIfInBounds_toArray]); (repeat (first | simp only [List.set_cons_succ] | simp only [List.set_cons_zero])))
       refine tw27_ ?_
       refine tw28_ ?_
       refine wpAnyH_done (by kernel_rfl) ?_ _
       intro KK hKK
       go_simp
       refine hKK _ _ (NoPanic.normal ?_)
       go_wp2_with fail
       go_ret
       refine PartP.yes HY.out (A1 := A1) (A2 := some ⟨g2, 0, none⟩) (A3 := A3) (p1 := p1) (p2 := cap2) (p3 := p3) ?_ ?_ ?_ ?_
       ·
        unfold BoxB
        dsimp only
        rw [List.length_append]
        exact (zyk HX6.out _).2.2.2.2.1
       ·
        exact ⟨HOc.out.aside HX6.out (by decide) _, by dsimp only; rw [List.length_append, List.map_append]; exact HR6.out.aside HX6.out (by decide) _, HOo.out.aside HX6.out (by decide) _⟩
       ·
        exact zvj HB6.out hBX _
       ·
        exact HF6.out.set HX6.out (by decide) _
      exact AllReadyH.nil
     exact AllReadyH.nil
    ·
     have hlt' : decide ((b.hs.length : Int) < 60) = false := decide_eq_false (by omega)
     have HN := Lib.hid (show partI b t.data.toList = none by
      rw [HOK.out]
      simp [wordI, zkj, zkk, zwa, zwc, hlt])
     go_wp2_with fail
     go_ret
     exact PartP.no HN.out HB.out HF.out
   exact AllReadyH.nil
  exact AllReadyH.nil
 refine AllReadyH.cons rfl (fun K hK => ?_) ?_
 ·
  skip
  go_simp
  refine hK.out _ _ (zqj hPd d7) (fun hHeld => ?_)
  clear hK K
  ((try simp only [Act.put]); (try simp only [List.setIfInBounds_toArray]); (repeat (first | simp only [List.set_cons_succ] | simp only [List.set_cons_zero])))
  refine wpAnyH_ready (rs := [2]) (by kernel_rfl) (by simp) ?_
  refine AllReadyH.cons rfl (fun K hK => ?_) ?_
  ·
   skip
   refine step_appN (by rfl) _ _ _ (by rfl) (w.heap.size + 1) 9 si0 _ 1 16 Tryz.underlying51 HSI.out HS0.out HS1.out HS2.out rfl (by decide) none 0 [] 0 rfl (by rfl) Ow.nil_ (some ⟨w.heap.size, 0, none⟩) 8 ([htlcW, v1, v2, v3, v4, v5].map strC) 6 rfl (by rfl) wd.heap.size (HRd.out.below ((Below.refl _ _).alloc (Nat.le_refl _) _)) HONE.out (by simp) (by decide) (by simp; omega) ?_
   intro A6 p6 w3 how3 hbl3 hgr3
   simp only [Nat.zero_add, List.nil_append] at how3 ⊢
   have z3 := hgr3.size
   (try simp at z3)
   have e7 : w3.cell? ⟨w.heap.size, 7, none⟩ = some (.string x7) := (hgr3.cell_far ⟨w.heap.size, 7, none⟩ (by show w.heap.size < _; simp; omega) (by simp [Value.ownBlock])).trans (zqj hPd d7)
   have hq7 : w3.heap[wd.heap.size]? = some (.cells #[.string x7] 9 (0, 0)) := zqg hgr3 (by simp [Value.ownBlock]) (zxa rfl)
   have HQ7 := Lib.hid hq7
   have HW3 := Lib.hid how3
   have HB3 := Lib.hid ((HBd.out.alloc (by omega) _).grown (row := none) hgr3 (by simp; omega) (fun k e => by cases e))
   clear how3 hbl3 hgr3 hq7
   refine hK.out _ _ e7 (fun hHeld => ?_)
   clear hK K
   ((try simp only [Act.put]); (try simp only [List.setIfInBounds_toArray]); (repeat (first | simp only [List.set_cons_succ] | simp only [List.set_cons_zero])))
   refine wpAnyH_ready (rs := [7]) (by kernel_rfl) (by simp) ?_
   refine AllReadyH.cons rfl (fun K hK => ?_) ?_
   ·
    skip
    refine zvg (by rfl) _ _ _ (by rfl) (w.heap.size + 1) 9 si0 _ 1 16 Tryz.underlying51 HSI.out HS0.out HS1.out HS2.out rfl (by decide) (.slice A6 6 p6) ([htlcW, v1, v2, v3, v4, v5].map strC) (by rfl) HW3.out wd.heap.size 1 [.string x7] 9 (by rfl) HQ7.out rfl (by simp [Value.oneCell']) (by simp) (by decide) (by omega) ?_
    intro g7 p7 w7 how7 hgr7 _ _
    have HW7 := Lib.hid how7
    have HB7 := Lib.hid (HB3.out.grown hgr7 (by omega) (fun k e => by have := (HW3.out.block k e).1; omega))
    have f7 : w7.cell? ⟨w.heap.size, 7, none⟩ = some (.string x7) := (hgr7.cell_far ⟨w.heap.size, 7, none⟩ (by show w.heap.size < _; omega) (fun e => by have := (HW3.out.block w.heap.size e.symm).1; omega)).trans e7
    clear how7 hgr7
    refine hK.out _ _ f7 (fun hHeld => ?_)
    clear hK K
    ((try simp only [Act.put]); (try simp only [List.setIfInBounds_toArray]); (repeat (first | simp only [List.set_cons_succ] | simp only [List.set_cons_zero])))
    refine tw8_ ?_
    refine wpAnyH_done (by kernel_rfl) ?_ _
    refine NoPanic.normal ?_
    have hX7 := zqf HB7.out hXl HX.out
    have HO7 := Lib.hid (HO.out.below HB7.out)
    have how7 : Ow w7 (w.heap.size + 1) 9 1 (.slice (some ⟨g7, 0, none⟩) 7 p7) ([htlcW, v1, v2, v3, v4, v5, v7].map strC) := by
     have := HW7.out
     rw [← HX7.out] at this
     simpa [strC] using this
    have hc7 : 7 ≤ p7 := by
     obtain ⟨A', cap', e1, _, h2, _⟩ := how7.form
     injection e1 with _ _ e3
     simp at h2
     omega
    obtain ⟨b8, off8, e8, h8B, c8⟩ := zkb how7.rd (k := 0) (by simp)
    simp only [Option.some.injEq, Addr.mk.injEq, and_true] at e8
    obtain ⟨rfl, rfl⟩ := e8
    simp only [List.getElem_cons_zero, Nat.add_zero] at c8
    have e0l : (⟨htlcW.toArray⟩ : ByteArray) = ⟨#[104, 116, 108, 99]⟩ := rfl
    rw [e0l] at c8
    clear e0l
    have HR7 := Lib.hid (zka how7.rd)
    have z7 := HB7.out.size
    have HX7b := Lib.hid hX7
    clear how7 hX7 HW7 HRd d7 hHeld e7 f7 HW3 HB3 HBd
    go_wp2_with fail
    refine (zjf [v1, v2, v3, v4, v5, v7] _ _ _ (HLD.out.below HB7.out) (by simp) HSZ.out HR7.out).mono ?_
    rintro e w2 ⟨hnum, hb2⟩
    have z2 := hb2.size
    have hX2 := zqf hb2 (Nat.lt_of_lt_of_le hXl z7) HX7b.out
    have HO2 := Lib.hid (HO7.out.below hb2)
    have c0 := (hb2.cell (p := ⟨g7, 0, none⟩) h8B).trans c8
    have hbB2 : Below w.heap.size w w2 := HB7.out.trans (hb2.mono z7)
    have HB := Lib.hid (hbB2.mono hBw)
    have HF := Lib.hid (Fr.of_below (ts := bkTs) hbB2)
    obtain ⟨_, a0, a1, a2, a3, a4, a5, af, az⟩ := own6 (g := X) (Below.refl _ w2) (gz_ hX2).1 hX2
    have HX2 := Lib.hid hX2
    rcases hnum with ⟨hok, AQ, capQ, rfl, how2⟩ | ⟨hno, rfl⟩
    rotate_left
    ·
     have HNo := Lib.hid (show partI b t.data.toList = none by rw [HPI.out, if_pos hno])
     clear hno hX2
     go_wp2_with fail
     go_ret
     exact PartP.no HNo.out HB.out HF.out
    have HOK := Lib.hid (show partI b t.data.toList = wordI b htlcW [v1, v2, v3, v4, v5, v7] true by rw [HPI.out, if_neg (by rw [hok]; simp)])
    have HW2 := Lib.hid how2
    clear hok hX2 how2 HX7b HO7 HPI hb2 hbB2 HB7
    by_cases hlt : b.hs.length < 60
    ·
     have hlt' : ((b.hs.length : Int) < 60) := by omega
     have hQ0 : 0 < ((([v1, v2, v3, v4, v5, v7].map numOf).map intCells)).length := by simp
     obtain ⟨Q, rfl, hQB⟩ := HW2.out.head_ hQ0
     clear hQ0
     have k0 := zxd HW2.out (k := 0) (by simp)
     have k1 := zxd HW2.out (k := 1) (by simp)
     have k2 := zxd HW2.out (k := 2) (by simp)
     have k3 := zxd HW2.out (k := 3) (by simp)
     have k4 := zxd HW2.out (k := 4) (by simp)
     have k5 := zxd HW2.out (k := 5) (by simp)
     simp only [List.map_cons, List.map_nil, List.getElem_cons_zero, List.getElem_cons_succ] at k0 k1 k2 k3 k4 k5
     obtain ⟨z0, hz0⟩ : ∃ z, numOf v1 = z := ⟨_, rfl⟩
     rw [hz0] at k0
     have HZ0 := Lib.hid hz0
     obtain ⟨z1, hz1⟩ : ∃ z, numOf v2 = z := ⟨_, rfl⟩
     rw [hz1] at k1
     have HZ1 := Lib.hid hz1
     obtain ⟨z2, hz2⟩ : ∃ z, numOf v3 = z := ⟨_, rfl⟩
     rw [hz2] at k2
     have HZ2 := Lib.hid hz2
     obtain ⟨z3, hz3⟩ : ∃ z, numOf v4 = z := ⟨_, rfl⟩
     rw [hz3] at k3
     have HZ3 := Lib.hid hz3
     obtain ⟨z4, hz4⟩ : ∃ z, numOf v5 = z := ⟨_, rfl⟩
     rw [hz4] at k4
     have HZ4 := Lib.hid hz4
     obtain ⟨z5, hz5⟩ : ∃ z, numOf v7 = z := ⟨_, rfl⟩
     rw [hz5] at k5
     have HZ5 := Lib.hid hz5
     have hQl : Q < w2.heap.size := Lib.lt_of_cell k0
     have NX := HW2.out.ne_ HX2.out (by decide)
     have hQX : Q ≠ X := fun e => NX (by rw [e]; rfl)
     clear NX hz0 hz1 hz2 hz3 hz4 hz5
     have HY := Lib.hid (show partI b t.data.toList = some { b with hs := b.hs ++ [⟨z0, z1, z2, z3, z4, true, z5⟩] } by
      rw [HOK.out]
      simp [wordI, numIx, zkj, zkk, hlt, HZ0.out, HZ1.out, HZ2.out, HZ3.out, HZ4.out, HZ5.out])
     obtain ⟨ti0, hi, hz0, hz1, hz2⟩ := info_parts zta
     have HI := Lib.hid hi
     have HZZ0 := Lib.hid hz0
     have HZZ1 := Lib.hid hz1
     have HZZ2 := Lib.hid hz2
     obtain ⟨curQ, hqh⟩ := HW2.out.heapB
     have NQ := Lib.hid (HO2.out.h.ne_ hqh (by decide))
     clear hqh HOK hi hz0 hz1 hz2
     go_wp2_with fail
     refine wp_region_noPanic ?_
     refine zkc (S := (fun w' => w'.cell? ⟨X, 4, none⟩ = some (.slice A2 b.hs.length p2) ∧ w'.cell? ⟨Q, 0, none⟩ = some (.int .i64 z0) ∧ w'.cell? ⟨Q, 1, none⟩ = some (.int .i64 z1) ∧ w'.cell? ⟨Q, 2, none⟩ = some (.int .i64 z2) ∧ w'.cell? ⟨Q, 3, none⟩ = some (.int .i64 z3) ∧ w'.cell? ⟨Q, 4, none⟩ = some (.int .i64 z4) ∧ w'.cell? ⟨Q, 5, none⟩ = some (.int .i64 z5))) rfl (by kernel_rfl) (by kernel_rfl) (by kernel_rfl) (by kernel_rfl) ?_ (fun hHeld => ?_)
     ·
      exact ⟨a4, k0, k1, k2, k3, k4, k5⟩
     obtain ⟨wd, hwd⟩ : ∃ wd, w2.drew = wd := ⟨_, rfl⟩
     have HXd : Hid (wd.heap[X]? = some (.cells #[.int .i64 b.t, .int .i64 b.n, .int .i64 b.w, .slice A1 b.cs.length p1, .slice A2 b.hs.length p2, .slice A3 b.os.length p3] 27 (0, 0))) := Lib.hid (by rw [← hwd]; exact HX2.out)
     have HOd : Hid (OwB wd B b A1 A2 A3 p1 p2 p3) := Lib.hid (by rw [← hwd]; exact HO2.out.drew)
     have HBd : Hid (Below B w wd) := Lib.hid (by rw [← hwd]; exact HB.out.drew)
     have HFd : Hid (Fr bkTs w wd) := Lib.hid (by rw [← hwd]; exact HF.out.drew)
     have hXd : X < wd.heap.size := (gz_ HXd.out).1
     have hQd : Q < wd.heap.size := by rw [← hwd]; exact hQl
     have hBd : B ≤ wd.heap.size := by omega
     have d0 : wd.cell? ⟨Q, 0, none⟩ = some (.int .i64 z0) := by rw [← hwd]; exact k0
     have d1 : wd.cell? ⟨Q, 1, none⟩ = some (.int .i64 z1) := by rw [← hwd]; exact k1
     have d2 : wd.cell? ⟨Q, 2, none⟩ = some (.int .i64 z2) := by rw [← hwd]; exact k2
     have d3 : wd.cell? ⟨Q, 3, none⟩ = some (.int .i64 z3) := by rw [← hwd]; exact k3
     have d4 : wd.cell? ⟨Q, 4, none⟩ = some (.int .i64 z4) := by rw [← hwd]; exact k4
     have d5 : wd.cell? ⟨Q, 5, none⟩ = some (.int .i64 z5) := by rw [← hwd]; exact k5
     have ad : wd.cell? ⟨X, 4, none⟩ = some (.slice A2 b.hs.length p2) := zqc HXd.out 4
     rw [hwd] at hHeld ⊢
     clear hwd a0 a1 a2 a3 a4 a5 k0 k1 k2 k3 k4 k5
     simp only [List.dropLast]
     refine tw0_ ?_
     refine tw1_ ?_
     refine tw2_ ?_
     refine tw3_ ?_
     refine tw4_ ?_
     refine tw5_ ?_
     refine tw6_ ?_
     refine tw7_ ?_
     refine tw8_ ?_
     refine tw9_ ?_
     refine tw10_ ?_
     refine tw11_ ?_
     refine tw12_ ?_
     refine tw13_ ?_
     refine tw14_ ?_
     refine tw15_ ?_
     refine tw16_ ?_
     refine tw17_ ?_
     refine tw18_ ?_
     refine tw19_ ?_
     refine tw20_ ?_
     refine tw21_ ?_
     refine tw22_ ?_
     refine tw23_ ?_
     refine tw24_ ?_
     refine wpAnyH_ready (rs := [25]) (by kernel_rfl) (by simp) ?_
     refine AllReadyH.cons rfl (fun K hK => ?_) ?_
     ·
      skip
      go_simp
      refine hK.out _ _ ?_ (fun hHeld => ?_)
      ·
       exact ⟨zqj hXd ad, zqj hQd d0, zqj hQd d1, zqj hQd d2, zqj hQd d3, zqj hQd d4, zqj hQd d5⟩
      clear hK K
      ((try simp only [Act.put]); (try simp only [List.setIfInBounds_toArray]); (repeat (first | simp only [List.set_cons_succ] | simp only [List.set_cons_zero])))
      refine wpAnyH_ready (rs := [26]) (by kernel_rfl) (by simp) ?_
      refine AllReadyH.cons rfl (fun K hK => ?_) ?_
      ·
       skip
       refine zvg (by rfl) _ _ _ (by rfl) B 46 ti0 _ 7 56 Tryz.underlying24 HI.out HZZ0.out HZZ1.out HZZ2.out rfl (by decide) (.slice A2 b.hs.length p2) (b.hs.map Htlc.cells) (by rfl) (HOd.out.h.alloc _) wd.heap.size 1 [.int .i64 z0, .int .i64 z1, .int .i64 z2, .int .i64 z3, .int .i64 z4, .bool true, .int .i64 z5] 46 (by rfl) (zxa (by first | rfl | (simp; done))) rfl (by simp [Value.oneCell']) (by rw [List.length_map]; omega) (by decide) (by first | omega | (simp; omega) | (simp; done)) ?_
       intro g2 cap2 w6 how6 hgr6 hat6 hlt6
       rw [List.length_map] at how6
       rw [List.length_map]
       have hOa := HOd.out.alloc (.cells ([.int .i64 z0, .int .i64 z1, .int .i64 z2, .int .i64 z3, .int .i64 z4, .bool true, .int .i64 z5] : List Value).toArray 46)
       have hX6 := zqg hgr6 (hOa.h.ne_ (zqe hXd HXd.out) (by decide)) (zqe hXd HXd.out)
       have hB6 := (HBd.out.alloc hBd _).grown hgr6 (by simp; omega) (fun k e => (hOa.h.block k e).1)
       have hF6 := (HFd.out.alloc _).grown hOa.h (by decide) hgr6
       have hQ6 := hgr6
       have hNQ : some Q ≠ (Value.slice A2 b.hs.length p2).ownBlock := NQ.out
       obtain ⟨_, f0, f1, f2, f3, f4, f5, ff, fz⟩ := own6 (g := X) (Below.refl _ w6) (gz_ hX6).1 hX6
       have e0 : w6.cell? ⟨Q, 0, none⟩ = some (.int .i64 z0) := (hgr6.cell_far ⟨Q, 0, none⟩ (by show Q < _; simp; omega) hNQ).trans (zqj hQd d0)
       have e1 : w6.cell? ⟨Q, 1, none⟩ = some (.int .i64 z1) := (hgr6.cell_far ⟨Q, 1, none⟩ (by show Q < _; simp; omega) hNQ).trans (zqj hQd d1)
       have e2 : w6.cell? ⟨Q, 2, none⟩ = some (.int .i64 z2) := (hgr6.cell_far ⟨Q, 2, none⟩ (by show Q < _; simp; omega) hNQ).trans (zqj hQd d2)
       have e3 : w6.cell? ⟨Q, 3, none⟩ = some (.int .i64 z3) := (hgr6.cell_far ⟨Q, 3, none⟩ (by show Q < _; simp; omega) hNQ).trans (zqj hQd d3)
       have e4 : w6.cell? ⟨Q, 4, none⟩ = some (.int .i64 z4) := (hgr6.cell_far ⟨Q, 4, none⟩ (by show Q < _; simp; omega) hNQ).trans (zqj hQd d4)
       have e5 : w6.cell? ⟨Q, 5, none⟩ = some (.int .i64 z5) := (hgr6.cell_far ⟨Q, 5, none⟩ (by show Q < _; simp; omega) hNQ).trans (zqj hQd d5)
       have HR6 := Lib.hid how6
       have HX6 := Lib.hid hX6
       have HB6 := Lib.hid hB6
       have HF6 := Lib.hid hF6
       have HOc := Lib.hid (hOa.c.apart_ hOa.h (by decide) hgr6)
       have HOo := Lib.hid (hOa.o.apart_ hOa.h (by decide) hgr6)
       clear how6 hgr6 hat6 hX6 hB6 hF6 hOa hQ6 hNQ
       refine hK.out _ _ ?_ (fun hHeld => ?_)
       ·
        exact ⟨f4, e0, e1, e2, e3, e4, e5⟩
       clear hK K
       ((try simp only [Act.put]); (try simp only [List.setIfInBounds_toArray]); (repeat (first | simp only [List.set_cons_succ] | simp only [List.set_cons_zero])))
       refine tw27_ ?_
       refine tw28_ ?_
       refine wpAnyH_done (by kernel_rfl) ?_ _
       intro KK hKK
       go_simp
       refine hKK _ _ (NoPanic.normal ?_)
       go_wp2_with fail
       go_ret
       refine PartP.yes HY.out (A1 := A1) (A2 := some ⟨g2, 0, none⟩) (A3 := A3) (p1 := p1) (p2 := cap2) (p3 := p3) ?_ ?_ ?_ ?_
       ·
        unfold BoxB
        dsimp only
        rw [List.length_append]
        exact (zyk HX6.out _).2.2.2.2.1
       ·
        exact ⟨HOc.out.aside HX6.out (by decide) _, by dsimp only; rw [List.length_append, List.map_append]; exact HR6.out.aside HX6.out (by decide) _, HOo.out.aside HX6.out (by decide) _⟩
       ·
        exact zvj HB6.out hBX _
       ·
        exact HF6.out.set HX6.out (by decide) _
      exact AllReadyH.nil
     exact AllReadyH.nil
    ·
     have hlt' : decide ((b.hs.length : Int) < 60) = false := decide_eq_false (by omega)
     have HN := Lib.hid (show partI b t.data.toList = none by
      rw [HOK.out]
      simp [wordI, zkj, zkk, zwa, zwc, hlt])
     go_wp2_with fail
     go_ret
     exact PartP.no HN.out HB.out HF.out
   exact AllReadyH.nil
  exact AllReadyH.nil
 exact AllReadyH.nil
end Go.Proofs.YtcjbjpobpefehaaGreatDoor
