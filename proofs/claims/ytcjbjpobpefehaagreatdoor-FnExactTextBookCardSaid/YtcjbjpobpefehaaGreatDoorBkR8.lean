/- A line of a book read by the program: eight words, a payment. -/
import Derived.Test.YtcjbjpobpefehaaGreatDoorRows
import Derived.Test.YtcjbjpobpefehaaGreatDoorM4
import Derived.Test.YtcjbjpobpefehaaGreatDoorM1
import Derived.Deep.RegionHeld3
namespace Go.Proofs.YtcjbjpobpefehaaGreatDoor
open Go.RowKit Go.Deep

set_option maxRecDepth 100000 in
set_option maxHeartbeats 4000000 in
theorem i_textPart_A_few (X B : Nat) (b : Bk) (A1 A2 A3 : Option Addr) (p1 p2 p3 : Nat) (t : ByteArray) (w : World) (hld : Le w) (hs : t.size ≤ 1048576) (hX : BoxB w X b A1 A2 A3 p1 p2 p3) (hO : OwB w B b A1 A2 A3 p1 p2 p3) (hBX : B ≤ X) (hl : b.cs.length ≤ 20 ∧ b.hs.length ≤ 60 ∧ b.os.length ≤ 20) (v1 v2 v3 v4 v5 k v7 : List UInt8) (nk : k ≠ keptW true) (hP : parts 32 t.data.toList = [htlcW, v1, v2, v3, v4, v5, k, v7]) :
    Calls Tryz.prog 27 #[.pointer (some ⟨X, 0, none⟩), .string t] w (PartP X B b t.data.toList w) := by
  have hl1 := hl.1
  have hl2 := hl.2.1
  have hl3 := hl.2.2
  clear hl
  have HLD := Lib.hid hld
  have hXl : X < w.heap.size := hX.lt
  have hBw : B ≤ w.heap.size := by omega
  have HX := Lib.hid hX
  have HO := Lib.hid hO
  have HC := Lib.hid (i_Split t 32 w hld.toLd (by omega))
  have hz : t.data.toList.length = t.size := Array.length_toList
  have hsub := parts_sub 32 t.data.toList
  rw [hP] at hsub
  have HSZ := Lib.hid (show ∀ x ∈ [v1, v2, v3, v4, v5, v7], x.length ≤ 1048576 from fun x hx => by
    have := hsub x (by
      simp only [List.mem_cons, List.not_mem_nil, or_false] at hx ⊢
      rcases hx with h | h | h | h | h | h <;> simp [h])
    omega)
  have hcut : cutI [htlcW, v1, v2, v3, v4, v5, k, v7] = [htlcW, v1, v2, v3, v4, v5, v7] := if_pos ⟨rfl, rfl⟩
  have hkept : keptI [htlcW, v1, v2, v3, v4, v5, k, v7] = false := by
    unfold keptI
    show (true && true && (k == keptW true)) = false
    rw [beq_eq_false_iff_ne.2 nk]
    rfl
  have HPI := Lib.hid (show partI b t.data.toList = if [v1, v2, v3, v4, v5, v7].all numOk = false then none else wordI b htlcW [v1, v2, v3, v4, v5, v7] false by
    unfold partI
    rw [hP, hcut, hkept]
    rfl)
  rw [hP] at HC
  obtain ⟨x7, hx7', hx7⟩ := str_of v7
  obtain ⟨x6, hx6', hx6⟩ := str_of k
  have q6 : ¬ x6.toList = [107, 101, 112, 116] := fun e => nk (hx6.out.data.symm.trans ((Lib.toList_data x6).symm.trans e))
  have qb6 : (x6.toList == [107, 101, 112, 116]) = false := beq_eq_false_iff_ne.2 q6
  obtain ⟨si0, hi, hz0, hz1, hz2⟩ := info_parts info_str
  have HSI := Lib.hid hi
  have HS0 := Lib.hid hz0
  have HS1 := Lib.hid hz1
  have HS2 := Lib.hid hz2
  clear hP hsub hz hcut hkept hld hX hO hi hz0 hz1 hz2
  go_enter Tryz.func27, Tryz.ntmps27
  go_wp2_with fail
  refine HC.out.mono ?_
  rintro e w1 ⟨rfl, how1, hb1⟩
  have z1 := hb1.size
  have hN : ([htlcW, v1, v2, v3, v4, v5, k, v7] : List (List UInt8)).length = 8 := rfl
  rw [hN] at how1 ⊢
  have HR1 := Lib.hid how1.rd
  have hr1 := how1.rd
  obtain ⟨b0, off0, e0, hbB, c0⟩ := strs_rd hr1 (k := 0) (by simp)
  obtain ⟨b6, off6, e6, _, c6⟩ := strs_rd hr1 (k := 6) (by simp)
  obtain ⟨b7, off7, e7, _, c7⟩ := strs_rd hr1 (k := 7) (by simp)
  simp only [Option.some.injEq, Addr.mk.injEq, and_true] at e0 e6 e7
  obtain ⟨rfl, rfl⟩ := e0
  obtain ⟨rfl, rfl⟩ := e6
  obtain ⟨rfl, rfl⟩ := e7
  simp only [List.getElem_cons_zero, List.getElem_cons_succ, Nat.add_zero, Nat.zero_add] at c0 c6 c7
  rw [hx7'] at c7
  have e0l : (⟨htlcW.toArray⟩ : ByteArray) = ⟨#[104, 116, 108, 99]⟩ := rfl
  rw [e0l] at c0
  clear e0l
  rw [hx6'] at c6
  clear hx6'
  have hbA : Below w.heap.size w w1 := hb1
  have hH6 : Rd w1.drew w1.heap.size 1 (some ⟨w.heap.size, 0, none⟩) ([htlcW, v1, v2, v3, v4, v5].map strC) := by
    have := hr1.take 6
    show Rd w1 _ _ _ _
    simpa using this
  have HR6 := Lib.hid hH6
  have H1 : ∀ u ∈ (([htlcW, v1, v2, v3, v4, v5].map strC)).flatten, u.oneCell' = true := by
    intro u hu
    rw [strs_flat] at hu
    obtain ⟨y, _, rfl⟩ := List.mem_map.1 hu
    rfl
  have HONE := Lib.hid H1
  have HX7 := Lib.hid hx7'
  clear hN how1 hr1 hb1 H1 hH6 hx7'
  go_wp2_with fail
  refine wp_region_noPanic ?_
  refine wp_region_held_drew (S := (fun w' => w'.cell? ⟨w.heap.size, 7, none⟩ = some (.string x7))) (by kernel_rfl) c7 (fun hHeld => ?_)
  obtain ⟨wd, hwd⟩ : ∃ wd, w1.drew = wd := ⟨_, rfl⟩
  have HBd : Hid (Below w.heap.size w wd) := Lib.hid (by rw [← hwd]; exact hbA.drew)
  have HRd : Hid (Rd wd wd.heap.size 1 (some ⟨w.heap.size, 0, none⟩) ([htlcW, v1, v2, v3, v4, v5].map strC)) := Lib.hid (by rw [← hwd]; exact HR6.out)
  have hPd : w.heap.size < wd.heap.size := by rw [← hwd]; exact hbB
  have d7 : wd.cell? ⟨w.heap.size, 7, none⟩ = some (.string x7) := by rw [← hwd]; exact c7
  rw [hwd] at hHeld ⊢
  clear hwd c0 c6 c7 HR6 HR1 hbA
  refine wpAnyH_take (i := 0) (v := ?v141) rfl (by kernel_rfl) (by kernel_rfl) (by kernel_rfl) (fun _ _ _ h => h) (Or.inl ⟨by rfl, ?hy141⟩) (by assumption) ?rest141
  case hy141 => (intro w hSw; (try dsimp only at hSw); go_simp; (try with_reducible rfl))
  ((try simp only [Act.put]); (try simp only [List.setIfInBounds_toArray]); (repeat (first | simp only [List.set_cons_succ] | simp only [List.set_cons_zero])))
  refine wpAnyH_take (i := 1) (v := ?v142) rfl (by kernel_rfl) (by kernel_rfl) (by kernel_rfl) (fun _ _ _ h => h) (Or.inl ⟨by rfl, ?hy142⟩) (by assumption) ?rest142
  case hy142 => (intro w hSw; (try dsimp only at hSw); go_simp; (try with_reducible rfl))
  ((try simp only [Act.put]); (try simp only [List.setIfInBounds_toArray]); (repeat (first | simp only [List.set_cons_succ] | simp only [List.set_cons_zero])))
  refine wpAnyH_take (i := 3) (v := ?v143) rfl (by kernel_rfl) (by kernel_rfl) (by kernel_rfl) (fun _ _ _ h => h) (Or.inl ⟨by rfl, ?hy143⟩) (by assumption) ?rest143
  case hy143 => (intro w hSw; (try dsimp only at hSw); go_simp; (try with_reducible rfl))
  ((try simp only [Act.put]); (try simp only [List.setIfInBounds_toArray]); (repeat (first | simp only [List.set_cons_succ] | simp only [List.set_cons_zero])))
  refine wpAnyH_take (i := 4) (v := ?v144) rfl (by kernel_rfl) (by kernel_rfl) (by kernel_rfl) (fun _ _ _ h => h) (Or.inl ⟨by rfl, ?hy144⟩) (by assumption) ?rest144
  case hy144 => (intro w hSw; (try dsimp only at hSw); go_simp; (try with_reducible rfl))
  ((try simp only [Act.put]); (try simp only [List.setIfInBounds_toArray]); (repeat (first | simp only [List.set_cons_succ] | simp only [List.set_cons_zero])))
  refine wpAnyH_take (i := 5) (v := ?v145) rfl (by kernel_rfl) (by kernel_rfl) (by kernel_rfl) (fun _ _ _ h => h) (Or.inl ⟨by rfl, ?hy145⟩) (by assumption) ?rest145
  case hy145 => (intro w hSw; (try dsimp only at hSw); go_simp; (try with_reducible rfl))
  ((try simp only [Act.put]); (try simp only [List.setIfInBounds_toArray]); (repeat (first | simp only [List.set_cons_succ] | simp only [List.set_cons_zero])))
  refine wpAnyH_ready (rs := [2, 6]) (by kernel_rfl) (by simp) ?_
  refine AllReadyH.cons rfl (fun K hK => ?_) ?_
  · skip
    refine step_appN (by rfl) _ _ _ (by rfl) (w.heap.size + 1) 9 si0 _ 1 16 Tryz.underlying51 HSI.out HS0.out HS1.out HS2.out rfl (by decide) none 0 [] 0 rfl (by rfl) Ow.nil_ (some ⟨w.heap.size, 0, none⟩) 8 ([htlcW, v1, v2, v3, v4, v5].map strC) 6 rfl (by rfl) wd.heap.size HRd.out HONE.out (by simp) (by decide) (by omega) ?_
    intro A6 p6 w3 how3 hbl3 hgr3
    simp only [Nat.zero_add, List.nil_append] at how3 ⊢
    have z3 := hgr3.size
    have e7 : w3.cell? ⟨w.heap.size, 7, none⟩ = some (.string x7) := (hgr3.cell_far ⟨w.heap.size, 7, none⟩ hPd (by simp [Value.ownBlock])).trans d7
    have HW3 := Lib.hid how3
    have HB3 := Lib.hid (HBd.out.grown (row := none) hgr3 (by omega) (fun k e => by cases e))
    clear how3 hbl3 hgr3
    refine hK.out _ _ e7 (fun hHeld => ?_)
    clear hK K
    ((try simp only [Act.put]); (try simp only [List.setIfInBounds_toArray]); (repeat (first | simp only [List.set_cons_succ] | simp only [List.set_cons_zero])))
    refine wpAnyH_ready (rs := [6]) (by kernel_rfl) (by simp) ?_
    refine AllReadyH.cons rfl (fun K hK => ?_) ?_
    · skip
      go_simp
      refine hK.out _ _ (cell_past (by show w.heap.size < _; omega) e7) (fun hHeld => ?_)
      clear hK K
      ((try simp only [Act.put]); (try simp only [List.setIfInBounds_toArray]); (repeat (first | simp only [List.set_cons_succ] | simp only [List.set_cons_zero])))
      refine wpAnyH_ready (rs := [7]) (by kernel_rfl) (by simp) ?_
      refine AllReadyH.cons rfl (fun K hK => ?_) ?_
      · skip
        refine step_app1 (by rfl) _ _ _ (by rfl) (w.heap.size + 1) 9 si0 _ 1 16 Tryz.underlying51 HSI.out HS0.out HS1.out HS2.out rfl (by decide) (.slice A6 6 p6) ([htlcW, v1, v2, v3, v4, v5].map strC) (by rfl) (HW3.out.alloc _) w3.heap.size 1 [.string x7] 9 (by rfl) (heap_at (by first | rfl | (simp; done))) rfl (by simp [Value.oneCell']) (by simp) (by decide) (by simp; omega) ?_
        intro g7 p7 w7 how7 hgr7 _ _
        have HW7 := Lib.hid how7
        have HB7 := Lib.hid ((HB3.out.alloc (by omega) _).grown hgr7 (by simp; omega) (fun k e => by have := (HW3.out.block k e).1; omega))
        have f7 : w7.cell? ⟨w.heap.size, 7, none⟩ = some (.string x7) := (hgr7.cell_far ⟨w.heap.size, 7, none⟩ (by show w.heap.size < _; simp; omega) (fun e => by have := (HW3.out.block w.heap.size e.symm).1; omega)).trans (cell_past (by show w.heap.size < _; omega) e7)
        clear how7 hgr7
        refine hK.out _ _ f7 (fun hHeld => ?_)
        clear hK K
        ((try simp only [Act.put]); (try simp only [List.setIfInBounds_toArray]); (repeat (first | simp only [List.set_cons_succ] | simp only [List.set_cons_zero])))
        refine wpAnyH_take (i := 8) (v := ?v146) rfl (by kernel_rfl) (by kernel_rfl) (by kernel_rfl) (fun _ _ _ h => h) (Or.inl ⟨by rfl, ?hy146⟩) (by assumption) ?rest146
        case hy146 => (intro w hSw; (try dsimp only at hSw); go_simp; (try with_reducible rfl))
        ((try simp only [Act.put]); (try simp only [List.setIfInBounds_toArray]); (repeat (first | simp only [List.set_cons_succ] | simp only [List.set_cons_zero])))
        refine wpAnyH_done (by kernel_rfl) ?_ _
        refine NoPanic.normal ?_
        have hX7 := heap_below HB7.out hXl HX.out
        have HO7 := Lib.hid (HO.out.below HB7.out)
        have how7 : Ow w7 (w.heap.size + 1) 9 1 (.slice (some ⟨g7, 0, none⟩) 7 p7) ([htlcW, v1, v2, v3, v4, v5, v7].map strC) := by
          have := HW7.out
          rw [← HX7.out] at this
          simpa [strC] using this
        have hc7 : 7 ≤ p7 := by
          obtain ⟨A', cap', e1, _, h2, _⟩ := how7.form
          injection e1 with _ _ e3
          simp at h2
          omega
        obtain ⟨b8, off8, e8, h8B, c8⟩ := strs_rd how7.rd (k := 0) (by simp)
        simp only [Option.some.injEq, Addr.mk.injEq, and_true] at e8
        obtain ⟨rfl, rfl⟩ := e8
        simp only [List.getElem_cons_zero, Nat.add_zero] at c8
        have e0l : (⟨htlcW.toArray⟩ : ByteArray) = ⟨#[104, 116, 108, 99]⟩ := rfl
        rw [e0l] at c8
        clear e0l
        have HR7 := Lib.hid (strs_tail how7.rd)
        have z7 := HB7.out.size
        have HX7b := Lib.hid hX7
        clear how7 hX7 HW7 HRd d7 hHeld e7 f7 HW3 HB3 HBd
        go_wp2_with fail
        refine (i_numbersOf [v1, v2, v3, v4, v5, v7] _ _ _ (HLD.out.below HB7.out) (by simp) HSZ.out HR7.out).mono ?_
        rintro e w2 ⟨hnum, hb2⟩
        have z2 := hb2.size
        have hX2 := heap_below hb2 (Nat.lt_of_lt_of_le hXl z7) HX7b.out
        have HO2 := Lib.hid (HO7.out.below hb2)
        have c0 := (hb2.cell (p := ⟨g7, 0, none⟩) h8B).trans c8
        have hbB2 : Below w.heap.size w w2 := HB7.out.trans (hb2.mono z7)
        have HB := Lib.hid (hbB2.mono hBw)
        have HF := Lib.hid (Fr.of_below (ts := bkTs) hbB2)
        obtain ⟨_, a0, a1, a2, a3, a4, a5, af, az⟩ := own6 (g := X) (Below.refl _ w2) (Array.getElem?_eq_some_iff.1 hX2).1 hX2
        have HX2 := Lib.hid hX2
        rcases hnum with ⟨hok, AQ, capQ, rfl, how2⟩ | ⟨hno, rfl⟩
        rotate_left
        · have HNo := Lib.hid (show partI b t.data.toList = none by rw [HPI.out, if_pos hno])
          clear hno hX2
          go_wp2_with fail
          go_ret
          exact PartP.no HNo.out HB.out HF.out
        have HOK := Lib.hid (show partI b t.data.toList = wordI b htlcW [v1, v2, v3, v4, v5, v7] false by rw [HPI.out, if_neg (by rw [hok]; simp)])
        have HW2 := Lib.hid how2
        clear hok hX2 how2 HX7b HO7 HPI hb2 hbB2 HB7
        by_cases hlt : b.hs.length < 60
        · have hlt' : ((b.hs.length : Int) < 60) := by omega
          have hQ0 : 0 < ((([v1, v2, v3, v4, v5, v7].map numOf).map intCells)).length := by simp
          obtain ⟨Q, rfl, hQB⟩ := HW2.out.head_ hQ0
          clear hQ0
          have k0 := ints_cells HW2.out (k := 0) (by simp)
          have k1 := ints_cells HW2.out (k := 1) (by simp)
          have k2 := ints_cells HW2.out (k := 2) (by simp)
          have k3 := ints_cells HW2.out (k := 3) (by simp)
          have k4 := ints_cells HW2.out (k := 4) (by simp)
          have k5 := ints_cells HW2.out (k := 5) (by simp)
          simp only [List.map_cons, List.map_nil, List.getElem_cons_zero, List.getElem_cons_succ] at k0 k1 k2 k3 k4 k5
          obtain ⟨z0, hz0⟩ : ∃ z, numOf v1 = z := ⟨_, rfl⟩
          rw [hz0] at k0
          have HZ0 := Lib.hid hz0
          obtain ⟨z1, hz1⟩ : ∃ z, numOf v2 = z := ⟨_, rfl⟩
          rw [hz1] at k1
          have HZ1 := Lib.hid hz1
          obtain ⟨z2, hz2⟩ : ∃ z, numOf v3 = z := ⟨_, rfl⟩
          rw [hz2] at k2
          have HZ2 := Lib.hid hz2
          obtain ⟨z3, hz3⟩ : ∃ z, numOf v4 = z := ⟨_, rfl⟩
          rw [hz3] at k3
          have HZ3 := Lib.hid hz3
          obtain ⟨z4, hz4⟩ : ∃ z, numOf v5 = z := ⟨_, rfl⟩
          rw [hz4] at k4
          have HZ4 := Lib.hid hz4
          obtain ⟨z5, hz5⟩ : ∃ z, numOf v7 = z := ⟨_, rfl⟩
          rw [hz5] at k5
          have HZ5 := Lib.hid hz5
          have hQl : Q < w2.heap.size := Lib.lt_of_cell k0
          have NX := HW2.out.ne_ HX2.out (by decide)
          have hQX : Q ≠ X := fun e => NX (by rw [e]; rfl)
          clear NX hz0 hz1 hz2 hz3 hz4 hz5
          have HY := Lib.hid (show partI b t.data.toList = some { b with hs := b.hs ++ [⟨z0, z1, z2, z3, z4, false, z5⟩] } by
            rw [HOK.out]
            simp [wordI, numIx, ne_htlc_book, ne_htlc_chan, hlt, HZ0.out, HZ1.out, HZ2.out, HZ3.out, HZ4.out, HZ5.out])
          obtain ⟨ti0, hi, hz0, hz1, hz2⟩ := info_parts info_htlcB
          have HI := Lib.hid hi
          have HZZ0 := Lib.hid hz0
          have HZZ1 := Lib.hid hz1
          have HZZ2 := Lib.hid hz2
          obtain ⟨curQ, hqh⟩ := HW2.out.heapB
          have NQ := Lib.hid (HO2.out.h.ne_ hqh (by decide))
          clear hqh HOK hi hz0 hz1 hz2
          go_wp2_with fail
          refine wp_region_noPanic ?_
          refine wp_region_lastL2 (S := (fun w' => w'.cell? ⟨X, 4, none⟩ = some (.slice A2 b.hs.length p2) ∧ w'.cell? ⟨Q, 0, none⟩ = some (.int .i64 z0) ∧ w'.cell? ⟨Q, 1, none⟩ = some (.int .i64 z1) ∧ w'.cell? ⟨Q, 2, none⟩ = some (.int .i64 z2) ∧ w'.cell? ⟨Q, 3, none⟩ = some (.int .i64 z3) ∧ w'.cell? ⟨Q, 4, none⟩ = some (.int .i64 z4) ∧ w'.cell? ⟨Q, 5, none⟩ = some (.int .i64 z5))) rfl (by kernel_rfl) (by kernel_rfl) (by kernel_rfl) (by kernel_rfl) ?_ (fun hHeld => ?_)
          · exact ⟨a4, k0, k1, k2, k3, k4, k5⟩
          obtain ⟨wd, hwd⟩ : ∃ wd, w2.drew = wd := ⟨_, rfl⟩
          have HXd : Hid (wd.heap[X]? = some (.cells #[.int .i64 b.t, .int .i64 b.n, .int .i64 b.w, .slice A1 b.cs.length p1, .slice A2 b.hs.length p2, .slice A3 b.os.length p3] 27 (0, 0))) := Lib.hid (by rw [← hwd]; exact HX2.out)
          have HOd : Hid (OwB wd B b A1 A2 A3 p1 p2 p3) := Lib.hid (by rw [← hwd]; exact HO2.out.drew)
          have HBd : Hid (Below B w wd) := Lib.hid (by rw [← hwd]; exact HB.out.drew)
          have HFd : Hid (Fr bkTs w wd) := Lib.hid (by rw [← hwd]; exact HF.out.drew)
          have hXd : X < wd.heap.size := (Array.getElem?_eq_some_iff.1 HXd.out).1
          have hQd : Q < wd.heap.size := by rw [← hwd]; exact hQl
          have hBd : B ≤ wd.heap.size := by omega
          have d0 : wd.cell? ⟨Q, 0, none⟩ = some (.int .i64 z0) := by rw [← hwd]; exact k0
          have d1 : wd.cell? ⟨Q, 1, none⟩ = some (.int .i64 z1) := by rw [← hwd]; exact k1
          have d2 : wd.cell? ⟨Q, 2, none⟩ = some (.int .i64 z2) := by rw [← hwd]; exact k2
          have d3 : wd.cell? ⟨Q, 3, none⟩ = some (.int .i64 z3) := by rw [← hwd]; exact k3
          have d4 : wd.cell? ⟨Q, 4, none⟩ = some (.int .i64 z4) := by rw [← hwd]; exact k4
          have d5 : wd.cell? ⟨Q, 5, none⟩ = some (.int .i64 z5) := by rw [← hwd]; exact k5
          have ad : wd.cell? ⟨X, 4, none⟩ = some (.slice A2 b.hs.length p2) := blk_cell HXd.out 4
          rw [hwd] at hHeld ⊢
          clear hwd a0 a1 a2 a3 a4 a5 k0 k1 k2 k3 k4 k5
          simp only [List.dropLast]
          refine wpAnyH_take (i := 0) (v := ?v147) rfl (by kernel_rfl) (by kernel_rfl) (by kernel_rfl) (fun _ _ _ h => h) (Or.inl ⟨by rfl, ?hy147⟩) (by assumption) ?rest147
          case hy147 => (intro w hSw; (try dsimp only at hSw); go_simp; (try with_reducible rfl))
          ((try simp only [Act.put]); (try simp only [List.setIfInBounds_toArray]); (repeat (first | simp only [List.set_cons_succ] | simp only [List.set_cons_zero])))
          refine wpAnyH_take (i := 1) (v := ?v148) rfl (by kernel_rfl) (by kernel_rfl) (by kernel_rfl) (fun _ _ _ h => h) (Or.inl ⟨by rfl, ?hy148⟩) (by assumption) ?rest148
          case hy148 => (intro w hSw; (try dsimp only at hSw); go_simp; (try with_reducible rfl))
          ((try simp only [Act.put]); (try simp only [List.setIfInBounds_toArray]); (repeat (first | simp only [List.set_cons_succ] | simp only [List.set_cons_zero])))
          refine wpAnyH_take (i := 2) (v := ?v149) rfl (by kernel_rfl) (by kernel_rfl) (by kernel_rfl) (fun _ _ _ h => h) (Or.inl ⟨by rfl, ?hy149⟩) (by assumption) ?rest149
          case hy149 => (intro w hSw; (try dsimp only at hSw); go_simp; (try with_reducible rfl))
          ((try simp only [Act.put]); (try simp only [List.setIfInBounds_toArray]); (repeat (first | simp only [List.set_cons_succ] | simp only [List.set_cons_zero])))
          refine wpAnyH_take (i := 3) (v := ?v150) rfl (by kernel_rfl) (by kernel_rfl) (by kernel_rfl) (fun _ _ _ h => h) (Or.inl ⟨by rfl, ?hy150⟩) (by assumption) ?rest150
          case hy150 => (intro w hSw; (try dsimp only at hSw); go_simp; (try with_reducible rfl))
          ((try simp only [Act.put]); (try simp only [List.setIfInBounds_toArray]); (repeat (first | simp only [List.set_cons_succ] | simp only [List.set_cons_zero])))
          refine wpAnyH_take (i := 4) (v := ?v151) rfl (by kernel_rfl) (by kernel_rfl) (by kernel_rfl) (fun _ _ _ h => h) (Or.inl ⟨by rfl, ?hy151⟩) (by assumption) ?rest151
          case hy151 => (intro w hSw; (try dsimp only at hSw); go_simp; (try with_reducible rfl))
          ((try simp only [Act.put]); (try simp only [List.setIfInBounds_toArray]); (repeat (first | simp only [List.set_cons_succ] | simp only [List.set_cons_zero])))
          refine wpAnyH_take (i := 5) (v := ?v152) rfl (by kernel_rfl) (by kernel_rfl) (by kernel_rfl) (fun _ _ _ h => h) (Or.inl ⟨by rfl, ?hy152⟩) (by assumption) ?rest152
          case hy152 => (intro w hSw; (try dsimp only at hSw); go_simp; (try with_reducible rfl))
          ((try simp only [Act.put]); (try simp only [List.setIfInBounds_toArray]); (repeat (first | simp only [List.set_cons_succ] | simp only [List.set_cons_zero])))
          refine wpAnyH_take (i := 6) (v := ?v153) rfl (by kernel_rfl) (by kernel_rfl) (by kernel_rfl) (fun _ _ _ h => h) (Or.inl ⟨by rfl, ?hy153⟩) (by assumption) ?rest153
          case hy153 => (intro w hSw; (try dsimp only at hSw); go_simp; (try with_reducible rfl))
          ((try simp only [Act.put]); (try simp only [List.setIfInBounds_toArray]); (repeat (first | simp only [List.set_cons_succ] | simp only [List.set_cons_zero])))
          refine wpAnyH_take (i := 7) (v := ?v154) rfl (by kernel_rfl) (by kernel_rfl) (by kernel_rfl) (fun _ _ _ h => h) (Or.inl ⟨by rfl, ?hy154⟩) (by assumption) ?rest154
          case hy154 => (intro w hSw; (try dsimp only at hSw); go_simp; (try with_reducible rfl))
          ((try simp only [Act.put]); (try simp only [List.setIfInBounds_toArray]); (repeat (first | simp only [List.set_cons_succ] | simp only [List.set_cons_zero])))
          refine wpAnyH_take (i := 8) (v := ?v155) rfl (by kernel_rfl) (by kernel_rfl) (by kernel_rfl) (fun _ _ _ h => h) (Or.inl ⟨by rfl, ?hy155⟩) (by assumption) ?rest155
          case hy155 => (intro w hSw; (try dsimp only at hSw); go_simp; (try with_reducible rfl))
          ((try simp only [Act.put]); (try simp only [List.setIfInBounds_toArray]); (repeat (first | simp only [List.set_cons_succ] | simp only [List.set_cons_zero])))
          refine wpAnyH_take (i := 9) (v := ?v156) rfl (by kernel_rfl) (by kernel_rfl) (by kernel_rfl) (fun _ _ _ h => h) (Or.inl ⟨by rfl, ?hy156⟩) (by assumption) ?rest156
          case hy156 => (intro w hSw; (try dsimp only at hSw); go_simp; (try with_reducible rfl))
          ((try simp only [Act.put]); (try simp only [List.setIfInBounds_toArray]); (repeat (first | simp only [List.set_cons_succ] | simp only [List.set_cons_zero])))
          refine wpAnyH_take (i := 10) (v := ?v157) rfl (by kernel_rfl) (by kernel_rfl) (by kernel_rfl) (fun _ _ _ h => h) (Or.inl ⟨by rfl, ?hy157⟩) (by assumption) ?rest157
          case hy157 => (intro w hSw; (try dsimp only at hSw); go_simp; (try with_reducible rfl))
          ((try simp only [Act.put]); (try simp only [List.setIfInBounds_toArray]); (repeat (first | simp only [List.set_cons_succ] | simp only [List.set_cons_zero])))
          refine wpAnyH_take (i := 11) (v := ?v158) rfl (by kernel_rfl) (by kernel_rfl) (by kernel_rfl) (fun _ _ _ h => h) (Or.inl ⟨by rfl, ?hy158⟩) (by assumption) ?rest158
          case hy158 => (intro w hSw; (try dsimp only at hSw); go_simp; (try with_reducible rfl))
          ((try simp only [Act.put]); (try simp only [List.setIfInBounds_toArray]); (repeat (first | simp only [List.set_cons_succ] | simp only [List.set_cons_zero])))
          refine wpAnyH_take (i := 12) (v := ?v159) rfl (by kernel_rfl) (by kernel_rfl) (by kernel_rfl) (fun _ _ _ h => h) (Or.inl ⟨by rfl, ?hy159⟩) (by assumption) ?rest159
          case hy159 => (intro w hSw; (try dsimp only at hSw); go_simp; (try with_reducible rfl))
          ((try simp only [Act.put]); (try simp only [List.setIfInBounds_toArray]); (repeat (first | simp only [List.set_cons_succ] | simp only [List.set_cons_zero])))
          refine wpAnyH_take (i := 13) (v := ?v160) rfl (by kernel_rfl) (by kernel_rfl) (by kernel_rfl) (fun _ _ _ h => h) (Or.inl ⟨by rfl, ?hy160⟩) (by assumption) ?rest160
          case hy160 => (intro w hSw; (try dsimp only at hSw); go_simp; (try with_reducible rfl))
          ((try simp only [Act.put]); (try simp only [List.setIfInBounds_toArray]); (repeat (first | simp only [List.set_cons_succ] | simp only [List.set_cons_zero])))
          refine wpAnyH_take (i := 14) (v := ?v161) rfl (by kernel_rfl) (by kernel_rfl) (by kernel_rfl) (fun _ _ _ h => h) (Or.inl ⟨by rfl, ?hy161⟩) (by assumption) ?rest161
          case hy161 => (intro w hSw; (try dsimp only at hSw); go_simp; (try with_reducible rfl))
          ((try simp only [Act.put]); (try simp only [List.setIfInBounds_toArray]); (repeat (first | simp only [List.set_cons_succ] | simp only [List.set_cons_zero])))
          refine wpAnyH_take (i := 15) (v := ?v162) rfl (by kernel_rfl) (by kernel_rfl) (by kernel_rfl) (fun _ _ _ h => h) (Or.inl ⟨by rfl, ?hy162⟩) (by assumption) ?rest162
          case hy162 => (intro w hSw; (try dsimp only at hSw); go_simp; (try with_reducible rfl))
          ((try simp only [Act.put]); (try simp only [List.setIfInBounds_toArray]); (repeat (first | simp only [List.set_cons_succ] | simp only [List.set_cons_zero])))
          refine wpAnyH_take (i := 16) (v := ?v163) rfl (by kernel_rfl) (by kernel_rfl) (by kernel_rfl) (fun _ _ _ h => h) (Or.inl ⟨by rfl, ?hy163⟩) (by assumption) ?rest163
          case hy163 => (intro w hSw; (try dsimp only at hSw); go_simp; (try with_reducible rfl))
          ((try simp only [Act.put]); (try simp only [List.setIfInBounds_toArray]); (repeat (first | simp only [List.set_cons_succ] | simp only [List.set_cons_zero])))
          refine wpAnyH_take (i := 17) (v := ?v164) rfl (by kernel_rfl) (by kernel_rfl) (by kernel_rfl) (fun _ _ _ h => h) (Or.inl ⟨by rfl, ?hy164⟩) (by assumption) ?rest164
          case hy164 => (intro w hSw; (try dsimp only at hSw); go_simp; (try with_reducible rfl))
          ((try simp only [Act.put]); (try simp only [List.setIfInBounds_toArray]); (repeat (first | simp only [List.set_cons_succ] | simp only [List.set_cons_zero])))
          refine wpAnyH_take (i := 18) (v := ?v165) rfl (by kernel_rfl) (by kernel_rfl) (by kernel_rfl) (fun _ _ _ h => h) (Or.inl ⟨by rfl, ?hy165⟩) (by assumption) ?rest165
          case hy165 => (intro w hSw; (try dsimp only at hSw); go_simp; (try with_reducible rfl))
          ((try simp only [Act.put]); (try simp only [List.setIfInBounds_toArray]); (repeat (first | simp only [List.set_cons_succ] | simp only [List.set_cons_zero])))
          refine wpAnyH_take (i := 19) (v := ?v166) rfl (by kernel_rfl) (by kernel_rfl) (by kernel_rfl) (fun _ _ _ h => h) (Or.inl ⟨by rfl, ?hy166⟩) (by assumption) ?rest166
          case hy166 => (intro w hSw; (try dsimp only at hSw); go_simp; (try with_reducible rfl))
          ((try simp only [Act.put]); (try simp only [List.setIfInBounds_toArray]); (repeat (first | simp only [List.set_cons_succ] | simp only [List.set_cons_zero])))
          refine wpAnyH_take (i := 20) (v := ?v167) rfl (by kernel_rfl) (by kernel_rfl) (by kernel_rfl) (fun _ _ _ h => h) (Or.inl ⟨by rfl, ?hy167⟩) (by assumption) ?rest167
          case hy167 => (intro w hSw; (try dsimp only at hSw); go_simp; (try with_reducible rfl))
          ((try simp only [Act.put]); (try simp only [List.setIfInBounds_toArray]); (repeat (first | simp only [List.set_cons_succ] | simp only [List.set_cons_zero])))
          refine wpAnyH_take (i := 21) (v := ?v168) rfl (by kernel_rfl) (by kernel_rfl) (by kernel_rfl) (fun _ _ _ h => h) (Or.inl ⟨by rfl, ?hy168⟩) (by assumption) ?rest168
          case hy168 => (intro w hSw; (try dsimp only at hSw); go_simp; (try with_reducible rfl))
          ((try simp only [Act.put]); (try simp only [List.setIfInBounds_toArray]); (repeat (first | simp only [List.set_cons_succ] | simp only [List.set_cons_zero])))
          refine wpAnyH_take (i := 22) (v := ?v169) rfl (by kernel_rfl) (by kernel_rfl) (by kernel_rfl) (fun _ _ _ h => h) (Or.inl ⟨by rfl, ?hy169⟩) (by assumption) ?rest169
          case hy169 => (intro w hSw; (try dsimp only at hSw); go_simp; (try with_reducible rfl))
          ((try simp only [Act.put]); (try simp only [List.setIfInBounds_toArray]); (repeat (first | simp only [List.set_cons_succ] | simp only [List.set_cons_zero])))
          refine wpAnyH_take (i := 23) (v := ?v170) rfl (by kernel_rfl) (by kernel_rfl) (by kernel_rfl) (fun _ _ _ h => h) (Or.inl ⟨by rfl, ?hy170⟩) (by assumption) ?rest170
          case hy170 => (intro w hSw; (try dsimp only at hSw); go_simp; (try with_reducible rfl))
          ((try simp only [Act.put]); (try simp only [List.setIfInBounds_toArray]); (repeat (first | simp only [List.set_cons_succ] | simp only [List.set_cons_zero])))
          refine wpAnyH_take (i := 24) (v := ?v171) rfl (by kernel_rfl) (by kernel_rfl) (by kernel_rfl) (fun _ _ _ h => h) (Or.inl ⟨by rfl, ?hy171⟩) (by assumption) ?rest171
          case hy171 => (intro w hSw; (try dsimp only at hSw); go_simp; (try with_reducible rfl))
          ((try simp only [Act.put]); (try simp only [List.setIfInBounds_toArray]); (repeat (first | simp only [List.set_cons_succ] | simp only [List.set_cons_zero])))
          refine wpAnyH_ready (rs := [25]) (by kernel_rfl) (by simp) ?_
          refine AllReadyH.cons rfl (fun K hK => ?_) ?_
          · skip
            go_simp
            refine hK.out _ _ ?_ (fun hHeld => ?_)
            · exact ⟨cell_past hXd ad, cell_past hQd d0, cell_past hQd d1, cell_past hQd d2, cell_past hQd d3, cell_past hQd d4, cell_past hQd d5⟩
            clear hK K
            ((try simp only [Act.put]); (try simp only [List.setIfInBounds_toArray]); (repeat (first | simp only [List.set_cons_succ] | simp only [List.set_cons_zero])))
            refine wpAnyH_ready (rs := [26]) (by kernel_rfl) (by simp) ?_
            refine AllReadyH.cons rfl (fun K hK => ?_) ?_
            · skip
              refine step_app1 (by rfl) _ _ _ (by rfl) B 46 ti0 _ 7 56 Tryz.underlying24 HI.out HZZ0.out HZZ1.out HZZ2.out rfl (by decide) (.slice A2 b.hs.length p2) (b.hs.map Htlc.cells) (by rfl) (HOd.out.h.alloc _) wd.heap.size 1 [.int .i64 z0, .int .i64 z1, .int .i64 z2, .int .i64 z3, .int .i64 z4, .bool false, .int .i64 z5] 46 (by rfl) (heap_at (by first | rfl | (simp; done))) rfl (by simp [Value.oneCell']) (by rw [List.length_map]; omega) (by decide) (by first | omega | (simp; omega) | (simp; done)) ?_
              intro g2 cap2 w6 how6 hgr6 hat6 hlt6
              rw [List.length_map] at how6
              rw [List.length_map]
              have hOa := HOd.out.alloc (.cells ([.int .i64 z0, .int .i64 z1, .int .i64 z2, .int .i64 z3, .int .i64 z4, .bool false, .int .i64 z5] : List Value).toArray 46)
              have hX6 := heap_grown hgr6 (hOa.h.ne_ (heap_past hXd HXd.out) (by decide)) (heap_past hXd HXd.out)
              have hB6 := (HBd.out.alloc hBd _).grown hgr6 (by simp; omega) (fun k e => (hOa.h.block k e).1)
              have hF6 := (HFd.out.alloc _).grown hOa.h (by decide) hgr6
              have hQ6 := hgr6
              have hNQ : some Q ≠ (Value.slice A2 b.hs.length p2).ownBlock := NQ.out
              obtain ⟨_, f0, f1, f2, f3, f4, f5, ff, fz⟩ := own6 (g := X) (Below.refl _ w6) (Array.getElem?_eq_some_iff.1 hX6).1 hX6
              have e0 : w6.cell? ⟨Q, 0, none⟩ = some (.int .i64 z0) := (hgr6.cell_far ⟨Q, 0, none⟩ (by show Q < _; simp; omega) hNQ).trans (cell_past hQd d0)
              have e1 : w6.cell? ⟨Q, 1, none⟩ = some (.int .i64 z1) := (hgr6.cell_far ⟨Q, 1, none⟩ (by show Q < _; simp; omega) hNQ).trans (cell_past hQd d1)
              have e2 : w6.cell? ⟨Q, 2, none⟩ = some (.int .i64 z2) := (hgr6.cell_far ⟨Q, 2, none⟩ (by show Q < _; simp; omega) hNQ).trans (cell_past hQd d2)
              have e3 : w6.cell? ⟨Q, 3, none⟩ = some (.int .i64 z3) := (hgr6.cell_far ⟨Q, 3, none⟩ (by show Q < _; simp; omega) hNQ).trans (cell_past hQd d3)
              have e4 : w6.cell? ⟨Q, 4, none⟩ = some (.int .i64 z4) := (hgr6.cell_far ⟨Q, 4, none⟩ (by show Q < _; simp; omega) hNQ).trans (cell_past hQd d4)
              have e5 : w6.cell? ⟨Q, 5, none⟩ = some (.int .i64 z5) := (hgr6.cell_far ⟨Q, 5, none⟩ (by show Q < _; simp; omega) hNQ).trans (cell_past hQd d5)
              have HR6 := Lib.hid how6
              have HX6 := Lib.hid hX6
              have HB6 := Lib.hid hB6
              have HF6 := Lib.hid hF6
              have HOc := Lib.hid (hOa.c.apart_ hOa.h (by decide) hgr6)
              have HOo := Lib.hid (hOa.o.apart_ hOa.h (by decide) hgr6)
              clear how6 hgr6 hat6 hX6 hB6 hF6 hOa hQ6 hNQ
              refine hK.out _ _ ?_ (fun hHeld => ?_)
              · exact ⟨f4, e0, e1, e2, e3, e4, e5⟩
              clear hK K
              ((try simp only [Act.put]); (try simp only [List.setIfInBounds_toArray]); (repeat (first | simp only [List.set_cons_succ] | simp only [List.set_cons_zero])))
              refine wpAnyH_take (i := 27) (v := ?v172) rfl (by kernel_rfl) (by kernel_rfl) (by kernel_rfl) (fun _ _ _ h => h) (Or.inl ⟨by rfl, ?hy172⟩) (by assumption) ?rest172
              case hy172 => (intro w hSw; (try dsimp only at hSw); go_simp; (try with_reducible rfl))
              ((try simp only [Act.put]); (try simp only [List.setIfInBounds_toArray]); (repeat (first | simp only [List.set_cons_succ] | simp only [List.set_cons_zero])))
              refine wpAnyH_take (i := 28) (v := ?v173) rfl (by kernel_rfl) (by kernel_rfl) (by kernel_rfl) (fun _ _ _ h => h) (Or.inl ⟨by rfl, ?hy173⟩) (by assumption) ?rest173
              case hy173 => (intro w hSw; (try dsimp only at hSw); go_simp; (try with_reducible rfl))
              ((try simp only [Act.put]); (try simp only [List.setIfInBounds_toArray]); (repeat (first | simp only [List.set_cons_succ] | simp only [List.set_cons_zero])))
              refine wpAnyH_done (by kernel_rfl) ?_ _
              intro KK hKK
              go_simp
              refine hKK _ _ (NoPanic.normal ?_)
              go_wp2_with fail
              go_ret
              refine PartP.yes HY.out (A1 := A1) (A2 := some ⟨g2, 0, none⟩) (A3 := A3) (p1 := p1) (p2 := cap2) (p3 := p3) ?_ ?_ ?_ ?_
              · unfold BoxB
                dsimp only
                rw [List.length_append]
                exact (six_set HX6.out _).2.2.2.2.1
              · exact ⟨HOc.out.aside HX6.out (by decide) _, by dsimp only; rw [List.length_append, List.map_append]; exact HR6.out.aside HX6.out (by decide) _, HOo.out.aside HX6.out (by decide) _⟩
              · exact below_setB HB6.out hBX _
              · exact HF6.out.set HX6.out (by decide) _
            exact AllReadyH.nil
          exact AllReadyH.nil
        · have hlt' : decide ((b.hs.length : Int) < 60) = false := decide_eq_false (by omega)
          have HN := Lib.hid (show partI b t.data.toList = none by
            rw [HOK.out]
            simp [wordI, ne_htlc_book, ne_htlc_chan, ne_htlc_circ, ne_htlc_over, hlt])
          go_wp2_with fail
          go_ret
          exact PartP.no HN.out HB.out HF.out
      exact AllReadyH.nil
    exact AllReadyH.nil
  refine AllReadyH.cons rfl (fun K hK => ?_) ?_
  · skip
    go_simp
    refine hK.out _ _ (cell_past hPd d7) (fun hHeld => ?_)
    clear hK K
    ((try simp only [Act.put]); (try simp only [List.setIfInBounds_toArray]); (repeat (first | simp only [List.set_cons_succ] | simp only [List.set_cons_zero])))
    refine wpAnyH_ready (rs := [2]) (by kernel_rfl) (by simp) ?_
    refine AllReadyH.cons rfl (fun K hK => ?_) ?_
    · skip
      refine step_appN (by rfl) _ _ _ (by rfl) (w.heap.size + 1) 9 si0 _ 1 16 Tryz.underlying51 HSI.out HS0.out HS1.out HS2.out rfl (by decide) none 0 [] 0 rfl (by rfl) Ow.nil_ (some ⟨w.heap.size, 0, none⟩) 8 ([htlcW, v1, v2, v3, v4, v5].map strC) 6 rfl (by rfl) wd.heap.size (HRd.out.below ((Below.refl _ _).alloc (Nat.le_refl _) _)) HONE.out (by simp) (by decide) (by simp; omega) ?_
      intro A6 p6 w3 how3 hbl3 hgr3
      simp only [Nat.zero_add, List.nil_append] at how3 ⊢
      have z3 := hgr3.size
      (try simp at z3)
      have e7 : w3.cell? ⟨w.heap.size, 7, none⟩ = some (.string x7) := (hgr3.cell_far ⟨w.heap.size, 7, none⟩ (by show w.heap.size < _; simp; omega) (by simp [Value.ownBlock])).trans (cell_past hPd d7)
      have hq7 : w3.heap[wd.heap.size]? = some (.cells #[.string x7] 9 (0, 0)) := heap_grown hgr3 (by simp [Value.ownBlock]) (heap_at rfl)
      have HQ7 := Lib.hid hq7
      have HW3 := Lib.hid how3
      have HB3 := Lib.hid ((HBd.out.alloc (by omega) _).grown (row := none) hgr3 (by simp; omega) (fun k e => by cases e))
      clear how3 hbl3 hgr3 hq7
      refine hK.out _ _ e7 (fun hHeld => ?_)
      clear hK K
      ((try simp only [Act.put]); (try simp only [List.setIfInBounds_toArray]); (repeat (first | simp only [List.set_cons_succ] | simp only [List.set_cons_zero])))
      refine wpAnyH_ready (rs := [7]) (by kernel_rfl) (by simp) ?_
      refine AllReadyH.cons rfl (fun K hK => ?_) ?_
      · skip
        refine step_app1 (by rfl) _ _ _ (by rfl) (w.heap.size + 1) 9 si0 _ 1 16 Tryz.underlying51 HSI.out HS0.out HS1.out HS2.out rfl (by decide) (.slice A6 6 p6) ([htlcW, v1, v2, v3, v4, v5].map strC) (by rfl) HW3.out wd.heap.size 1 [.string x7] 9 (by rfl) HQ7.out rfl (by simp [Value.oneCell']) (by simp) (by decide) (by omega) ?_
        intro g7 p7 w7 how7 hgr7 _ _
        have HW7 := Lib.hid how7
        have HB7 := Lib.hid (HB3.out.grown hgr7 (by omega) (fun k e => by have := (HW3.out.block k e).1; omega))
        have f7 : w7.cell? ⟨w.heap.size, 7, none⟩ = some (.string x7) := (hgr7.cell_far ⟨w.heap.size, 7, none⟩ (by show w.heap.size < _; omega) (fun e => by have := (HW3.out.block w.heap.size e.symm).1; omega)).trans e7
        clear how7 hgr7
        refine hK.out _ _ f7 (fun hHeld => ?_)
        clear hK K
        ((try simp only [Act.put]); (try simp only [List.setIfInBounds_toArray]); (repeat (first | simp only [List.set_cons_succ] | simp only [List.set_cons_zero])))
        refine wpAnyH_take (i := 8) (v := ?v174) rfl (by kernel_rfl) (by kernel_rfl) (by kernel_rfl) (fun _ _ _ h => h) (Or.inl ⟨by rfl, ?hy174⟩) (by assumption) ?rest174
        case hy174 => (intro w hSw; (try dsimp only at hSw); go_simp; (try with_reducible rfl))
        ((try simp only [Act.put]); (try simp only [List.setIfInBounds_toArray]); (repeat (first | simp only [List.set_cons_succ] | simp only [List.set_cons_zero])))
        refine wpAnyH_done (by kernel_rfl) ?_ _
        refine NoPanic.normal ?_
        have hX7 := heap_below HB7.out hXl HX.out
        have HO7 := Lib.hid (HO.out.below HB7.out)
        have how7 : Ow w7 (w.heap.size + 1) 9 1 (.slice (some ⟨g7, 0, none⟩) 7 p7) ([htlcW, v1, v2, v3, v4, v5, v7].map strC) := by
          have := HW7.out
          rw [← HX7.out] at this
          simpa [strC] using this
        have hc7 : 7 ≤ p7 := by
          obtain ⟨A', cap', e1, _, h2, _⟩ := how7.form
          injection e1 with _ _ e3
          simp at h2
          omega
        obtain ⟨b8, off8, e8, h8B, c8⟩ := strs_rd how7.rd (k := 0) (by simp)
        simp only [Option.some.injEq, Addr.mk.injEq, and_true] at e8
        obtain ⟨rfl, rfl⟩ := e8
        simp only [List.getElem_cons_zero, Nat.add_zero] at c8
        have e0l : (⟨htlcW.toArray⟩ : ByteArray) = ⟨#[104, 116, 108, 99]⟩ := rfl
        rw [e0l] at c8
        clear e0l
        have HR7 := Lib.hid (strs_tail how7.rd)
        have z7 := HB7.out.size
        have HX7b := Lib.hid hX7
        clear how7 hX7 HW7 HRd d7 hHeld e7 f7 HW3 HB3 HBd
        go_wp2_with fail
        refine (i_numbersOf [v1, v2, v3, v4, v5, v7] _ _ _ (HLD.out.below HB7.out) (by simp) HSZ.out HR7.out).mono ?_
        rintro e w2 ⟨hnum, hb2⟩
        have z2 := hb2.size
        have hX2 := heap_below hb2 (Nat.lt_of_lt_of_le hXl z7) HX7b.out
        have HO2 := Lib.hid (HO7.out.below hb2)
        have c0 := (hb2.cell (p := ⟨g7, 0, none⟩) h8B).trans c8
        have hbB2 : Below w.heap.size w w2 := HB7.out.trans (hb2.mono z7)
        have HB := Lib.hid (hbB2.mono hBw)
        have HF := Lib.hid (Fr.of_below (ts := bkTs) hbB2)
        obtain ⟨_, a0, a1, a2, a3, a4, a5, af, az⟩ := own6 (g := X) (Below.refl _ w2) (Array.getElem?_eq_some_iff.1 hX2).1 hX2
        have HX2 := Lib.hid hX2
        rcases hnum with ⟨hok, AQ, capQ, rfl, how2⟩ | ⟨hno, rfl⟩
        rotate_left
        · have HNo := Lib.hid (show partI b t.data.toList = none by rw [HPI.out, if_pos hno])
          clear hno hX2
          go_wp2_with fail
          go_ret
          exact PartP.no HNo.out HB.out HF.out
        have HOK := Lib.hid (show partI b t.data.toList = wordI b htlcW [v1, v2, v3, v4, v5, v7] false by rw [HPI.out, if_neg (by rw [hok]; simp)])
        have HW2 := Lib.hid how2
        clear hok hX2 how2 HX7b HO7 HPI hb2 hbB2 HB7
        by_cases hlt : b.hs.length < 60
        · have hlt' : ((b.hs.length : Int) < 60) := by omega
          have hQ0 : 0 < ((([v1, v2, v3, v4, v5, v7].map numOf).map intCells)).length := by simp
          obtain ⟨Q, rfl, hQB⟩ := HW2.out.head_ hQ0
          clear hQ0
          have k0 := ints_cells HW2.out (k := 0) (by simp)
          have k1 := ints_cells HW2.out (k := 1) (by simp)
          have k2 := ints_cells HW2.out (k := 2) (by simp)
          have k3 := ints_cells HW2.out (k := 3) (by simp)
          have k4 := ints_cells HW2.out (k := 4) (by simp)
          have k5 := ints_cells HW2.out (k := 5) (by simp)
          simp only [List.map_cons, List.map_nil, List.getElem_cons_zero, List.getElem_cons_succ] at k0 k1 k2 k3 k4 k5
          obtain ⟨z0, hz0⟩ : ∃ z, numOf v1 = z := ⟨_, rfl⟩
          rw [hz0] at k0
          have HZ0 := Lib.hid hz0
          obtain ⟨z1, hz1⟩ : ∃ z, numOf v2 = z := ⟨_, rfl⟩
          rw [hz1] at k1
          have HZ1 := Lib.hid hz1
          obtain ⟨z2, hz2⟩ : ∃ z, numOf v3 = z := ⟨_, rfl⟩
          rw [hz2] at k2
          have HZ2 := Lib.hid hz2
          obtain ⟨z3, hz3⟩ : ∃ z, numOf v4 = z := ⟨_, rfl⟩
          rw [hz3] at k3
          have HZ3 := Lib.hid hz3
          obtain ⟨z4, hz4⟩ : ∃ z, numOf v5 = z := ⟨_, rfl⟩
          rw [hz4] at k4
          have HZ4 := Lib.hid hz4
          obtain ⟨z5, hz5⟩ : ∃ z, numOf v7 = z := ⟨_, rfl⟩
          rw [hz5] at k5
          have HZ5 := Lib.hid hz5
          have hQl : Q < w2.heap.size := Lib.lt_of_cell k0
          have NX := HW2.out.ne_ HX2.out (by decide)
          have hQX : Q ≠ X := fun e => NX (by rw [e]; rfl)
          clear NX hz0 hz1 hz2 hz3 hz4 hz5
          have HY := Lib.hid (show partI b t.data.toList = some { b with hs := b.hs ++ [⟨z0, z1, z2, z3, z4, false, z5⟩] } by
            rw [HOK.out]
            simp [wordI, numIx, ne_htlc_book, ne_htlc_chan, hlt, HZ0.out, HZ1.out, HZ2.out, HZ3.out, HZ4.out, HZ5.out])
          obtain ⟨ti0, hi, hz0, hz1, hz2⟩ := info_parts info_htlcB
          have HI := Lib.hid hi
          have HZZ0 := Lib.hid hz0
          have HZZ1 := Lib.hid hz1
          have HZZ2 := Lib.hid hz2
          obtain ⟨curQ, hqh⟩ := HW2.out.heapB
          have NQ := Lib.hid (HO2.out.h.ne_ hqh (by decide))
          clear hqh HOK hi hz0 hz1 hz2
          go_wp2_with fail
          refine wp_region_noPanic ?_
          refine wp_region_lastL2 (S := (fun w' => w'.cell? ⟨X, 4, none⟩ = some (.slice A2 b.hs.length p2) ∧ w'.cell? ⟨Q, 0, none⟩ = some (.int .i64 z0) ∧ w'.cell? ⟨Q, 1, none⟩ = some (.int .i64 z1) ∧ w'.cell? ⟨Q, 2, none⟩ = some (.int .i64 z2) ∧ w'.cell? ⟨Q, 3, none⟩ = some (.int .i64 z3) ∧ w'.cell? ⟨Q, 4, none⟩ = some (.int .i64 z4) ∧ w'.cell? ⟨Q, 5, none⟩ = some (.int .i64 z5))) rfl (by kernel_rfl) (by kernel_rfl) (by kernel_rfl) (by kernel_rfl) ?_ (fun hHeld => ?_)
          · exact ⟨a4, k0, k1, k2, k3, k4, k5⟩
          obtain ⟨wd, hwd⟩ : ∃ wd, w2.drew = wd := ⟨_, rfl⟩
          have HXd : Hid (wd.heap[X]? = some (.cells #[.int .i64 b.t, .int .i64 b.n, .int .i64 b.w, .slice A1 b.cs.length p1, .slice A2 b.hs.length p2, .slice A3 b.os.length p3] 27 (0, 0))) := Lib.hid (by rw [← hwd]; exact HX2.out)
          have HOd : Hid (OwB wd B b A1 A2 A3 p1 p2 p3) := Lib.hid (by rw [← hwd]; exact HO2.out.drew)
          have HBd : Hid (Below B w wd) := Lib.hid (by rw [← hwd]; exact HB.out.drew)
          have HFd : Hid (Fr bkTs w wd) := Lib.hid (by rw [← hwd]; exact HF.out.drew)
          have hXd : X < wd.heap.size := (Array.getElem?_eq_some_iff.1 HXd.out).1
          have hQd : Q < wd.heap.size := by rw [← hwd]; exact hQl
          have hBd : B ≤ wd.heap.size := by omega
          have d0 : wd.cell? ⟨Q, 0, none⟩ = some (.int .i64 z0) := by rw [← hwd]; exact k0
          have d1 : wd.cell? ⟨Q, 1, none⟩ = some (.int .i64 z1) := by rw [← hwd]; exact k1
          have d2 : wd.cell? ⟨Q, 2, none⟩ = some (.int .i64 z2) := by rw [← hwd]; exact k2
          have d3 : wd.cell? ⟨Q, 3, none⟩ = some (.int .i64 z3) := by rw [← hwd]; exact k3
          have d4 : wd.cell? ⟨Q, 4, none⟩ = some (.int .i64 z4) := by rw [← hwd]; exact k4
          have d5 : wd.cell? ⟨Q, 5, none⟩ = some (.int .i64 z5) := by rw [← hwd]; exact k5
          have ad : wd.cell? ⟨X, 4, none⟩ = some (.slice A2 b.hs.length p2) := blk_cell HXd.out 4
          rw [hwd] at hHeld ⊢
          clear hwd a0 a1 a2 a3 a4 a5 k0 k1 k2 k3 k4 k5
          simp only [List.dropLast]
          refine wpAnyH_take (i := 0) (v := ?v175) rfl (by kernel_rfl) (by kernel_rfl) (by kernel_rfl) (fun _ _ _ h => h) (Or.inl ⟨by rfl, ?hy175⟩) (by assumption) ?rest175
          case hy175 => (intro w hSw; (try dsimp only at hSw); go_simp; (try with_reducible rfl))
          ((try simp only [Act.put]); (try simp only [List.setIfInBounds_toArray]); (repeat (first | simp only [List.set_cons_succ] | simp only [List.set_cons_zero])))
          refine wpAnyH_take (i := 1) (v := ?v176) rfl (by kernel_rfl) (by kernel_rfl) (by kernel_rfl) (fun _ _ _ h => h) (Or.inl ⟨by rfl, ?hy176⟩) (by assumption) ?rest176
          case hy176 => (intro w hSw; (try dsimp only at hSw); go_simp; (try with_reducible rfl))
          ((try simp only [Act.put]); (try simp only [List.setIfInBounds_toArray]); (repeat (first | simp only [List.set_cons_succ] | simp only [List.set_cons_zero])))
          refine wpAnyH_take (i := 2) (v := ?v177) rfl (by kernel_rfl) (by kernel_rfl) (by kernel_rfl) (fun _ _ _ h => h) (Or.inl ⟨by rfl, ?hy177⟩) (by assumption) ?rest177
          case hy177 => (intro w hSw; (try dsimp only at hSw); go_simp; (try with_reducible rfl))
          ((try simp only [Act.put]); (try simp only [List.setIfInBounds_toArray]); (repeat (first | simp only [List.set_cons_succ] | simp only [List.set_cons_zero])))
          refine wpAnyH_take (i := 3) (v := ?v178) rfl (by kernel_rfl) (by kernel_rfl) (by kernel_rfl) (fun _ _ _ h => h) (Or.inl ⟨by rfl, ?hy178⟩) (by assumption) ?rest178
          case hy178 => (intro w hSw; (try dsimp only at hSw); go_simp; (try with_reducible rfl))
          ((try simp only [Act.put]); (try simp only [List.setIfInBounds_toArray]); (repeat (first | simp only [List.set_cons_succ] | simp only [List.set_cons_zero])))
          refine wpAnyH_take (i := 4) (v := ?v179) rfl (by kernel_rfl) (by kernel_rfl) (by kernel_rfl) (fun _ _ _ h => h) (Or.inl ⟨by rfl, ?hy179⟩) (by assumption) ?rest179
          case hy179 => (intro w hSw; (try dsimp only at hSw); go_simp; (try with_reducible rfl))
          ((try simp only [Act.put]); (try simp only [List.setIfInBounds_toArray]); (repeat (first | simp only [List.set_cons_succ] | simp only [List.set_cons_zero])))
          refine wpAnyH_take (i := 5) (v := ?v180) rfl (by kernel_rfl) (by kernel_rfl) (by kernel_rfl) (fun _ _ _ h => h) (Or.inl ⟨by rfl, ?hy180⟩) (by assumption) ?rest180
          case hy180 => (intro w hSw; (try dsimp only at hSw); go_simp; (try with_reducible rfl))
          ((try simp only [Act.put]); (try simp only [List.setIfInBounds_toArray]); (repeat (first | simp only [List.set_cons_succ] | simp only [List.set_cons_zero])))
          refine wpAnyH_take (i := 6) (v := ?v181) rfl (by kernel_rfl) (by kernel_rfl) (by kernel_rfl) (fun _ _ _ h => h) (Or.inl ⟨by rfl, ?hy181⟩) (by assumption) ?rest181
          case hy181 => (intro w hSw; (try dsimp only at hSw); go_simp; (try with_reducible rfl))
          ((try simp only [Act.put]); (try simp only [List.setIfInBounds_toArray]); (repeat (first | simp only [List.set_cons_succ] | simp only [List.set_cons_zero])))
          refine wpAnyH_take (i := 7) (v := ?v182) rfl (by kernel_rfl) (by kernel_rfl) (by kernel_rfl) (fun _ _ _ h => h) (Or.inl ⟨by rfl, ?hy182⟩) (by assumption) ?rest182
          case hy182 => (intro w hSw; (try dsimp only at hSw); go_simp; (try with_reducible rfl))
          ((try simp only [Act.put]); (try simp only [List.setIfInBounds_toArray]); (repeat (first | simp only [List.set_cons_succ] | simp only [List.set_cons_zero])))
          refine wpAnyH_take (i := 8) (v := ?v183) rfl (by kernel_rfl) (by kernel_rfl) (by kernel_rfl) (fun _ _ _ h => h) (Or.inl ⟨by rfl, ?hy183⟩) (by assumption) ?rest183
          case hy183 => (intro w hSw; (try dsimp only at hSw); go_simp; (try with_reducible rfl))
          ((try simp only [Act.put]); (try simp only [List.setIfInBounds_toArray]); (repeat (first | simp only [List.set_cons_succ] | simp only [List.set_cons_zero])))
          refine wpAnyH_take (i := 9) (v := ?v184) rfl (by kernel_rfl) (by kernel_rfl) (by kernel_rfl) (fun _ _ _ h => h) (Or.inl ⟨by rfl, ?hy184⟩) (by assumption) ?rest184
          case hy184 => (intro w hSw; (try dsimp only at hSw); go_simp; (try with_reducible rfl))
          ((try simp only [Act.put]); (try simp only [List.setIfInBounds_toArray]); (repeat (first | simp only [List.set_cons_succ] | simp only [List.set_cons_zero])))
          refine wpAnyH_take (i := 10) (v := ?v185) rfl (by kernel_rfl) (by kernel_rfl) (by kernel_rfl) (fun _ _ _ h => h) (Or.inl ⟨by rfl, ?hy185⟩) (by assumption) ?rest185
          case hy185 => (intro w hSw; (try dsimp only at hSw); go_simp; (try with_reducible rfl))
          ((try simp only [Act.put]); (try simp only [List.setIfInBounds_toArray]); (repeat (first | simp only [List.set_cons_succ] | simp only [List.set_cons_zero])))
          refine wpAnyH_take (i := 11) (v := ?v186) rfl (by kernel_rfl) (by kernel_rfl) (by kernel_rfl) (fun _ _ _ h => h) (Or.inl ⟨by rfl, ?hy186⟩) (by assumption) ?rest186
          case hy186 => (intro w hSw; (try dsimp only at hSw); go_simp; (try with_reducible rfl))
          ((try simp only [Act.put]); (try simp only [List.setIfInBounds_toArray]); (repeat (first | simp only [List.set_cons_succ] | simp only [List.set_cons_zero])))
          refine wpAnyH_take (i := 12) (v := ?v187) rfl (by kernel_rfl) (by kernel_rfl) (by kernel_rfl) (fun _ _ _ h => h) (Or.inl ⟨by rfl, ?hy187⟩) (by assumption) ?rest187
          case hy187 => (intro w hSw; (try dsimp only at hSw); go_simp; (try with_reducible rfl))
          ((try simp only [Act.put]); (try simp only [List.setIfInBounds_toArray]); (repeat (first | simp only [List.set_cons_succ] | simp only [List.set_cons_zero])))
          refine wpAnyH_take (i := 13) (v := ?v188) rfl (by kernel_rfl) (by kernel_rfl) (by kernel_rfl) (fun _ _ _ h => h) (Or.inl ⟨by rfl, ?hy188⟩) (by assumption) ?rest188
          case hy188 => (intro w hSw; (try dsimp only at hSw); go_simp; (try with_reducible rfl))
          ((try simp only [Act.put]); (try simp only [List.setIfInBounds_toArray]); (repeat (first | simp only [List.set_cons_succ] | simp only [List.set_cons_zero])))
          refine wpAnyH_take (i := 14) (v := ?v189) rfl (by kernel_rfl) (by kernel_rfl) (by kernel_rfl) (fun _ _ _ h => h) (Or.inl ⟨by rfl, ?hy189⟩) (by assumption) ?rest189
          case hy189 => (intro w hSw; (try dsimp only at hSw); go_simp; (try with_reducible rfl))
          ((try simp only [Act.put]); (try simp only [List.setIfInBounds_toArray]); (repeat (first | simp only [List.set_cons_succ] | simp only [List.set_cons_zero])))
          refine wpAnyH_take (i := 15) (v := ?v190) rfl (by kernel_rfl) (by kernel_rfl) (by kernel_rfl) (fun _ _ _ h => h) (Or.inl ⟨by rfl, ?hy190⟩) (by assumption) ?rest190
          case hy190 => (intro w hSw; (try dsimp only at hSw); go_simp; (try with_reducible rfl))
          ((try simp only [Act.put]); (try simp only [List.setIfInBounds_toArray]); (repeat (first | simp only [List.set_cons_succ] | simp only [List.set_cons_zero])))
          refine wpAnyH_take (i := 16) (v := ?v191) rfl (by kernel_rfl) (by kernel_rfl) (by kernel_rfl) (fun _ _ _ h => h) (Or.inl ⟨by rfl, ?hy191⟩) (by assumption) ?rest191
          case hy191 => (intro w hSw; (try dsimp only at hSw); go_simp; (try with_reducible rfl))
          ((try simp only [Act.put]); (try simp only [List.setIfInBounds_toArray]); (repeat (first | simp only [List.set_cons_succ] | simp only [List.set_cons_zero])))
          refine wpAnyH_take (i := 17) (v := ?v192) rfl (by kernel_rfl) (by kernel_rfl) (by kernel_rfl) (fun _ _ _ h => h) (Or.inl ⟨by rfl, ?hy192⟩) (by assumption) ?rest192
          case hy192 => (intro w hSw; (try dsimp only at hSw); go_simp; (try with_reducible rfl))
          ((try simp only [Act.put]); (try simp only [List.setIfInBounds_toArray]); (repeat (first | simp only [List.set_cons_succ] | simp only [List.set_cons_zero])))
          refine wpAnyH_take (i := 18) (v := ?v193) rfl (by kernel_rfl) (by kernel_rfl) (by kernel_rfl) (fun _ _ _ h => h) (Or.inl ⟨by rfl, ?hy193⟩) (by assumption) ?rest193
          case hy193 => (intro w hSw; (try dsimp only at hSw); go_simp; (try with_reducible rfl))
          ((try simp only [Act.put]); (try simp only [List.setIfInBounds_toArray]); (repeat (first | simp only [List.set_cons_succ] | simp only [List.set_cons_zero])))
          refine wpAnyH_take (i := 19) (v := ?v194) rfl (by kernel_rfl) (by kernel_rfl) (by kernel_rfl) (fun _ _ _ h => h) (Or.inl ⟨by rfl, ?hy194⟩) (by assumption) ?rest194
          case hy194 => (intro w hSw; (try dsimp only at hSw); go_simp; (try with_reducible rfl))
          ((try simp only [Act.put]); (try simp only [List.setIfInBounds_toArray]); (repeat (first | simp only [List.set_cons_succ] | simp only [List.set_cons_zero])))
          refine wpAnyH_take (i := 20) (v := ?v195) rfl (by kernel_rfl) (by kernel_rfl) (by kernel_rfl) (fun _ _ _ h => h) (Or.inl ⟨by rfl, ?hy195⟩) (by assumption) ?rest195
          case hy195 => (intro w hSw; (try dsimp only at hSw); go_simp; (try with_reducible rfl))
          ((try simp only [Act.put]); (try simp only [List.setIfInBounds_toArray]); (repeat (first | simp only [List.set_cons_succ] | simp only [List.set_cons_zero])))
          refine wpAnyH_take (i := 21) (v := ?v196) rfl (by kernel_rfl) (by kernel_rfl) (by kernel_rfl) (fun _ _ _ h => h) (Or.inl ⟨by rfl, ?hy196⟩) (by assumption) ?rest196
          case hy196 => (intro w hSw; (try dsimp only at hSw); go_simp; (try with_reducible rfl))
          ((try simp only [Act.put]); (try simp only [List.setIfInBounds_toArray]); (repeat (first | simp only [List.set_cons_succ] | simp only [List.set_cons_zero])))
          refine wpAnyH_take (i := 22) (v := ?v197) rfl (by kernel_rfl) (by kernel_rfl) (by kernel_rfl) (fun _ _ _ h => h) (Or.inl ⟨by rfl, ?hy197⟩) (by assumption) ?rest197
          case hy197 => (intro w hSw; (try dsimp only at hSw); go_simp; (try with_reducible rfl))
          ((try simp only [Act.put]); (try simp only [List.setIfInBounds_toArray]); (repeat (first | simp only [List.set_cons_succ] | simp only [List.set_cons_zero])))
          refine wpAnyH_take (i := 23) (v := ?v198) rfl (by kernel_rfl) (by kernel_rfl) (by kernel_rfl) (fun _ _ _ h => h) (Or.inl ⟨by rfl, ?hy198⟩) (by assumption) ?rest198
          case hy198 => (intro w hSw; (try dsimp only at hSw); go_simp; (try with_reducible rfl))
          ((try simp only [Act.put]); (try simp only [List.setIfInBounds_toArray]); (repeat (first | simp only [List.set_cons_succ] | simp only [List.set_cons_zero])))
          refine wpAnyH_take (i := 24) (v := ?v199) rfl (by kernel_rfl) (by kernel_rfl) (by kernel_rfl) (fun _ _ _ h => h) (Or.inl ⟨by rfl, ?hy199⟩) (by assumption) ?rest199
          case hy199 => (intro w hSw; (try dsimp only at hSw); go_simp; (try with_reducible rfl))
          ((try simp only [Act.put]); (try simp only [List.setIfInBounds_toArray]); (repeat (first | simp only [List.set_cons_succ] | simp only [List.set_cons_zero])))
          refine wpAnyH_ready (rs := [25]) (by kernel_rfl) (by simp) ?_
          refine AllReadyH.cons rfl (fun K hK => ?_) ?_
          · skip
            go_simp
            refine hK.out _ _ ?_ (fun hHeld => ?_)
            · exact ⟨cell_past hXd ad, cell_past hQd d0, cell_past hQd d1, cell_past hQd d2, cell_past hQd d3, cell_past hQd d4, cell_past hQd d5⟩
            clear hK K
            ((try simp only [Act.put]); (try simp only [List.setIfInBounds_toArray]); (repeat (first | simp only [List.set_cons_succ] | simp only [List.set_cons_zero])))
            refine wpAnyH_ready (rs := [26]) (by kernel_rfl) (by simp) ?_
            refine AllReadyH.cons rfl (fun K hK => ?_) ?_
            · skip
              refine step_app1 (by rfl) _ _ _ (by rfl) B 46 ti0 _ 7 56 Tryz.underlying24 HI.out HZZ0.out HZZ1.out HZZ2.out rfl (by decide) (.slice A2 b.hs.length p2) (b.hs.map Htlc.cells) (by rfl) (HOd.out.h.alloc _) wd.heap.size 1 [.int .i64 z0, .int .i64 z1, .int .i64 z2, .int .i64 z3, .int .i64 z4, .bool false, .int .i64 z5] 46 (by rfl) (heap_at (by first | rfl | (simp; done))) rfl (by simp [Value.oneCell']) (by rw [List.length_map]; omega) (by decide) (by first | omega | (simp; omega) | (simp; done)) ?_
              intro g2 cap2 w6 how6 hgr6 hat6 hlt6
              rw [List.length_map] at how6
              rw [List.length_map]
              have hOa := HOd.out.alloc (.cells ([.int .i64 z0, .int .i64 z1, .int .i64 z2, .int .i64 z3, .int .i64 z4, .bool false, .int .i64 z5] : List Value).toArray 46)
              have hX6 := heap_grown hgr6 (hOa.h.ne_ (heap_past hXd HXd.out) (by decide)) (heap_past hXd HXd.out)
              have hB6 := (HBd.out.alloc hBd _).grown hgr6 (by simp; omega) (fun k e => (hOa.h.block k e).1)
              have hF6 := (HFd.out.alloc _).grown hOa.h (by decide) hgr6
              have hQ6 := hgr6
              have hNQ : some Q ≠ (Value.slice A2 b.hs.length p2).ownBlock := NQ.out
              obtain ⟨_, f0, f1, f2, f3, f4, f5, ff, fz⟩ := own6 (g := X) (Below.refl _ w6) (Array.getElem?_eq_some_iff.1 hX6).1 hX6
              have e0 : w6.cell? ⟨Q, 0, none⟩ = some (.int .i64 z0) := (hgr6.cell_far ⟨Q, 0, none⟩ (by show Q < _; simp; omega) hNQ).trans (cell_past hQd d0)
              have e1 : w6.cell? ⟨Q, 1, none⟩ = some (.int .i64 z1) := (hgr6.cell_far ⟨Q, 1, none⟩ (by show Q < _; simp; omega) hNQ).trans (cell_past hQd d1)
              have e2 : w6.cell? ⟨Q, 2, none⟩ = some (.int .i64 z2) := (hgr6.cell_far ⟨Q, 2, none⟩ (by show Q < _; simp; omega) hNQ).trans (cell_past hQd d2)
              have e3 : w6.cell? ⟨Q, 3, none⟩ = some (.int .i64 z3) := (hgr6.cell_far ⟨Q, 3, none⟩ (by show Q < _; simp; omega) hNQ).trans (cell_past hQd d3)
              have e4 : w6.cell? ⟨Q, 4, none⟩ = some (.int .i64 z4) := (hgr6.cell_far ⟨Q, 4, none⟩ (by show Q < _; simp; omega) hNQ).trans (cell_past hQd d4)
              have e5 : w6.cell? ⟨Q, 5, none⟩ = some (.int .i64 z5) := (hgr6.cell_far ⟨Q, 5, none⟩ (by show Q < _; simp; omega) hNQ).trans (cell_past hQd d5)
              have HR6 := Lib.hid how6
              have HX6 := Lib.hid hX6
              have HB6 := Lib.hid hB6
              have HF6 := Lib.hid hF6
              have HOc := Lib.hid (hOa.c.apart_ hOa.h (by decide) hgr6)
              have HOo := Lib.hid (hOa.o.apart_ hOa.h (by decide) hgr6)
              clear how6 hgr6 hat6 hX6 hB6 hF6 hOa hQ6 hNQ
              refine hK.out _ _ ?_ (fun hHeld => ?_)
              · exact ⟨f4, e0, e1, e2, e3, e4, e5⟩
              clear hK K
              ((try simp only [Act.put]); (try simp only [List.setIfInBounds_toArray]); (repeat (first | simp only [List.set_cons_succ] | simp only [List.set_cons_zero])))
              refine wpAnyH_take (i := 27) (v := ?v200) rfl (by kernel_rfl) (by kernel_rfl) (by kernel_rfl) (fun _ _ _ h => h) (Or.inl ⟨by rfl, ?hy200⟩) (by assumption) ?rest200
              case hy200 => (intro w hSw; (try dsimp only at hSw); go_simp; (try with_reducible rfl))
              ((try simp only [Act.put]); (try simp only [List.setIfInBounds_toArray]); (repeat (first | simp only [List.set_cons_succ] | simp only [List.set_cons_zero])))
              refine wpAnyH_take (i := 28) (v := ?v201) rfl (by kernel_rfl) (by kernel_rfl) (by kernel_rfl) (fun _ _ _ h => h) (Or.inl ⟨by rfl, ?hy201⟩) (by assumption) ?rest201
              case hy201 => (intro w hSw; (try dsimp only at hSw); go_simp; (try with_reducible rfl))
              ((try simp only [Act.put]); (try simp only [List.setIfInBounds_toArray]); (repeat (first | simp only [List.set_cons_succ] | simp only [List.set_cons_zero])))
              refine wpAnyH_done (by kernel_rfl) ?_ _
              intro KK hKK
              go_simp
              refine hKK _ _ (NoPanic.normal ?_)
              go_wp2_with fail
              go_ret
              refine PartP.yes HY.out (A1 := A1) (A2 := some ⟨g2, 0, none⟩) (A3 := A3) (p1 := p1) (p2 := cap2) (p3 := p3) ?_ ?_ ?_ ?_
              · unfold BoxB
                dsimp only
                rw [List.length_append]
                exact (six_set HX6.out _).2.2.2.2.1
              · exact ⟨HOc.out.aside HX6.out (by decide) _, by dsimp only; rw [List.length_append, List.map_append]; exact HR6.out.aside HX6.out (by decide) _, HOo.out.aside HX6.out (by decide) _⟩
              · exact below_setB HB6.out hBX _
              · exact HF6.out.set HX6.out (by decide) _
            exact AllReadyH.nil
          exact AllReadyH.nil
        · have hlt' : decide ((b.hs.length : Int) < 60) = false := decide_eq_false (by omega)
          have HN := Lib.hid (show partI b t.data.toList = none by
            rw [HOK.out]
            simp [wordI, ne_htlc_book, ne_htlc_chan, ne_htlc_circ, ne_htlc_over, hlt])
          go_wp2_with fail
          go_ret
          exact PartP.no HN.out HB.out HF.out
      exact AllReadyH.nil
    exact AllReadyH.nil
  exact AllReadyH.nil
end Go.Proofs.YtcjbjpobpefehaaGreatDoor
