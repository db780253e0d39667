/- A line of a book read by the program: a circle. -/
import Derived.Test.YtcjbjpobpefehaaGreatDoorRows
import Derived.Test.YtcjbjpobpefehaaGreatDoorM4
import Derived.Deep.RegionHeld3
namespace Go.Proofs.YtcjbjpobpefehaaGreatDoor
open Go.RowKit Go.Deep

set_option maxRecDepth 100000 in
set_option maxHeartbeats 4000000 in
theorem i_textPart_circ_nx (X B : Nat) (b : Bk) (A1 A2 A3 : Option Addr) (p1 p2 p3 : Nat) (t : ByteArray) (w : World) (hld : Le w) (hs : t.size ≤ 1048576) (hX : BoxB w X b A1 A2 A3 p1 p2 p3) (hO : OwB w B b A1 A2 A3 p1 p2 p3) (hBX : B ≤ X) (hl : b.cs.length ≤ 20 ∧ b.hs.length ≤ 60 ∧ b.os.length ≤ 20) (l : List (List UInt8)) (hP : parts 32 t.data.toList = circW :: l) (hm0 : l.length ≠ 0) (hm7 : l.length ≠ 7) :
    Calls Tryz.prog 27 #[.pointer (some ⟨X, 0, none⟩), .string t] w (PartP X B b t.data.toList w) := by
  have hl1 := hl.1
  have hl2 := hl.2.1
  have hl3 := hl.2.2
  clear hl
  have HLD := Lib.hid hld
  have hXl : X < w.heap.size := hX.lt
  have hBw : B ≤ w.heap.size := by omega
  have HX := Lib.hid hX
  have HO := Lib.hid hO
  have HC := Lib.hid (i_Split t 32 w hld.toLd (by omega))
  have hz : t.data.toList.length = t.size := Array.length_toList
  have hsub := parts_sub 32 t.data.toList
  have hpl := parts_len 32 t.data.toList
  rw [hP] at hsub hpl
  have HSZ := Lib.hid (show ∀ x ∈ l, x.length ≤ 1048576 from fun x hx => by have := hsub x (by simp [hx]); omega)
  simp only [List.length_cons] at hpl
  have hll : l.length ≤ 1048577 := by omega
  have hcut : cutI (circW :: l) = circW :: l := if_neg (by rintro ⟨k1, k2⟩; simp at k1; omega)
  have hkept : keptI (circW :: l) = false := by
    unfold keptI
    rw [decide_eq_false (by simp; omega)]; rfl
  have HPI := Lib.hid (show partI b t.data.toList = if l.all numOk = false then none else wordI b circW l false by
    unfold partI
    rw [hP, hcut, hkept]
    rfl)
  rw [hP] at HC
  clear hP hsub hpl hz hcut hkept hld hX hO
  go_enter Tryz.func27, Tryz.ntmps27
  go_wp2_with fail
  refine HC.out.mono ?_
  rintro e w1 ⟨rfl, how1, hb1⟩
  have z1 := hb1.size
  have hX1 := heap_below hb1 hXl HX.out
  have HO1 := Lib.hid (HO.out.below hb1)
  obtain ⟨b0, off0, e0, hbB, c0⟩ := strs_rd how1.rd (k := 0) (by simp)
  simp only [Option.some.injEq, Addr.mk.injEq, and_true] at e0
  obtain ⟨rfl, rfl⟩ := e0
  simp only [List.getElem_cons_zero, Nat.add_zero] at c0
  have HR1 := Lib.hid (strs_tail how1.rd)
  have hN : (circW :: l).length = l.length + 1 := rfl
  rw [hN]
  obtain ⟨m, hm⟩ : ∃ m, l.length = m := ⟨_, rfl⟩
  have HML := Lib.hid hm
  rw [hm] at hm0 hm7 hll ⊢
  have t8 : ((m : Int) + 1 == 8) = false := by rw [beq_eq_false_iff_ne]; omega
  have m1 : 0 < m := by omega
  have HX1 := Lib.hid hX1
  have hbA : Below w.heap.size w w1 := hb1
  have hm7' : m ≠ 7 := hm7
  have HM7 := Lib.hid hm7'
  clear hN hm how1 hm0 hm7 hm7' hX1 hb1
  go_wp2_with fail
  rw [← HML.out]
  refine (i_numbersOf l _ _ _ (HLD.out.below hbA) (by rw [HML.out]; omega) HSZ.out HR1.out).mono ?_
  rintro e w2 ⟨hnum, hb2⟩
  have z2 := hb2.size
  have hX2 := heap_below hb2 (Nat.lt_of_lt_of_le hXl z1) HX1.out
  have HO2 := Lib.hid (HO1.out.below hb2)
  have c0 := (hb2.cell (p := ⟨w.heap.size, 0, none⟩) hbB).trans c0
  have hbB2 : Below w.heap.size w w2 := by (first | ((repeat' first | (with_reducible (first | exact Below.refl _ _ | assumption | refine Below.setCell ?_ ?_ _ | refine Below.alloc ?_ ?_ _ | refine Below.drew ?_ | refine below_drewN ?_ _ | refine Below.trans ?_ (Below.mono (by assumption) ?_))) | omega | (simp; omega) | (simp; done)); done) | (repeat' first | exact Below.refl _ _ | assumption | refine Below.setCell ?_ (by first | omega | (simp; omega) | (simp; done)) _ | refine Below.alloc ?_ (by first | omega | (simp; omega) | (simp; done)) _ | refine Below.drew ?_ | refine below_drewN ?_ _ | refine Below.trans ?_ (Below.mono (by assumption) (by first | omega | (simp; omega) | (simp; done)))))
  have HB := Lib.hid (hbB2.mono hBw)
  have HF := Lib.hid (Fr.of_below (ts := bkTs) hbB2)
  obtain ⟨_, a0, a1, a2, a3, a4, a5, af, az⟩ := own6 (g := X) (Below.refl _ w2) (Array.getElem?_eq_some_iff.1 hX2).1 hX2
  have HX2 := Lib.hid hX2
  rcases hnum with ⟨hok, AQ, capQ, rfl, how2⟩ | ⟨hno, rfl⟩
  rotate_left
  · have HNo := Lib.hid (show partI b t.data.toList = none by rw [HPI.out, if_pos hno])
    clear hno hX2
    go_wp2_with fail
    go_ret
    exact PartP.no HNo.out HB.out HF.out
  have HOK := Lib.hid (show partI b t.data.toList = wordI b circW l false by rw [HPI.out, if_neg (by rw [hok]; simp)])
  have HW2 := Lib.hid how2
  clear hok hX2 how2 HX1 HO1 HPI hb2 hbA hbB2
  by_cases hn : l.length = 5
  · by_cases hlt : b.os.length < 20
    · have hlt' : ((b.os.length : Int) < 20) := by omega
      have hQ0 : 0 < (((l.map numOf).map intCells)).length := by simp; omega
      obtain ⟨Q, rfl, hQB⟩ := HW2.out.head_ hQ0
      clear hQ0
      obtain ⟨l0, l1, l2, l3, l4, rfl⟩ := list5 hn
      have k0 := ints_cells HW2.out (k := 0) (by simp)
      have k1 := ints_cells HW2.out (k := 1) (by simp)
      have k2 := ints_cells HW2.out (k := 2) (by simp)
      have k3 := ints_cells HW2.out (k := 3) (by simp)
      have k4 := ints_cells HW2.out (k := 4) (by simp)
      simp only [List.map_cons, List.map_nil, List.getElem_cons_zero, List.getElem_cons_succ] at k0 k1 k2 k3 k4
      obtain ⟨z0, hz0⟩ : ∃ z, numOf l0 = z := ⟨_, rfl⟩
      rw [hz0] at k0
      have HZ0 := Lib.hid hz0
      obtain ⟨z1, hz1⟩ : ∃ z, numOf l1 = z := ⟨_, rfl⟩
      rw [hz1] at k1
      have HZ1 := Lib.hid hz1
      obtain ⟨z2, hz2⟩ : ∃ z, numOf l2 = z := ⟨_, rfl⟩
      rw [hz2] at k2
      have HZ2 := Lib.hid hz2
      obtain ⟨z3, hz3⟩ : ∃ z, numOf l3 = z := ⟨_, rfl⟩
      rw [hz3] at k3
      have HZ3 := Lib.hid hz3
      obtain ⟨z4, hz4⟩ : ∃ z, numOf l4 = z := ⟨_, rfl⟩
      rw [hz4] at k4
      have HZ4 := Lib.hid hz4
      have hQl : Q < w2.heap.size := Lib.lt_of_cell k0
      have NX := HW2.out.ne_ HX2.out (by decide)
      have hQX : Q ≠ X := fun e => NX (by rw [e]; rfl)
      clear hn NX hz0 hz1 hz2 hz3 hz4
      have HY := Lib.hid (show partI b t.data.toList = some { b with os := b.os ++ [⟨z0, z1, z2, z3, z4⟩] } by
        rw [HOK.out]
        simp [wordI, numIx, ne_circ_book, ne_circ_chan, ne_circ_htlc, hlt, HZ0.out, HZ1.out, HZ2.out, HZ3.out, HZ4.out])
      obtain ⟨ti0, hi, hz0, hz1, hz2⟩ := info_parts info_circB
      have HI := Lib.hid hi
      have HZZ0 := Lib.hid hz0
      have HZZ1 := Lib.hid hz1
      have HZZ2 := Lib.hid hz2
      obtain ⟨curQ, hqh⟩ := HW2.out.heapB
      have NQ := Lib.hid (HO2.out.o.ne_ hqh (by decide))
      clear hqh HOK hi hz0 hz1 hz2
      go_wp2_with fail
      refine wp_region_noPanic ?_
      refine wp_region_lastL2 (S := (fun w' => w'.cell? ⟨X, 5, none⟩ = some (.slice A3 b.os.length p3) ∧ w'.cell? ⟨Q, 0, none⟩ = some (.int .i64 z0) ∧ w'.cell? ⟨Q, 1, none⟩ = some (.int .i64 z1) ∧ w'.cell? ⟨Q, 2, none⟩ = some (.int .i64 z2) ∧ w'.cell? ⟨Q, 3, none⟩ = some (.int .i64 z3) ∧ w'.cell? ⟨Q, 4, none⟩ = some (.int .i64 z4))) rfl (by kernel_rfl) (by kernel_rfl) (by kernel_rfl) (by kernel_rfl) ?_ (fun hHeld => ?_)
      · exact ⟨a5, k0, k1, k2, k3, k4⟩
      obtain ⟨wd, hwd⟩ : ∃ wd, w2.drew = wd := ⟨_, rfl⟩
      have HXd : Hid (wd.heap[X]? = some (.cells #[.int .i64 b.t, .int .i64 b.n, .int .i64 b.w, .slice A1 b.cs.length p1, .slice A2 b.hs.length p2, .slice A3 b.os.length p3] 27 (0, 0))) := Lib.hid (by rw [← hwd]; exact HX2.out)
      have HOd : Hid (OwB wd B b A1 A2 A3 p1 p2 p3) := Lib.hid (by rw [← hwd]; exact HO2.out.drew)
      have HBd : Hid (Below B w wd) := Lib.hid (by rw [← hwd]; exact HB.out.drew)
      have HFd : Hid (Fr bkTs w wd) := Lib.hid (by rw [← hwd]; exact HF.out.drew)
      have hXd : X < wd.heap.size := (Array.getElem?_eq_some_iff.1 HXd.out).1
      have hQd : Q < wd.heap.size := by rw [← hwd]; exact hQl
      have hBd : B ≤ wd.heap.size := by omega
      have d0 : wd.cell? ⟨Q, 0, none⟩ = some (.int .i64 z0) := by rw [← hwd]; exact k0
      have d1 : wd.cell? ⟨Q, 1, none⟩ = some (.int .i64 z1) := by rw [← hwd]; exact k1
      have d2 : wd.cell? ⟨Q, 2, none⟩ = some (.int .i64 z2) := by rw [← hwd]; exact k2
      have d3 : wd.cell? ⟨Q, 3, none⟩ = some (.int .i64 z3) := by rw [← hwd]; exact k3
      have d4 : wd.cell? ⟨Q, 4, none⟩ = some (.int .i64 z4) := by rw [← hwd]; exact k4
      have ad : wd.cell? ⟨X, 5, none⟩ = some (.slice A3 b.os.length p3) := blk_cell HXd.out 5
      rw [hwd] at hHeld ⊢
      clear hwd a0 a1 a2 a3 a4 a5 k0 k1 k2 k3 k4
      simp only [List.dropLast]
      refine wpAnyH_take (i := 0) (v := ?v28) rfl (by kernel_rfl) (by kernel_rfl) (by kernel_rfl) (fun _ _ _ h => h) (Or.inl ⟨by rfl, ?hy28⟩) (by assumption) ?rest28
      case hy28 => (intro w hSw; (try dsimp only at hSw); go_simp; (try with_reducible rfl))
      ((try simp only [Act.put]); (try simp only [List.setIfInBounds_toArray]); (repeat (first | simp only [List.set_cons_succ] | simp only [List.set_cons_zero])))
      refine wpAnyH_take (i := 1) (v := ?v29) rfl (by kernel_rfl) (by kernel_rfl) (by kernel_rfl) (fun _ _ _ h => h) (Or.inl ⟨by rfl, ?hy29⟩) (by assumption) ?rest29
      case hy29 => (intro w hSw; (try dsimp only at hSw); go_simp; (try with_reducible rfl))
      ((try simp only [Act.put]); (try simp only [List.setIfInBounds_toArray]); (repeat (first | simp only [List.set_cons_succ] | simp only [List.set_cons_zero])))
      refine wpAnyH_take (i := 2) (v := ?v30) rfl (by kernel_rfl) (by kernel_rfl) (by kernel_rfl) (fun _ _ _ h => h) (Or.inl ⟨by rfl, ?hy30⟩) (by assumption) ?rest30
      case hy30 => (intro w hSw; (try dsimp only at hSw); go_simp; (try with_reducible rfl))
      ((try simp only [Act.put]); (try simp only [List.setIfInBounds_toArray]); (repeat (first | simp only [List.set_cons_succ] | simp only [List.set_cons_zero])))
      refine wpAnyH_take (i := 3) (v := ?v31) rfl (by kernel_rfl) (by kernel_rfl) (by kernel_rfl) (fun _ _ _ h => h) (Or.inl ⟨by rfl, ?hy31⟩) (by assumption) ?rest31
      case hy31 => (intro w hSw; (try dsimp only at hSw); go_simp; (try with_reducible rfl))
      ((try simp only [Act.put]); (try simp only [List.setIfInBounds_toArray]); (repeat (first | simp only [List.set_cons_succ] | simp only [List.set_cons_zero])))
      refine wpAnyH_take (i := 4) (v := ?v32) rfl (by kernel_rfl) (by kernel_rfl) (by kernel_rfl) (fun _ _ _ h => h) (Or.inl ⟨by rfl, ?hy32⟩) (by assumption) ?rest32
      case hy32 => (intro w hSw; (try dsimp only at hSw); go_simp; (try with_reducible rfl))
      ((try simp only [Act.put]); (try simp only [List.setIfInBounds_toArray]); (repeat (first | simp only [List.set_cons_succ] | simp only [List.set_cons_zero])))
      refine wpAnyH_take (i := 5) (v := ?v33) rfl (by kernel_rfl) (by kernel_rfl) (by kernel_rfl) (fun _ _ _ h => h) (Or.inl ⟨by rfl, ?hy33⟩) (by assumption) ?rest33
      case hy33 => (intro w hSw; (try dsimp only at hSw); go_simp; (try with_reducible rfl))
      ((try simp only [Act.put]); (try simp only [List.setIfInBounds_toArray]); (repeat (first | simp only [List.set_cons_succ] | simp only [List.set_cons_zero])))
      refine wpAnyH_take (i := 6) (v := ?v34) rfl (by kernel_rfl) (by kernel_rfl) (by kernel_rfl) (fun _ _ _ h => h) (Or.inl ⟨by rfl, ?hy34⟩) (by assumption) ?rest34
      case hy34 => (intro w hSw; (try dsimp only at hSw); go_simp; (try with_reducible rfl))
      ((try simp only [Act.put]); (try simp only [List.setIfInBounds_toArray]); (repeat (first | simp only [List.set_cons_succ] | simp only [List.set_cons_zero])))
      refine wpAnyH_take (i := 7) (v := ?v35) rfl (by kernel_rfl) (by kernel_rfl) (by kernel_rfl) (fun _ _ _ h => h) (Or.inl ⟨by rfl, ?hy35⟩) (by assumption) ?rest35
      case hy35 => (intro w hSw; (try dsimp only at hSw); go_simp; (try with_reducible rfl))
      ((try simp only [Act.put]); (try simp only [List.setIfInBounds_toArray]); (repeat (first | simp only [List.set_cons_succ] | simp only [List.set_cons_zero])))
      refine wpAnyH_take (i := 8) (v := ?v36) rfl (by kernel_rfl) (by kernel_rfl) (by kernel_rfl) (fun _ _ _ h => h) (Or.inl ⟨by rfl, ?hy36⟩) (by assumption) ?rest36
      case hy36 => (intro w hSw; (try dsimp only at hSw); go_simp; (try with_reducible rfl))
      ((try simp only [Act.put]); (try simp only [List.setIfInBounds_toArray]); (repeat (first | simp only [List.set_cons_succ] | simp only [List.set_cons_zero])))
      refine wpAnyH_take (i := 9) (v := ?v37) rfl (by kernel_rfl) (by kernel_rfl) (by kernel_rfl) (fun _ _ _ h => h) (Or.inl ⟨by rfl, ?hy37⟩) (by assumption) ?rest37
      case hy37 => (intro w hSw; (try dsimp only at hSw); go_simp; (try with_reducible rfl))
      ((try simp only [Act.put]); (try simp only [List.setIfInBounds_toArray]); (repeat (first | simp only [List.set_cons_succ] | simp only [List.set_cons_zero])))
      refine wpAnyH_take (i := 10) (v := ?v38) rfl (by kernel_rfl) (by kernel_rfl) (by kernel_rfl) (fun _ _ _ h => h) (Or.inl ⟨by rfl, ?hy38⟩) (by assumption) ?rest38
      case hy38 => (intro w hSw; (try dsimp only at hSw); go_simp; (try with_reducible rfl))
      ((try simp only [Act.put]); (try simp only [List.setIfInBounds_toArray]); (repeat (first | simp only [List.set_cons_succ] | simp only [List.set_cons_zero])))
      refine wpAnyH_take (i := 11) (v := ?v39) rfl (by kernel_rfl) (by kernel_rfl) (by kernel_rfl) (fun _ _ _ h => h) (Or.inl ⟨by rfl, ?hy39⟩) (by assumption) ?rest39
      case hy39 => (intro w hSw; (try dsimp only at hSw); go_simp; (try with_reducible rfl))
      ((try simp only [Act.put]); (try simp only [List.setIfInBounds_toArray]); (repeat (first | simp only [List.set_cons_succ] | simp only [List.set_cons_zero])))
      refine wpAnyH_take (i := 12) (v := ?v40) rfl (by kernel_rfl) (by kernel_rfl) (by kernel_rfl) (fun _ _ _ h => h) (Or.inl ⟨by rfl, ?hy40⟩) (by assumption) ?rest40
      case hy40 => (intro w hSw; (try dsimp only at hSw); go_simp; (try with_reducible rfl))
      ((try simp only [Act.put]); (try simp only [List.setIfInBounds_toArray]); (repeat (first | simp only [List.set_cons_succ] | simp only [List.set_cons_zero])))
      refine wpAnyH_take (i := 13) (v := ?v41) rfl (by kernel_rfl) (by kernel_rfl) (by kernel_rfl) (fun _ _ _ h => h) (Or.inl ⟨by rfl, ?hy41⟩) (by assumption) ?rest41
      case hy41 => (intro w hSw; (try dsimp only at hSw); go_simp; (try with_reducible rfl))
      ((try simp only [Act.put]); (try simp only [List.setIfInBounds_toArray]); (repeat (first | simp only [List.set_cons_succ] | simp only [List.set_cons_zero])))
      refine wpAnyH_take (i := 14) (v := ?v42) rfl (by kernel_rfl) (by kernel_rfl) (by kernel_rfl) (fun _ _ _ h => h) (Or.inl ⟨by rfl, ?hy42⟩) (by assumption) ?rest42
      case hy42 => (intro w hSw; (try dsimp only at hSw); go_simp; (try with_reducible rfl))
      ((try simp only [Act.put]); (try simp only [List.setIfInBounds_toArray]); (repeat (first | simp only [List.set_cons_succ] | simp only [List.set_cons_zero])))
      refine wpAnyH_take (i := 15) (v := ?v43) rfl (by kernel_rfl) (by kernel_rfl) (by kernel_rfl) (fun _ _ _ h => h) (Or.inl ⟨by rfl, ?hy43⟩) (by assumption) ?rest43
      case hy43 => (intro w hSw; (try dsimp only at hSw); go_simp; (try with_reducible rfl))
      ((try simp only [Act.put]); (try simp only [List.setIfInBounds_toArray]); (repeat (first | simp only [List.set_cons_succ] | simp only [List.set_cons_zero])))
      refine wpAnyH_take (i := 16) (v := ?v44) rfl (by kernel_rfl) (by kernel_rfl) (by kernel_rfl) (fun _ _ _ h => h) (Or.inl ⟨by rfl, ?hy44⟩) (by assumption) ?rest44
      case hy44 => (intro w hSw; (try dsimp only at hSw); go_simp; (try with_reducible rfl))
      ((try simp only [Act.put]); (try simp only [List.setIfInBounds_toArray]); (repeat (first | simp only [List.set_cons_succ] | simp only [List.set_cons_zero])))
      refine wpAnyH_take (i := 17) (v := ?v45) rfl (by kernel_rfl) (by kernel_rfl) (by kernel_rfl) (fun _ _ _ h => h) (Or.inl ⟨by rfl, ?hy45⟩) (by assumption) ?rest45
      case hy45 => (intro w hSw; (try dsimp only at hSw); go_simp; (try with_reducible rfl))
      ((try simp only [Act.put]); (try simp only [List.setIfInBounds_toArray]); (repeat (first | simp only [List.set_cons_succ] | simp only [List.set_cons_zero])))
      refine wpAnyH_take (i := 18) (v := ?v46) rfl (by kernel_rfl) (by kernel_rfl) (by kernel_rfl) (fun _ _ _ h => h) (Or.inl ⟨by rfl, ?hy46⟩) (by assumption) ?rest46
      case hy46 => (intro w hSw; (try dsimp only at hSw); go_simp; (try with_reducible rfl))
      ((try simp only [Act.put]); (try simp only [List.setIfInBounds_toArray]); (repeat (first | simp only [List.set_cons_succ] | simp only [List.set_cons_zero])))
      refine wpAnyH_take (i := 19) (v := ?v47) rfl (by kernel_rfl) (by kernel_rfl) (by kernel_rfl) (fun _ _ _ h => h) (Or.inl ⟨by rfl, ?hy47⟩) (by assumption) ?rest47
      case hy47 => (intro w hSw; (try dsimp only at hSw); go_simp; (try with_reducible rfl))
      ((try simp only [Act.put]); (try simp only [List.setIfInBounds_toArray]); (repeat (first | simp only [List.set_cons_succ] | simp only [List.set_cons_zero])))
      refine wpAnyH_take (i := 20) (v := ?v48) rfl (by kernel_rfl) (by kernel_rfl) (by kernel_rfl) (fun _ _ _ h => h) (Or.inl ⟨by rfl, ?hy48⟩) (by assumption) ?rest48
      case hy48 => (intro w hSw; (try dsimp only at hSw); go_simp; (try with_reducible rfl))
      ((try simp only [Act.put]); (try simp only [List.setIfInBounds_toArray]); (repeat (first | simp only [List.set_cons_succ] | simp only [List.set_cons_zero])))
      refine wpAnyH_ready (rs := [21]) (by kernel_rfl) (by simp) ?_
      refine AllReadyH.cons rfl (fun K hK => ?_) ?_
      · skip
        go_simp
        refine hK.out _ _ ?_ (fun hHeld => ?_)
        · exact ⟨cell_past hXd ad, cell_past hQd d0, cell_past hQd d1, cell_past hQd d2, cell_past hQd d3, cell_past hQd d4⟩
        clear hK K
        ((try simp only [Act.put]); (try simp only [List.setIfInBounds_toArray]); (repeat (first | simp only [List.set_cons_succ] | simp only [List.set_cons_zero])))
        refine wpAnyH_ready (rs := [22]) (by kernel_rfl) (by simp) ?_
        refine AllReadyH.cons rfl (fun K hK => ?_) ?_
        · skip
          refine step_app1 (by rfl) _ _ _ (by rfl) B 49 ti0 _ 5 40 Tryz.underlying25 HI.out HZZ0.out HZZ1.out HZZ2.out rfl (by decide) (.slice A3 b.os.length p3) (b.os.map Circle.cells) (by rfl) (HOd.out.o.alloc _) wd.heap.size 1 [.int .i64 z0, .int .i64 z1, .int .i64 z2, .int .i64 z3, .int .i64 z4] 49 (by rfl) (heap_at (by first | rfl | (simp; done))) rfl (by simp [Value.oneCell']) (by rw [List.length_map]; omega) (by decide) (by first | omega | (simp; omega) | (simp; done)) ?_
          intro g2 cap2 w6 how6 hgr6 hat6 hlt6
          rw [List.length_map] at how6
          rw [List.length_map]
          have hOa := HOd.out.alloc (.cells ([.int .i64 z0, .int .i64 z1, .int .i64 z2, .int .i64 z3, .int .i64 z4] : List Value).toArray 49)
          have hX6 := heap_grown hgr6 (hOa.o.ne_ (heap_past hXd HXd.out) (by decide)) (heap_past hXd HXd.out)
          have hB6 := (HBd.out.alloc hBd _).grown hgr6 (by simp; omega) (fun k e => (hOa.o.block k e).1)
          have hF6 := (HFd.out.alloc _).grown hOa.o (by decide) hgr6
          have hQ6 := hgr6
          have hNQ : some Q ≠ (Value.slice A3 b.os.length p3).ownBlock := NQ.out
          obtain ⟨_, f0, f1, f2, f3, f4, f5, ff, fz⟩ := own6 (g := X) (Below.refl _ w6) (Array.getElem?_eq_some_iff.1 hX6).1 hX6
          have e0 : w6.cell? ⟨Q, 0, none⟩ = some (.int .i64 z0) := (hgr6.cell_far ⟨Q, 0, none⟩ (by show Q < _; simp; omega) hNQ).trans (cell_past hQd d0)
          have e1 : w6.cell? ⟨Q, 1, none⟩ = some (.int .i64 z1) := (hgr6.cell_far ⟨Q, 1, none⟩ (by show Q < _; simp; omega) hNQ).trans (cell_past hQd d1)
          have e2 : w6.cell? ⟨Q, 2, none⟩ = some (.int .i64 z2) := (hgr6.cell_far ⟨Q, 2, none⟩ (by show Q < _; simp; omega) hNQ).trans (cell_past hQd d2)
          have e3 : w6.cell? ⟨Q, 3, none⟩ = some (.int .i64 z3) := (hgr6.cell_far ⟨Q, 3, none⟩ (by show Q < _; simp; omega) hNQ).trans (cell_past hQd d3)
          have e4 : w6.cell? ⟨Q, 4, none⟩ = some (.int .i64 z4) := (hgr6.cell_far ⟨Q, 4, none⟩ (by show Q < _; simp; omega) hNQ).trans (cell_past hQd d4)
          have HR6 := Lib.hid how6
          have HX6 := Lib.hid hX6
          have HB6 := Lib.hid hB6
          have HF6 := Lib.hid hF6
          have HOc := Lib.hid (hOa.c.apart_ hOa.o (by decide) hgr6)
          have HOh := Lib.hid (hOa.h.apart_ hOa.o (by decide) hgr6)
          clear how6 hgr6 hat6 hX6 hB6 hF6 hOa hQ6 hNQ
          refine hK.out _ _ ?_ (fun hHeld => ?_)
          · exact ⟨f5, e0, e1, e2, e3, e4⟩
          clear hK K
          ((try simp only [Act.put]); (try simp only [List.setIfInBounds_toArray]); (repeat (first | simp only [List.set_cons_succ] | simp only [List.set_cons_zero])))
          refine wpAnyH_take (i := 23) (v := ?v49) rfl (by kernel_rfl) (by kernel_rfl) (by kernel_rfl) (fun _ _ _ h => h) (Or.inl ⟨by rfl, ?hy49⟩) (by assumption) ?rest49
          case hy49 => (intro w hSw; (try dsimp only at hSw); go_simp; (try with_reducible rfl))
          ((try simp only [Act.put]); (try simp only [List.setIfInBounds_toArray]); (repeat (first | simp only [List.set_cons_succ] | simp only [List.set_cons_zero])))
          refine wpAnyH_take (i := 24) (v := ?v50) rfl (by kernel_rfl) (by kernel_rfl) (by kernel_rfl) (fun _ _ _ h => h) (Or.inl ⟨by rfl, ?hy50⟩) (by assumption) ?rest50
          case hy50 => (intro w hSw; (try dsimp only at hSw); go_simp; (try with_reducible rfl))
          ((try simp only [Act.put]); (try simp only [List.setIfInBounds_toArray]); (repeat (first | simp only [List.set_cons_succ] | simp only [List.set_cons_zero])))
          refine wpAnyH_done (by kernel_rfl) ?_ _
          intro KK hKK
          go_simp
          refine hKK _ _ (NoPanic.normal ?_)
          go_wp2_with fail
          go_ret
          refine PartP.yes HY.out (A1 := A1) (A2 := A2) (A3 := some ⟨g2, 0, none⟩) (p1 := p1) (p2 := p2) (p3 := cap2) ?_ ?_ ?_ ?_
          · unfold BoxB
            dsimp only
            rw [List.length_append]
            exact (six_set HX6.out _).2.2.2.2.2
          · exact ⟨HOc.out.aside HX6.out (by decide) _, HOh.out.aside HX6.out (by decide) _, by dsimp only; rw [List.length_append, List.map_append]; exact HR6.out.aside HX6.out (by decide) _⟩
          · exact below_setB HB6.out hBX _
          · exact HF6.out.set HX6.out (by decide) _
        exact AllReadyH.nil
      exact AllReadyH.nil
    · have hlt' : decide ((b.os.length : Int) < 20) = false := decide_eq_false (by omega)
      have t5 : ((l.length : Int) == 5) = true := by rw [beq_iff_eq]; omega
      have HN := Lib.hid (show partI b t.data.toList = none by
        rw [HOK.out]
        simp [wordI, ne_circ_book, ne_circ_chan, ne_circ_htlc, ne_circ_over, hlt])
      go_wp2_with fail
      go_ret
      exact PartP.no HN.out HB.out HF.out
  · have t5 : ((l.length : Int) == 5) = false := by rw [beq_eq_false_iff_ne]; omega
    have HN := Lib.hid (show partI b t.data.toList = none by
      rw [HOK.out]
      simp [wordI, ne_circ_book, ne_circ_chan, ne_circ_htlc, ne_circ_over, hn])
    clear hn
    go_wp2_with fail
    go_ret
    exact PartP.no HN.out HB.out HF.out
end Go.Proofs.YtcjbjpobpefehaaGreatDoor
