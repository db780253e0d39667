/- A line of a book read by the program: a payment of seven words. -/
import Derived.Test.YtcjbjpobpefehaaGreatDoorRows
import Derived.Test.YtcjbjpobpefehaaGreatDoorM4
import Derived.Deep.RegionHeld3
namespace Go.Proofs.YtcjbjpobpefehaaGreatDoor
open Go.RowKit Go.Deep

set_option maxRecDepth 100000 in
set_option maxHeartbeats 4000000 in
theorem i_textPart_htlc_nx (X B : Nat) (b : Bk) (A1 A2 A3 : Option Addr) (p1 p2 p3 : Nat) (t : ByteArray) (w : World) (hld : Le w) (hs : t.size ≤ 1048576) (hX : BoxB w X b A1 A2 A3 p1 p2 p3) (hO : OwB w B b A1 A2 A3 p1 p2 p3) (hBX : B ≤ X) (hl : b.cs.length ≤ 20 ∧ b.hs.length ≤ 60 ∧ b.os.length ≤ 20) (l : List (List UInt8)) (hP : parts 32 t.data.toList = htlcW :: l) (hm0 : l.length ≠ 0) (hm7 : l.length ≠ 7) :
    Calls Tryz.prog 27 #[.pointer (some ⟨X, 0, none⟩), .string t] w (PartP X B b t.data.toList w) := by
  have hl1 := hl.1
  have hl2 := hl.2.1
  have hl3 := hl.2.2
  clear hl
  have HLD := Lib.hid hld
  have hXl : X < w.heap.size := hX.lt
  have hBw : B ≤ w.heap.size := by omega
  have HX := Lib.hid hX
  have HO := Lib.hid hO
  have HC := Lib.hid (i_Split t 32 w hld.toLd (by omega))
  have hz : t.data.toList.length = t.size := Array.length_toList
  have hsub := parts_sub 32 t.data.toList
  have hpl := parts_len 32 t.data.toList
  rw [hP] at hsub hpl
  have HSZ := Lib.hid (show ∀ x ∈ l, x.length ≤ 1048576 from fun x hx => by have := hsub x (by simp [hx]); omega)
  simp only [List.length_cons] at hpl
  have hll : l.length ≤ 1048577 := by omega
  have hcut : cutI (htlcW :: l) = htlcW :: l := if_neg (by rintro ⟨k1, k2⟩; simp at k1; omega)
  have hkept : keptI (htlcW :: l) = false := by
    unfold keptI
    rw [decide_eq_false (by simp; omega)]; rfl
  have HPI := Lib.hid (show partI b t.data.toList = if l.all numOk = false then none else wordI b htlcW l false by
    unfold partI
    rw [hP, hcut, hkept]
    rfl)
  rw [hP] at HC
  clear hP hsub hpl hz hcut hkept hld hX hO
  go_enter Tryz.func27, Tryz.ntmps27
  go_wp2_with fail
  refine HC.out.mono ?_
  rintro e w1 ⟨rfl, how1, hb1⟩
  have z1 := hb1.size
  have hX1 := heap_below hb1 hXl HX.out
  have HO1 := Lib.hid (HO.out.below hb1)
  obtain ⟨b0, off0, e0, hbB, c0⟩ := strs_rd how1.rd (k := 0) (by simp)
  simp only [Option.some.injEq, Addr.mk.injEq, and_true] at e0
  obtain ⟨rfl, rfl⟩ := e0
  simp only [List.getElem_cons_zero, Nat.add_zero] at c0
  have HR1 := Lib.hid (strs_tail how1.rd)
  have hN : (htlcW :: l).length = l.length + 1 := rfl
  rw [hN]
  obtain ⟨m, hm⟩ : ∃ m, l.length = m := ⟨_, rfl⟩
  have HML := Lib.hid hm
  rw [hm] at hm0 hm7 hll ⊢
  have t8 : ((m : Int) + 1 == 8) = false := by rw [beq_eq_false_iff_ne]; omega
  have m1 : 0 < m := by omega
  have HX1 := Lib.hid hX1
  have hbA : Below w.heap.size w w1 := hb1
  have hm7' : m ≠ 7 := hm7
  have HM7 := Lib.hid hm7'
  clear hN hm how1 hm0 hm7 hm7' hX1 hb1
  go_wp2_with fail
  rw [← HML.out]
  refine (i_numbersOf l _ _ _ (HLD.out.below hbA) (by rw [HML.out]; omega) HSZ.out HR1.out).mono ?_
  rintro e w2 ⟨hnum, hb2⟩
  have z2 := hb2.size
  have hX2 := heap_below hb2 (Nat.lt_of_lt_of_le hXl z1) HX1.out
  have HO2 := Lib.hid (HO1.out.below hb2)
  have c0 := (hb2.cell (p := ⟨w.heap.size, 0, none⟩) hbB).trans c0
  have hbB2 : Below w.heap.size w w2 := by (first | ((repeat' first | (with_reducible (first | exact Below.refl _ _ | assumption | refine Below.setCell ?_ ?_ _ | refine Below.alloc ?_ ?_ _ | refine Below.drew ?_ | refine below_drewN ?_ _ | refine Below.trans ?_ (Below.mono (by assumption) ?_))) | omega | (simp; omega) | (simp; done)); done) | (repeat' first | exact Below.refl _ _ | assumption | refine Below.setCell ?_ (by first | omega | (simp; omega) | (simp; done)) _ | refine Below.alloc ?_ (by first | omega | (simp; omega) | (simp; done)) _ | refine Below.drew ?_ | refine below_drewN ?_ _ | refine Below.trans ?_ (Below.mono (by assumption) (by first | omega | (simp; omega) | (simp; done)))))
  have HB := Lib.hid (hbB2.mono hBw)
  have HF := Lib.hid (Fr.of_below (ts := bkTs) hbB2)
  obtain ⟨_, a0, a1, a2, a3, a4, a5, af, az⟩ := own6 (g := X) (Below.refl _ w2) (Array.getElem?_eq_some_iff.1 hX2).1 hX2
  have HX2 := Lib.hid hX2
  rcases hnum with ⟨hok, AQ, capQ, rfl, how2⟩ | ⟨hno, rfl⟩
  rotate_left
  · have HNo := Lib.hid (show partI b t.data.toList = none by rw [HPI.out, if_pos hno])
    clear hno hX2
    go_wp2_with fail
    go_ret
    exact PartP.no HNo.out HB.out HF.out
  have HOK := Lib.hid (show partI b t.data.toList = wordI b htlcW l false by rw [HPI.out, if_neg (by rw [hok]; simp)])
  have HW2 := Lib.hid how2
  clear hok hX2 how2 HX1 HO1 HPI hb2 hbA hbB2
  by_cases hn : l.length = 6
  · by_cases hlt : b.hs.length < 60
    · have hlt' : ((b.hs.length : Int) < 60) := by omega
      have hQ0 : 0 < (((l.map numOf).map intCells)).length := by simp; omega
      obtain ⟨Q, rfl, hQB⟩ := HW2.out.head_ hQ0
      clear hQ0
      obtain ⟨l0, l1, l2, l3, l4, l5, rfl⟩ := list6 hn
      have k0 := ints_cells HW2.out (k := 0) (by simp)
      have k1 := ints_cells HW2.out (k := 1) (by simp)
      have k2 := ints_cells HW2.out (k := 2) (by simp)
      have k3 := ints_cells HW2.out (k := 3) (by simp)
      have k4 := ints_cells HW2.out (k := 4) (by simp)
      have k5 := ints_cells HW2.out (k := 5) (by simp)
      simp only [List.map_cons, List.map_nil, List.getElem_cons_zero, List.getElem_cons_succ] at k0 k1 k2 k3 k4 k5
      obtain ⟨z0, hz0⟩ : ∃ z, numOf l0 = z := ⟨_, rfl⟩
      rw [hz0] at k0
      have HZ0 := Lib.hid hz0
      obtain ⟨z1, hz1⟩ : ∃ z, numOf l1 = z := ⟨_, rfl⟩
      rw [hz1] at k1
      have HZ1 := Lib.hid hz1
      obtain ⟨z2, hz2⟩ : ∃ z, numOf l2 = z := ⟨_, rfl⟩
      rw [hz2] at k2
      have HZ2 := Lib.hid hz2
      obtain ⟨z3, hz3⟩ : ∃ z, numOf l3 = z := ⟨_, rfl⟩
      rw [hz3] at k3
      have HZ3 := Lib.hid hz3
      obtain ⟨z4, hz4⟩ : ∃ z, numOf l4 = z := ⟨_, rfl⟩
      rw [hz4] at k4
      have HZ4 := Lib.hid hz4
      obtain ⟨z5, hz5⟩ : ∃ z, numOf l5 = z := ⟨_, rfl⟩
      rw [hz5] at k5
      have HZ5 := Lib.hid hz5
      have hQl : Q < w2.heap.size := Lib.lt_of_cell k0
      have NX := HW2.out.ne_ HX2.out (by decide)
      have hQX : Q ≠ X := fun e => NX (by rw [e]; rfl)
      clear hn NX hz0 hz1 hz2 hz3 hz4 hz5
      have HY := Lib.hid (show partI b t.data.toList = some { b with hs := b.hs ++ [⟨z0, z1, z2, z3, z4, false, z5⟩] } by
        rw [HOK.out]
        simp [wordI, numIx, ne_htlc_book, ne_htlc_chan, hlt, HZ0.out, HZ1.out, HZ2.out, HZ3.out, HZ4.out, HZ5.out])
      obtain ⟨ti0, hi, hz0, hz1, hz2⟩ := info_parts info_htlcB
      have HI := Lib.hid hi
      have HZZ0 := Lib.hid hz0
      have HZZ1 := Lib.hid hz1
      have HZZ2 := Lib.hid hz2
      obtain ⟨curQ, hqh⟩ := HW2.out.heapB
      have NQ := Lib.hid (HO2.out.h.ne_ hqh (by decide))
      clear hqh HOK hi hz0 hz1 hz2
      go_wp2_with fail
      refine wp_region_noPanic ?_
      refine wp_region_lastL2 (S := (fun w' => w'.cell? ⟨X, 4, none⟩ = some (.slice A2 b.hs.length p2) ∧ w'.cell? ⟨Q, 0, none⟩ = some (.int .i64 z0) ∧ w'.cell? ⟨Q, 1, none⟩ = some (.int .i64 z1) ∧ w'.cell? ⟨Q, 2, none⟩ = some (.int .i64 z2) ∧ w'.cell? ⟨Q, 3, none⟩ = some (.int .i64 z3) ∧ w'.cell? ⟨Q, 4, none⟩ = some (.int .i64 z4) ∧ w'.cell? ⟨Q, 5, none⟩ = some (.int .i64 z5))) rfl (by kernel_rfl) (by kernel_rfl) (by kernel_rfl) (by kernel_rfl) ?_ (fun hHeld => ?_)
      · exact ⟨a4, k0, k1, k2, k3, k4, k5⟩
      obtain ⟨wd, hwd⟩ : ∃ wd, w2.drew = wd := ⟨_, rfl⟩
      have HXd : Hid (wd.heap[X]? = some (.cells #[.int .i64 b.t, .int .i64 b.n, .int .i64 b.w, .slice A1 b.cs.length p1, .slice A2 b.hs.length p2, .slice A3 b.os.length p3] 27 (0, 0))) := Lib.hid (by rw [← hwd]; exact HX2.out)
      have HOd : Hid (OwB wd B b A1 A2 A3 p1 p2 p3) := Lib.hid (by rw [← hwd]; exact HO2.out.drew)
      have HBd : Hid (Below B w wd) := Lib.hid (by rw [← hwd]; exact HB.out.drew)
      have HFd : Hid (Fr bkTs w wd) := Lib.hid (by rw [← hwd]; exact HF.out.drew)
      have hXd : X < wd.heap.size := (Array.getElem?_eq_some_iff.1 HXd.out).1
      have hQd : Q < wd.heap.size := by rw [← hwd]; exact hQl
      have hBd : B ≤ wd.heap.size := by omega
      have d0 : wd.cell? ⟨Q, 0, none⟩ = some (.int .i64 z0) := by rw [← hwd]; exact k0
      have d1 : wd.cell? ⟨Q, 1, none⟩ = some (.int .i64 z1) := by rw [← hwd]; exact k1
      have d2 : wd.cell? ⟨Q, 2, none⟩ = some (.int .i64 z2) := by rw [← hwd]; exact k2
      have d3 : wd.cell? ⟨Q, 3, none⟩ = some (.int .i64 z3) := by rw [← hwd]; exact k3
      have d4 : wd.cell? ⟨Q, 4, none⟩ = some (.int .i64 z4) := by rw [← hwd]; exact k4
      have d5 : wd.cell? ⟨Q, 5, none⟩ = some (.int .i64 z5) := by rw [← hwd]; exact k5
      have ad : wd.cell? ⟨X, 4, none⟩ = some (.slice A2 b.hs.length p2) := blk_cell HXd.out 4
      rw [hwd] at hHeld ⊢
      clear hwd a0 a1 a2 a3 a4 a5 k0 k1 k2 k3 k4 k5
      simp only [List.dropLast]
      refine wpAnyH_take (i := 0) (v := ?v1) rfl (by kernel_rfl) (by kernel_rfl) (by kernel_rfl) (fun _ _ _ h => h) (Or.inl ⟨by rfl, ?hy1⟩) (by assumption) ?rest1
      case hy1 => (intro w hSw; (try dsimp only at hSw); go_simp; (try with_reducible rfl))
      ((try simp only [Act.put]); (try simp only [List.setIfInBounds_toArray]); (repeat (first | simp only [List.set_cons_succ] | simp only [List.set_cons_zero])))
      refine wpAnyH_take (i := 1) (v := ?v2) rfl (by kernel_rfl) (by kernel_rfl) (by kernel_rfl) (fun _ _ _ h => h) (Or.inl ⟨by rfl, ?hy2⟩) (by assumption) ?rest2
      case hy2 => (intro w hSw; (try dsimp only at hSw); go_simp; (try with_reducible rfl))
      ((try simp only [Act.put]); (try simp only [List.setIfInBounds_toArray]); (repeat (first | simp only [List.set_cons_succ] | simp only [List.set_cons_zero])))
      refine wpAnyH_take (i := 2) (v := ?v3) rfl (by kernel_rfl) (by kernel_rfl) (by kernel_rfl) (fun _ _ _ h => h) (Or.inl ⟨by rfl, ?hy3⟩) (by assumption) ?rest3
      case hy3 => (intro w hSw; (try dsimp only at hSw); go_simp; (try with_reducible rfl))
      ((try simp only [Act.put]); (try simp only [List.setIfInBounds_toArray]); (repeat (first | simp only [List.set_cons_succ] | simp only [List.set_cons_zero])))
      refine wpAnyH_take (i := 3) (v := ?v4) rfl (by kernel_rfl) (by kernel_rfl) (by kernel_rfl) (fun _ _ _ h => h) (Or.inl ⟨by rfl, ?hy4⟩) (by assumption) ?rest4
      case hy4 => (intro w hSw; (try dsimp only at hSw); go_simp; (try with_reducible rfl))
      ((try simp only [Act.put]); (try simp only [List.setIfInBounds_toArray]); (repeat (first | simp only [List.set_cons_succ] | simp only [List.set_cons_zero])))
      refine wpAnyH_take (i := 4) (v := ?v5) rfl (by kernel_rfl) (by kernel_rfl) (by kernel_rfl) (fun _ _ _ h => h) (Or.inl ⟨by rfl, ?hy5⟩) (by assumption) ?rest5
      case hy5 => (intro w hSw; (try dsimp only at hSw); go_simp; (try with_reducible rfl))
      ((try simp only [Act.put]); (try simp only [List.setIfInBounds_toArray]); (repeat (first | simp only [List.set_cons_succ] | simp only [List.set_cons_zero])))
      refine wpAnyH_take (i := 5) (v := ?v6) rfl (by kernel_rfl) (by kernel_rfl) (by kernel_rfl) (fun _ _ _ h => h) (Or.inl ⟨by rfl, ?hy6⟩) (by assumption) ?rest6
      case hy6 => (intro w hSw; (try dsimp only at hSw); go_simp; (try with_reducible rfl))
      ((try simp only [Act.put]); (try simp only [List.setIfInBounds_toArray]); (repeat (first | simp only [List.set_cons_succ] | simp only [List.set_cons_zero])))
      refine wpAnyH_take (i := 6) (v := ?v7) rfl (by kernel_rfl) (by kernel_rfl) (by kernel_rfl) (fun _ _ _ h => h) (Or.inl ⟨by rfl, ?hy7⟩) (by assumption) ?rest7
      case hy7 => (intro w hSw; (try dsimp only at hSw); go_simp; (try with_reducible rfl))
      ((try simp only [Act.put]); (try simp only [List.setIfInBounds_toArray]); (repeat (first | simp only [List.set_cons_succ] | simp only [List.set_cons_zero])))
      refine wpAnyH_take (i := 7) (v := ?v8) rfl (by kernel_rfl) (by kernel_rfl) (by kernel_rfl) (fun _ _ _ h => h) (Or.inl ⟨by rfl, ?hy8⟩) (by assumption) ?rest8
      case hy8 => (intro w hSw; (try dsimp only at hSw); go_simp; (try with_reducible rfl))
      ((try simp only [Act.put]); (try simp only [List.setIfInBounds_toArray]); (repeat (first | simp only [List.set_cons_succ] | simp only [List.set_cons_zero])))
      refine wpAnyH_take (i := 8) (v := ?v9) rfl (by kernel_rfl) (by kernel_rfl) (by kernel_rfl) (fun _ _ _ h => h) (Or.inl ⟨by rfl, ?hy9⟩) (by assumption) ?rest9
      case hy9 => (intro w hSw; (try dsimp only at hSw); go_simp; (try with_reducible rfl))
      ((try simp only [Act.put]); (try simp only [List.setIfInBounds_toArray]); (repeat (first | simp only [List.set_cons_succ] | simp only [List.set_cons_zero])))
      refine wpAnyH_take (i := 9) (v := ?v10) rfl (by kernel_rfl) (by kernel_rfl) (by kernel_rfl) (fun _ _ _ h => h) (Or.inl ⟨by rfl, ?hy10⟩) (by assumption) ?rest10
      case hy10 => (intro w hSw; (try dsimp only at hSw); go_simp; (try with_reducible rfl))
      ((try simp only [Act.put]); (try simp only [List.setIfInBounds_toArray]); (repeat (first | simp only [List.set_cons_succ] | simp only [List.set_cons_zero])))
      refine wpAnyH_take (i := 10) (v := ?v11) rfl (by kernel_rfl) (by kernel_rfl) (by kernel_rfl) (fun _ _ _ h => h) (Or.inl ⟨by rfl, ?hy11⟩) (by assumption) ?rest11
      case hy11 => (intro w hSw; (try dsimp only at hSw); go_simp; (try with_reducible rfl))
      ((try simp only [Act.put]); (try simp only [List.setIfInBounds_toArray]); (repeat (first | simp only [List.set_cons_succ] | simp only [List.set_cons_zero])))
      refine wpAnyH_take (i := 11) (v := ?v12) rfl (by kernel_rfl) (by kernel_rfl) (by kernel_rfl) (fun _ _ _ h => h) (Or.inl ⟨by rfl, ?hy12⟩) (by assumption) ?rest12
      case hy12 => (intro w hSw; (try dsimp only at hSw); go_simp; (try with_reducible rfl))
      ((try simp only [Act.put]); (try simp only [List.setIfInBounds_toArray]); (repeat (first | simp only [List.set_cons_succ] | simp only [List.set_cons_zero])))
      refine wpAnyH_take (i := 12) (v := ?v13) rfl (by kernel_rfl) (by kernel_rfl) (by kernel_rfl) (fun _ _ _ h => h) (Or.inl ⟨by rfl, ?hy13⟩) (by assumption) ?rest13
      case hy13 => (intro w hSw; (try dsimp only at hSw); go_simp; (try with_reducible rfl))
      ((try simp only [Act.put]); (try simp only [List.setIfInBounds_toArray]); (repeat (first | simp only [List.set_cons_succ] | simp only [List.set_cons_zero])))
      refine wpAnyH_take (i := 13) (v := ?v14) rfl (by kernel_rfl) (by kernel_rfl) (by kernel_rfl) (fun _ _ _ h => h) (Or.inl ⟨by rfl, ?hy14⟩) (by assumption) ?rest14
      case hy14 => (intro w hSw; (try dsimp only at hSw); go_simp; (try with_reducible rfl))
      ((try simp only [Act.put]); (try simp only [List.setIfInBounds_toArray]); (repeat (first | simp only [List.set_cons_succ] | simp only [List.set_cons_zero])))
      refine wpAnyH_take (i := 14) (v := ?v15) rfl (by kernel_rfl) (by kernel_rfl) (by kernel_rfl) (fun _ _ _ h => h) (Or.inl ⟨by rfl, ?hy15⟩) (by assumption) ?rest15
      case hy15 => (intro w hSw; (try dsimp only at hSw); go_simp; (try with_reducible rfl))
      ((try simp only [Act.put]); (try simp only [List.setIfInBounds_toArray]); (repeat (first | simp only [List.set_cons_succ] | simp only [List.set_cons_zero])))
      refine wpAnyH_take (i := 15) (v := ?v16) rfl (by kernel_rfl) (by kernel_rfl) (by kernel_rfl) (fun _ _ _ h => h) (Or.inl ⟨by rfl, ?hy16⟩) (by assumption) ?rest16
      case hy16 => (intro w hSw; (try dsimp only at hSw); go_simp; (try with_reducible rfl))
      ((try simp only [Act.put]); (try simp only [List.setIfInBounds_toArray]); (repeat (first | simp only [List.set_cons_succ] | simp only [List.set_cons_zero])))
      refine wpAnyH_take (i := 16) (v := ?v17) rfl (by kernel_rfl) (by kernel_rfl) (by kernel_rfl) (fun _ _ _ h => h) (Or.inl ⟨by rfl, ?hy17⟩) (by assumption) ?rest17
      case hy17 => (intro w hSw; (try dsimp only at hSw); go_simp; (try with_reducible rfl))
      ((try simp only [Act.put]); (try simp only [List.setIfInBounds_toArray]); (repeat (first | simp only [List.set_cons_succ] | simp only [List.set_cons_zero])))
      refine wpAnyH_take (i := 17) (v := ?v18) rfl (by kernel_rfl) (by kernel_rfl) (by kernel_rfl) (fun _ _ _ h => h) (Or.inl ⟨by rfl, ?hy18⟩) (by assumption) ?rest18
      case hy18 => (intro w hSw; (try dsimp only at hSw); go_simp; (try with_reducible rfl))
      ((try simp only [Act.put]); (try simp only [List.setIfInBounds_toArray]); (repeat (first | simp only [List.set_cons_succ] | simp only [List.set_cons_zero])))
      refine wpAnyH_take (i := 18) (v := ?v19) rfl (by kernel_rfl) (by kernel_rfl) (by kernel_rfl) (fun _ _ _ h => h) (Or.inl ⟨by rfl, ?hy19⟩) (by assumption) ?rest19
      case hy19 => (intro w hSw; (try dsimp only at hSw); go_simp; (try with_reducible rfl))
      ((try simp only [Act.put]); (try simp only [List.setIfInBounds_toArray]); (repeat (first | simp only [List.set_cons_succ] | simp only [List.set_cons_zero])))
      refine wpAnyH_take (i := 19) (v := ?v20) rfl (by kernel_rfl) (by kernel_rfl) (by kernel_rfl) (fun _ _ _ h => h) (Or.inl ⟨by rfl, ?hy20⟩) (by assumption) ?rest20
      case hy20 => (intro w hSw; (try dsimp only at hSw); go_simp; (try with_reducible rfl))
      ((try simp only [Act.put]); (try simp only [List.setIfInBounds_toArray]); (repeat (first | simp only [List.set_cons_succ] | simp only [List.set_cons_zero])))
      refine wpAnyH_take (i := 20) (v := ?v21) rfl (by kernel_rfl) (by kernel_rfl) (by kernel_rfl) (fun _ _ _ h => h) (Or.inl ⟨by rfl, ?hy21⟩) (by assumption) ?rest21
      case hy21 => (intro w hSw; (try dsimp only at hSw); go_simp; (try with_reducible rfl))
      ((try simp only [Act.put]); (try simp only [List.setIfInBounds_toArray]); (repeat (first | simp only [List.set_cons_succ] | simp only [List.set_cons_zero])))
      refine wpAnyH_take (i := 21) (v := ?v22) rfl (by kernel_rfl) (by kernel_rfl) (by kernel_rfl) (fun _ _ _ h => h) (Or.inl ⟨by rfl, ?hy22⟩) (by assumption) ?rest22
      case hy22 => (intro w hSw; (try dsimp only at hSw); go_simp; (try with_reducible rfl))
      ((try simp only [Act.put]); (try simp only [List.setIfInBounds_toArray]); (repeat (first | simp only [List.set_cons_succ] | simp only [List.set_cons_zero])))
      refine wpAnyH_take (i := 22) (v := ?v23) rfl (by kernel_rfl) (by kernel_rfl) (by kernel_rfl) (fun _ _ _ h => h) (Or.inl ⟨by rfl, ?hy23⟩) (by assumption) ?rest23
      case hy23 => (intro w hSw; (try dsimp only at hSw); go_simp; (try with_reducible rfl))
      ((try simp only [Act.put]); (try simp only [List.setIfInBounds_toArray]); (repeat (first | simp only [List.set_cons_succ] | simp only [List.set_cons_zero])))
      refine wpAnyH_take (i := 23) (v := ?v24) rfl (by kernel_rfl) (by kernel_rfl) (by kernel_rfl) (fun _ _ _ h => h) (Or.inl ⟨by rfl, ?hy24⟩) (by assumption) ?rest24
      case hy24 => (intro w hSw; (try dsimp only at hSw); go_simp; (try with_reducible rfl))
      ((try simp only [Act.put]); (try simp only [List.setIfInBounds_toArray]); (repeat (first | simp only [List.set_cons_succ] | simp only [List.set_cons_zero])))
      refine wpAnyH_take (i := 24) (v := ?v25) rfl (by kernel_rfl) (by kernel_rfl) (by kernel_rfl) (fun _ _ _ h => h) (Or.inl ⟨by rfl, ?hy25⟩) (by assumption) ?rest25
      case hy25 => (intro w hSw; (try dsimp only at hSw); go_simp; (try with_reducible rfl))
      ((try simp only [Act.put]); (try simp only [List.setIfInBounds_toArray]); (repeat (first | simp only [List.set_cons_succ] | simp only [List.set_cons_zero])))
      refine wpAnyH_ready (rs := [25]) (by kernel_rfl) (by simp) ?_
      refine AllReadyH.cons rfl (fun K hK => ?_) ?_
      · skip
        go_simp
        refine hK.out _ _ ?_ (fun hHeld => ?_)
        · exact ⟨cell_past hXd ad, cell_past hQd d0, cell_past hQd d1, cell_past hQd d2, cell_past hQd d3, cell_past hQd d4, cell_past hQd d5⟩
        clear hK K
        ((try simp only [Act.put]); (try simp only [List.setIfInBounds_toArray]); (repeat (first | simp only [List.set_cons_succ] | simp only [List.set_cons_zero])))
        refine wpAnyH_ready (rs := [26]) (by kernel_rfl) (by simp) ?_
        refine AllReadyH.cons rfl (fun K hK => ?_) ?_
        · skip
          refine step_app1 (by rfl) _ _ _ (by rfl) B 46 ti0 _ 7 56 Tryz.underlying24 HI.out HZZ0.out HZZ1.out HZZ2.out rfl (by decide) (.slice A2 b.hs.length p2) (b.hs.map Htlc.cells) (by rfl) (HOd.out.h.alloc _) wd.heap.size 1 [.int .i64 z0, .int .i64 z1, .int .i64 z2, .int .i64 z3, .int .i64 z4, .bool false, .int .i64 z5] 46 (by rfl) (heap_at (by first | rfl | (simp; done))) rfl (by simp [Value.oneCell']) (by rw [List.length_map]; omega) (by decide) (by first | omega | (simp; omega) | (simp; done)) ?_
          intro g2 cap2 w6 how6 hgr6 hat6 hlt6
          rw [List.length_map] at how6
          rw [List.length_map]
          have hOa := HOd.out.alloc (.cells ([.int .i64 z0, .int .i64 z1, .int .i64 z2, .int .i64 z3, .int .i64 z4, .bool false, .int .i64 z5] : List Value).toArray 46)
          have hX6 := heap_grown hgr6 (hOa.h.ne_ (heap_past hXd HXd.out) (by decide)) (heap_past hXd HXd.out)
          have hB6 := (HBd.out.alloc hBd _).grown hgr6 (by simp; omega) (fun k e => (hOa.h.block k e).1)
          have hF6 := (HFd.out.alloc _).grown hOa.h (by decide) hgr6
          have hQ6 := hgr6
          have hNQ : some Q ≠ (Value.slice A2 b.hs.length p2).ownBlock := NQ.out
          obtain ⟨_, f0, f1, f2, f3, f4, f5, ff, fz⟩ := own6 (g := X) (Below.refl _ w6) (Array.getElem?_eq_some_iff.1 hX6).1 hX6
          have e0 : w6.cell? ⟨Q, 0, none⟩ = some (.int .i64 z0) := (hgr6.cell_far ⟨Q, 0, none⟩ (by show Q < _; simp; omega) hNQ).trans (cell_past hQd d0)
          have e1 : w6.cell? ⟨Q, 1, none⟩ = some (.int .i64 z1) := (hgr6.cell_far ⟨Q, 1, none⟩ (by show Q < _; simp; omega) hNQ).trans (cell_past hQd d1)
          have e2 : w6.cell? ⟨Q, 2, none⟩ = some (.int .i64 z2) := (hgr6.cell_far ⟨Q, 2, none⟩ (by show Q < _; simp; omega) hNQ).trans (cell_past hQd d2)
          have e3 : w6.cell? ⟨Q, 3, none⟩ = some (.int .i64 z3) := (hgr6.cell_far ⟨Q, 3, none⟩ (by show Q < _; simp; omega) hNQ).trans (cell_past hQd d3)
          have e4 : w6.cell? ⟨Q, 4, none⟩ = some (.int .i64 z4) := (hgr6.cell_far ⟨Q, 4, none⟩ (by show Q < _; simp; omega) hNQ).trans (cell_past hQd d4)
          have e5 : w6.cell? ⟨Q, 5, none⟩ = some (.int .i64 z5) := (hgr6.cell_far ⟨Q, 5, none⟩ (by show Q < _; simp; omega) hNQ).trans (cell_past hQd d5)
          have HR6 := Lib.hid how6
          have HX6 := Lib.hid hX6
          have HB6 := Lib.hid hB6
          have HF6 := Lib.hid hF6
          have HOc := Lib.hid (hOa.c.apart_ hOa.h (by decide) hgr6)
          have HOo := Lib.hid (hOa.o.apart_ hOa.h (by decide) hgr6)
          clear how6 hgr6 hat6 hX6 hB6 hF6 hOa hQ6 hNQ
          refine hK.out _ _ ?_ (fun hHeld => ?_)
          · exact ⟨f4, e0, e1, e2, e3, e4, e5⟩
          clear hK K
          ((try simp only [Act.put]); (try simp only [List.setIfInBounds_toArray]); (repeat (first | simp only [List.set_cons_succ] | simp only [List.set_cons_zero])))
          refine wpAnyH_take (i := 27) (v := ?v26) rfl (by kernel_rfl) (by kernel_rfl) (by kernel_rfl) (fun _ _ _ h => h) (Or.inl ⟨by rfl, ?hy26⟩) (by assumption) ?rest26
          case hy26 => (intro w hSw; (try dsimp only at hSw); go_simp; (try with_reducible rfl))
          ((try simp only [Act.put]); (try simp only [List.setIfInBounds_toArray]); (repeat (first | simp only [List.set_cons_succ] | simp only [List.set_cons_zero])))
          refine wpAnyH_take (i := 28) (v := ?v27) rfl (by kernel_rfl) (by kernel_rfl) (by kernel_rfl) (fun _ _ _ h => h) (Or.inl ⟨by rfl, ?hy27⟩) (by assumption) ?rest27
          case hy27 => (intro w hSw; (try dsimp only at hSw); go_simp; (try with_reducible rfl))
          ((try simp only [Act.put]); (try simp only [List.setIfInBounds_toArray]); (repeat (first | simp only [List.set_cons_succ] | simp only [List.set_cons_zero])))
          refine wpAnyH_done (by kernel_rfl) ?_ _
          intro KK hKK
          go_simp
          refine hKK _ _ (NoPanic.normal ?_)
          go_wp2_with fail
          go_ret
          refine PartP.yes HY.out (A1 := A1) (A2 := some ⟨g2, 0, none⟩) (A3 := A3) (p1 := p1) (p2 := cap2) (p3 := p3) ?_ ?_ ?_ ?_
          · unfold BoxB
            dsimp only
            rw [List.length_append]
            exact (six_set HX6.out _).2.2.2.2.1
          · exact ⟨HOc.out.aside HX6.out (by decide) _, by dsimp only; rw [List.length_append, List.map_append]; exact HR6.out.aside HX6.out (by decide) _, HOo.out.aside HX6.out (by decide) _⟩
          · exact below_setB HB6.out hBX _
          · exact HF6.out.set HX6.out (by decide) _
        exact AllReadyH.nil
      exact AllReadyH.nil
    · have hlt' : decide ((b.hs.length : Int) < 60) = false := decide_eq_false (by omega)
      have t5 : ((l.length : Int) == 6) = true := by rw [beq_iff_eq]; omega
      have HN := Lib.hid (show partI b t.data.toList = none by
        rw [HOK.out]
        simp [wordI, ne_htlc_book, ne_htlc_chan, ne_htlc_circ, ne_htlc_over, hlt])
      go_wp2_with fail
      go_ret
      exact PartP.no HN.out HB.out HF.out
  · have t6 : ((l.length : Int) == 6) = false := by rw [beq_eq_false_iff_ne]; omega
    have HN := Lib.hid (show partI b t.data.toList = none by
      rw [HOK.out]
      simp [wordI, ne_htlc_book, ne_htlc_chan, ne_htlc_circ, ne_htlc_over, hn])
    clear hn
    go_wp2_with fail
    go_ret
    exact PartP.no HN.out HB.out HF.out
end Go.Proofs.YtcjbjpobpefehaaGreatDoor
