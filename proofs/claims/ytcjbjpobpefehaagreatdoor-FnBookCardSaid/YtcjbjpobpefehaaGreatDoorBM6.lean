/- BkR2 · BkR3 · BkR4 · BkR5 · BkR6: each text proves what its theorems say, with no conditions but theirs. -/
import Derived.Test.YtcjbjpobpefehaaGreatDoorRows
import Derived.Test.YtcjbjpobpefehaaGreatDoorBBkRp
import Derived.Deep.RegionHeld3
namespace Go.Proofs.YtcjbjpobpefehaaGreatDoor
open Go.RowKit Go.Deep
set_option maxRecDepth 100000 in
set_option maxHeartbeats 4000000 in
theorem i_textPart_book_nx (X B : Nat) (b : Bk) (A1 A2 A3 : Option Addr) (p1 p2 p3 : Nat) (t : ByteArray) (w : World) (hld : Le w) (hs : t.size ≤ 1048576) (hX : BoxB w X b A1 A2 A3 p1 p2 p3) (hO : OwB w B b A1 A2 A3 p1 p2 p3) (hBX : B ≤ X) (hl : b.cs.length ≤ 20 ∧ b.hs.length ≤ 60 ∧ b.os.length ≤ 20) (l : List (List UInt8)) (hP : parts 32 t.data.toList = bookW :: l) (hm0 : l.length ≠ 0) (hm7 : l.length ≠ 7) :
  Calls Tryz.prog 27 #[.pointer (some ⟨X, 0, none⟩), .string t] w (PartP X B b t.data.toList w) := by
 have hl1 := hl.1
 have hl2 := hl.2.1
 have hl3 := hl.2.2
 clear hl
 have HLD := Lib.hid hld
 have hXl : X < w.heap.size := hX.lt
 have hBw : B ≤ w.heap.size := by omega
 have HX := Lib.hid hX
 have HO := Lib.hid hO
 have HC := Lib.hid (zvh t 32 w hld.toLd (by omega))
 have hz : t.data.toList.length = t.size := Array.length_toList
 have hsub := zji 32 t.data.toList
 have hpl := zjn 32 t.data.toList
 rw [hP] at hsub hpl
 have HSZ := Lib.hid (show ∀ x ∈ l, x.length ≤ 1048576 from fun x hx => by have := hsub x (by simp [hx]); omega)
 simp only [List.length_cons] at hpl
 have hll : l.length ≤ 1048577 := by omega
 have hcut : cutI (bookW :: l) = bookW :: l := if_neg (by rintro ⟨k1, k2⟩; simp at k1; omega)
 have hkept : keptI (bookW :: l) = false := by
  unfold keptI
  rw [decide_eq_false (by simp; omega)]; rfl
 have HPI := Lib.hid (show partI b t.data.toList = if l.all numOk = false then none else wordI b bookW l false by
  unfold partI
  rw [hP, hcut, hkept]
  rfl)
 rw [hP] at HC
 clear hP hsub hpl hz hcut hkept hld hX hO
 go_enter Tryz.func27, Tryz.ntmps27
 go_wp2_with fail
 refine HC.out.mono ?_
 rintro e w1 ⟨rfl, how1, hb1⟩
 have z1 := hb1.size
 have hX1 := zqf hb1 hXl HX.out
 have HO1 := Lib.hid (HO.out.below hb1)
 obtain ⟨b0, off0, e0, hbB, c0⟩ := zkb how1.rd (k := 0) (by simp)
 simp only [Option.some.injEq, Addr.mk.injEq, and_true] at e0
 obtain ⟨rfl, rfl⟩ := e0
 simp only [List.getElem_cons_zero, Nat.add_zero] at c0
 have HR1 := Lib.hid (zka how1.rd)
 have hN : (bookW :: l).length = l.length + 1 := rfl
 rw [hN]
 obtain ⟨m, hm⟩ : ∃ m, l.length = m := ⟨_, rfl⟩
 have HML := Lib.hid hm
 rw [hm] at hm0 hm7 hll ⊢
 have t8 : ((m : Int) + 1 == 8) = false := by rw [beq_eq_false_iff_ne]; omega
 have m1 : 0 < m := by omega
 have HX1 := Lib.hid hX1
 have hbA : Below w.heap.size w w1 := hb1
 have hm7' : m ≠ 7 := hm7
 have HM7 := Lib.hid hm7'
 clear hN hm how1 hm0 hm7 hm7' hX1 hb1
 go_wp2_with fail
 rw [← HML.out]
 refine (zjf l _ _ _ (HLD.out.below hbA) (by rw [HML.out]; omega) HSZ.out HR1.out).mono ?_
 rintro e w2 ⟨hnum, hb2⟩
 have z2 := hb2.size
 have hX2 := zqf hb2 (Nat.lt_of_lt_of_le hXl z1) HX1.out
 have HO2 := Lib.hid (HO1.out.below hb2)
 have c0 := (hb2.cell (p := ⟨w.heap.size, 0, none⟩) hbB).trans c0
 have hbB2 : Below w.heap.size w w2 := bl_
 have HB := Lib.hid (hbB2.mono hBw)
 have HF := Lib.hid (Fr.of_below (ts := bkTs) hbB2)
 obtain ⟨_, a0, a1, a2, a3, a4, a5, af, az⟩ := own6 (g := X) (Below.refl _ w2) (gz_ hX2).1 hX2
 have HX2 := Lib.hid hX2
 rcases hnum with ⟨hok, AQ, capQ, rfl, how2⟩ | ⟨hno, rfl⟩
 rotate_left
 ·
  have HNo := Lib.hid (show partI b t.data.toList = none by rw [HPI.out, if_pos hno])
  clear hno hX2
  go_wp2_with fail
  go_ret
  exact PartP.no HNo.out HB.out HF.out
 have HOK := Lib.hid (show partI b t.data.toList = wordI b bookW l false by rw [HPI.out, if_neg (by rw [hok]; simp)])
 have HW2 := Lib.hid how2
 clear hok hX2 how2 HX1 HO1 HPI hb2 hbA hbB2
 by_cases hn : l.length = 3
 ·
  have hQ0 : 0 < (((l.map numOf).map intCells)).length := by simp; omega
  obtain ⟨Q, rfl, hQB⟩ := HW2.out.head_ hQ0
  clear hQ0
  obtain ⟨l0, l1, l2, rfl⟩ := list3 hn
  have k0 := zxd HW2.out (k := 0) (by simp)
  have k1 := zxd HW2.out (k := 1) (by simp)
  have k2 := zxd HW2.out (k := 2) (by simp)
  simp only [List.map_cons, List.map_nil, List.getElem_cons_zero, List.getElem_cons_succ] at k0 k1 k2
  obtain ⟨z0, hz0⟩ : ∃ z, numOf l0 = z := ⟨_, rfl⟩
  rw [hz0] at k0
  have HZ0 := Lib.hid hz0
  obtain ⟨z1, hz1⟩ : ∃ z, numOf l1 = z := ⟨_, rfl⟩
  rw [hz1] at k1
  have HZ1 := Lib.hid hz1
  obtain ⟨z2, hz2⟩ : ∃ z, numOf l2 = z := ⟨_, rfl⟩
  rw [hz2] at k2
  have HZ2 := Lib.hid hz2
  have hQl : Q < w2.heap.size := Lib.lt_of_cell k0
  have NX := HW2.out.ne_ HX2.out (by decide)
  have hQX : Q ≠ X := fun e => NX (by rw [e]; rfl)
  clear hn NX hz0 hz1 hz2
  have HY := Lib.hid (show partI b t.data.toList = some { b with t := z0, n := z1, w := z2 } by
   rw [HOK.out]
   simp [wordI, numIx, HZ0.out, HZ1.out, HZ2.out])
  clear HOK
  go_wp2_with fail
  go_region_held3 (fun w' => w'.cell? ⟨Q, 0, none⟩ = some (.int .i64 z0) ∧ w'.cell? ⟨Q, 1, none⟩ = some (.int .i64 z1) ∧ w'.cell? ⟨Q, 2, none⟩ = some (.int .i64 z2)) (first | exact ⟨zwd (zjh hQX (k0)), zwd (zjh hQX (k1)), zwd (zjh hQX (k2))⟩ | exact ⟨zwd (zjh hQX (zjh hQX (k0))), zwd (zjh hQX (zjh hQX (k1))), zwd (zjh hQX (zjh hQX (k2)))⟩ | exact ⟨zwd (zjh hQX (zjh hQX (zjh hQX (k0)))), zwd (zjh hQX (zjh hQX (zjh hQX (k1)))), zwd (zjh hQX (zjh hQX (zjh hQX (k2))))⟩ | go_keep) (fail)
  go_wp2_with fail
  go_ret
  have hX2 := HX2.out
  have x0 := (zyk hX2 (.int .i64 z0)).1
  have x1 := (zyk x0 (.int .i64 z1)).2.1
  have x2 := (zyk x1 (.int .i64 z2)).2.2.1
  refine PartP.yes HY.out (A1 := A1) (A2 := A2) (A3 := A3) (p1 := p1) (p2 := p2) (p3 := p3) x2 ?_ ?_ ?_
  ·
   exact ⟨((HO2.out.c.aside hX2 (by decide) _).aside x0 (by decide) _).aside x1 (by decide) _, ((HO2.out.h.aside hX2 (by decide) _).aside x0 (by decide) _).aside x1 (by decide) _, ((HO2.out.o.aside hX2 (by decide) _).aside x0 (by decide) _).aside x1 (by decide) _⟩
  ·
   exact (zvj (zvj (zvj HB.out hBX _) hBX _) hBX _).drew
  ·
   exact ((HF.out.set hX2 (by decide) _).set x0 (by decide) _).set x1 (by decide) _
 ·
  have t3 : ((l.length : Int) == 3) = false := by rw [beq_eq_false_iff_ne]; omega
  have HN := Lib.hid (show partI b t.data.toList = none by
   rw [HOK.out]
   simp [wordI, ne_book_chan, zmb, ztk, ne_book_over, hn])
  clear hn
  go_wp2_with fail
  go_ret
  exact PartP.no HN.out HB.out HF.out
set_option maxRecDepth 100000 in
set_option maxHeartbeats 4000000 in
theorem i_textPart_over_nx (X B : Nat) (b : Bk) (A1 A2 A3 : Option Addr) (p1 p2 p3 : Nat) (t : ByteArray) (w : World) (hld : Le w) (hs : t.size ≤ 1048576) (hX : BoxB w X b A1 A2 A3 p1 p2 p3) (hO : OwB w B b A1 A2 A3 p1 p2 p3) (hBX : B ≤ X) (hl : b.cs.length ≤ 20 ∧ b.hs.length ≤ 60 ∧ b.os.length ≤ 20) (l : List (List UInt8)) (hP : parts 32 t.data.toList = overW :: l) (hm0 : l.length ≠ 0) (hm7 : l.length ≠ 7) :
  Calls Tryz.prog 27 #[.pointer (some ⟨X, 0, none⟩), .string t] w (PartP X B b t.data.toList w) := by
 have hl1 := hl.1
 have hl2 := hl.2.1
 have hl3 := hl.2.2
 clear hl
 have HLD := Lib.hid hld
 have hXl : X < w.heap.size := hX.lt
 have hBw : B ≤ w.heap.size := by omega
 have HX := Lib.hid hX
 have HO := Lib.hid hO
 have HC := Lib.hid (zvh t 32 w hld.toLd (by omega))
 have hz : t.data.toList.length = t.size := Array.length_toList
 have hsub := zji 32 t.data.toList
 have hpl := zjn 32 t.data.toList
 rw [hP] at hsub hpl
 have HSZ := Lib.hid (show ∀ x ∈ l, x.length ≤ 1048576 from fun x hx => by have := hsub x (by simp [hx]); omega)
 simp only [List.length_cons] at hpl
 have hll : l.length ≤ 1048577 := by omega
 have hcut : cutI (overW :: l) = overW :: l := if_neg (by rintro ⟨k1, k2⟩; simp at k1; omega)
 have hkept : keptI (overW :: l) = false := by
  unfold keptI
  rw [decide_eq_false (by simp; omega)]; rfl
 have HPI := Lib.hid (show partI b t.data.toList = if l.all numOk = false then none else wordI b overW l false by
  unfold partI
  rw [hP, hcut, hkept]
  rfl)
 rw [hP] at HC
 clear hP hsub hpl hz hcut hkept hld hX hO
 go_enter Tryz.func27, Tryz.ntmps27
 go_wp2_with fail
 refine HC.out.mono ?_
 rintro e w1 ⟨rfl, how1, hb1⟩
 have z1 := hb1.size
 have hX1 := zqf hb1 hXl HX.out
 have HO1 := Lib.hid (HO.out.below hb1)
 obtain ⟨b0, off0, e0, hbB, c0⟩ := zkb how1.rd (k := 0) (by simp)
 simp only [Option.some.injEq, Addr.mk.injEq, and_true] at e0
 obtain ⟨rfl, rfl⟩ := e0
 simp only [List.getElem_cons_zero, Nat.add_zero] at c0
 have HR1 := Lib.hid (zka how1.rd)
 have hN : (overW :: l).length = l.length + 1 := rfl
 rw [hN]
 obtain ⟨m, hm⟩ : ∃ m, l.length = m := ⟨_, rfl⟩
 have HML := Lib.hid hm
 rw [hm] at hm0 hm7 hll ⊢
 have t8 : ((m : Int) + 1 == 8) = false := by rw [beq_eq_false_iff_ne]; omega
 have m1 : 0 < m := by omega
 have HX1 := Lib.hid hX1
 have hbA : Below w.heap.size w w1 := hb1
 have hm7' : m ≠ 7 := hm7
 have HM7 := Lib.hid hm7'
 clear hN hm how1 hm0 hm7 hm7' hX1 hb1
 go_wp2_with fail
 rw [← HML.out]
 refine (zjf l _ _ _ (HLD.out.below hbA) (by rw [HML.out]; omega) HSZ.out HR1.out).mono ?_
 rintro e w2 ⟨hnum, hb2⟩
 have z2 := hb2.size
 have hX2 := zqf hb2 (Nat.lt_of_lt_of_le hXl z1) HX1.out
 have HO2 := Lib.hid (HO1.out.below hb2)
 have c0 := (hb2.cell (p := ⟨w.heap.size, 0, none⟩) hbB).trans c0
 have hbB2 : Below w.heap.size w w2 := bl_
 have HB := Lib.hid (hbB2.mono hBw)
 have HF := Lib.hid (Fr.of_below (ts := bkTs) hbB2)
 obtain ⟨_, a0, a1, a2, a3, a4, a5, af, az⟩ := own6 (g := X) (Below.refl _ w2) (gz_ hX2).1 hX2
 have HX2 := Lib.hid hX2
 rcases hnum with ⟨hok, AQ, capQ, rfl, how2⟩ | ⟨hno, rfl⟩
 rotate_left
 ·
  have HNo := Lib.hid (show partI b t.data.toList = none by rw [HPI.out, if_pos hno])
  clear hno hX2
  go_wp2_with fail
  go_ret
  exact PartP.no HNo.out HB.out HF.out
 have HOK := Lib.hid (show partI b t.data.toList = wordI b overW l false by rw [HPI.out, if_neg (by rw [hok]; simp)])
 have HW2 := Lib.hid how2
 clear hok hX2 how2 HX1 HO1 HPI hb2 hbA hbB2
 have hm := HML.out
 have t0 : ((l.length : Int) == 0) = false := by rw [beq_eq_false_iff_ne]; omega
 have hl0 : ¬ l.length = 0 := by omega
 have hle : l ≠ [] := fun e => hl0 (by rw [e]; rfl)
 clear hm
 have HN := Lib.hid (show partI b t.data.toList = none by
  rw [HOK.out]
  simp [wordI, ne_over_book, ne_over_chan, ne_over_htlc, ne_over_circ, hle])
 clear hl0 hle
 go_wp2_with fail
 go_ret
 exact PartP.no HN.out HB.out HF.out
set_option maxRecDepth 100000 in
set_option maxHeartbeats 4000000 in
theorem i_textPart_other_nx (X B : Nat) (b : Bk) (A1 A2 A3 : Option Addr) (p1 p2 p3 : Nat) (t : ByteArray) (w : World) (hld : Le w) (hs : t.size ≤ 1048576) (hX : BoxB w X b A1 A2 A3 p1 p2 p3) (hO : OwB w B b A1 A2 A3 p1 p2 p3) (hBX : B ≤ X) (hl : b.cs.length ≤ 20 ∧ b.hs.length ≤ 60 ∧ b.os.length ≤ 20) (h : List UInt8) (l : List (List UInt8)) (hP : parts 32 t.data.toList = h :: l) (nbook : h ≠ bookW) (nchan : h ≠ chanW) (nhtlc : h ≠ htlcW) (ncirc : h ≠ circW) (nover : h ≠ overW) (hm0 : l.length ≠ 0) (hm7 : l.length ≠ 7) :
  Calls Tryz.prog 27 #[.pointer (some ⟨X, 0, none⟩), .string t] w (PartP X B b t.data.toList w) := by
 have hl1 := hl.1
 have hl2 := hl.2.1
 have hl3 := hl.2.2
 clear hl
 have HLD := Lib.hid hld
 have hXl : X < w.heap.size := hX.lt
 have hBw : B ≤ w.heap.size := by omega
 have HX := Lib.hid hX
 have HO := Lib.hid hO
 have HC := Lib.hid (zvh t 32 w hld.toLd (by omega))
 have hz : t.data.toList.length = t.size := Array.length_toList
 have hsub := zji 32 t.data.toList
 have hpl := zjn 32 t.data.toList
 rw [hP] at hsub hpl
 have HSZ := Lib.hid (show ∀ x ∈ l, x.length ≤ 1048576 from fun x hx => by have := hsub x (by simp [hx]); omega)
 simp only [List.length_cons] at hpl
 have hll : l.length ≤ 1048577 := by omega
 have hcut : cutI (h :: l) = h :: l := if_neg (by rintro ⟨k1, k2⟩; simp at k1; omega)
 have hkept : keptI (h :: l) = false := by
  unfold keptI
  rw [decide_eq_false (by simp; omega)]; rfl
 have HPI := Lib.hid (show partI b t.data.toList = if l.all numOk = false then none else wordI b h l false by
  unfold partI
  rw [hP, hcut, hkept]
  rfl)
 rw [hP] at HC
 obtain ⟨x0, hx0', hx0⟩ := zhb h
 clear hP hsub hpl hz hcut hkept hld hX hO
 go_enter Tryz.func27, Tryz.ntmps27
 go_wp2_with fail
 refine HC.out.mono ?_
 rintro e w1 ⟨rfl, how1, hb1⟩
 have z1 := hb1.size
 have hX1 := zqf hb1 hXl HX.out
 have HO1 := Lib.hid (HO.out.below hb1)
 obtain ⟨b0, off0, e0, hbB, c0⟩ := zkb how1.rd (k := 0) (by simp)
 simp only [Option.some.injEq, Addr.mk.injEq, and_true] at e0
 obtain ⟨rfl, rfl⟩ := e0
 simp only [List.getElem_cons_zero, Nat.add_zero] at c0
 rw [hx0'] at c0
 have HR1 := Lib.hid (zka how1.rd)
 have hN : (h :: l).length = l.length + 1 := rfl
 rw [hN]
 obtain ⟨m, hm⟩ : ∃ m, l.length = m := ⟨_, rfl⟩
 have HML := Lib.hid hm
 rw [hm] at hm0 hm7 hll ⊢
 have t8 : ((m : Int) + 1 == 8) = false := by rw [beq_eq_false_iff_ne]; omega
 have m1 : 0 < m := by omega
 have HX1 := Lib.hid hX1
 have hbA : Below w.heap.size w w1 := hb1
 have hm7' : m ≠ 7 := hm7
 have HM7 := Lib.hid hm7'
 clear hN hm how1 hm0 hm7 hm7' hX1 hb1
 have qbook : ¬ x0.toList = [98, 111, 111, 107] := fun e => nbook (hx0.out.data.symm.trans ((Lib.toList_data x0).symm.trans e))
 have qbbook : (x0.toList == [98, 111, 111, 107]) = false := beq_eq_false_iff_ne.2 qbook
 have qchan : ¬ x0.toList = [99, 104, 97, 110] := fun e => nchan (hx0.out.data.symm.trans ((Lib.toList_data x0).symm.trans e))
 have qbchan : (x0.toList == [99, 104, 97, 110]) = false := beq_eq_false_iff_ne.2 qchan
 have qhtlc : ¬ x0.toList = [104, 116, 108, 99] := fun e => nhtlc (hx0.out.data.symm.trans ((Lib.toList_data x0).symm.trans e))
 have qbhtlc : (x0.toList == [104, 116, 108, 99]) = false := beq_eq_false_iff_ne.2 qhtlc
 have qcirc : ¬ x0.toList = [99, 105, 114, 99, 108, 101] := fun e => ncirc (hx0.out.data.symm.trans ((Lib.toList_data x0).symm.trans e))
 have qbcirc : (x0.toList == [99, 105, 114, 99, 108, 101]) = false := beq_eq_false_iff_ne.2 qcirc
 have qover : ¬ x0.toList = [111, 118, 101, 114] := fun e => nover (hx0.out.data.symm.trans ((Lib.toList_data x0).symm.trans e))
 have qbover : (x0.toList == [111, 118, 101, 114]) = false := beq_eq_false_iff_ne.2 qover
 go_wp2_with fail
 rw [← HML.out]
 refine (zjf l _ _ _ (HLD.out.below hbA) (by rw [HML.out]; omega) HSZ.out HR1.out).mono ?_
 rintro e w2 ⟨hnum, hb2⟩
 have z2 := hb2.size
 have hX2 := zqf hb2 (Nat.lt_of_lt_of_le hXl z1) HX1.out
 have HO2 := Lib.hid (HO1.out.below hb2)
 have c0 := (hb2.cell (p := ⟨w.heap.size, 0, none⟩) hbB).trans c0
 have hbB2 : Below w.heap.size w w2 := bl_
 have HB := Lib.hid (hbB2.mono hBw)
 have HF := Lib.hid (Fr.of_below (ts := bkTs) hbB2)
 obtain ⟨_, a0, a1, a2, a3, a4, a5, af, az⟩ := own6 (g := X) (Below.refl _ w2) (gz_ hX2).1 hX2
 have HX2 := Lib.hid hX2
 rcases hnum with ⟨hok, AQ, capQ, rfl, how2⟩ | ⟨hno, rfl⟩
 rotate_left
 ·
  have HNo := Lib.hid (show partI b t.data.toList = none by rw [HPI.out, if_pos hno])
  clear hno hX2
  go_wp2_with fail
  go_ret
  exact PartP.no HNo.out HB.out HF.out
 have HOK := Lib.hid (show partI b t.data.toList = wordI b h l false by rw [HPI.out, if_neg (by rw [hok]; simp)])
 have HW2 := Lib.hid how2
 clear hok hX2 how2 HX1 HO1 HPI hb2 hbA hbB2
 have HN := Lib.hid (show partI b t.data.toList = none by
  rw [HOK.out]
  simp [wordI, nbook, nchan, nhtlc, ncirc, nover])
 go_wp2_with fail
 go_ret
 exact PartP.no HN.out HB.out HF.out
set_option maxRecDepth 100000 in
set_option maxHeartbeats 4000000 in
theorem i_textPart_chan_nx (X B : Nat) (b : Bk) (A1 A2 A3 : Option Addr) (p1 p2 p3 : Nat) (t : ByteArray) (w : World) (hld : Le w) (hs : t.size ≤ 1048576) (hX : BoxB w X b A1 A2 A3 p1 p2 p3) (hO : OwB w B b A1 A2 A3 p1 p2 p3) (hBX : B ≤ X) (hl : b.cs.length ≤ 20 ∧ b.hs.length ≤ 60 ∧ b.os.length ≤ 20) (l : List (List UInt8)) (hP : parts 32 t.data.toList = chanW :: l) (hm0 : l.length ≠ 0) (hm7 : l.length ≠ 7) :
  Calls Tryz.prog 27 #[.pointer (some ⟨X, 0, none⟩), .string t] w (PartP X B b t.data.toList w) := by
 have hl1 := hl.1
 have hl2 := hl.2.1
 have hl3 := hl.2.2
 clear hl
 have HLD := Lib.hid hld
 have hXl : X < w.heap.size := hX.lt
 have hBw : B ≤ w.heap.size := by omega
 have HX := Lib.hid hX
 have HO := Lib.hid hO
 have HC := Lib.hid (zvh t 32 w hld.toLd (by omega))
 have hz : t.data.toList.length = t.size := Array.length_toList
 have hsub := zji 32 t.data.toList
 have hpl := zjn 32 t.data.toList
 rw [hP] at hsub hpl
 have HSZ := Lib.hid (show ∀ x ∈ l, x.length ≤ 1048576 from fun x hx => by have := hsub x (by simp [hx]); omega)
 simp only [List.length_cons] at hpl
 have hll : l.length ≤ 1048577 := by omega
 have hcut : cutI (chanW :: l) = chanW :: l := if_neg (by rintro ⟨k1, k2⟩; simp at k1; omega)
 have hkept : keptI (chanW :: l) = false := by
  unfold keptI
  rw [decide_eq_false (by simp; omega)]; rfl
 have HPI := Lib.hid (show partI b t.data.toList = if l.all numOk = false then none else wordI b chanW l false by
  unfold partI
  rw [hP, hcut, hkept]
  rfl)
 rw [hP] at HC
 clear hP hsub hpl hz hcut hkept hld hX hO
 go_enter Tryz.func27, Tryz.ntmps27
 go_wp2_with fail
 refine HC.out.mono ?_
 rintro e w1 ⟨rfl, how1, hb1⟩
 have z1 := hb1.size
 have hX1 := zqf hb1 hXl HX.out
 have HO1 := Lib.hid (HO.out.below hb1)
 obtain ⟨b0, off0, e0, hbB, c0⟩ := zkb how1.rd (k := 0) (by simp)
 simp only [Option.some.injEq, Addr.mk.injEq, and_true] at e0
 obtain ⟨rfl, rfl⟩ := e0
 simp only [List.getElem_cons_zero, Nat.add_zero] at c0
 have HR1 := Lib.hid (zka how1.rd)
 have hN : (chanW :: l).length = l.length + 1 := rfl
 rw [hN]
 obtain ⟨m, hm⟩ : ∃ m, l.length = m := ⟨_, rfl⟩
 have HML := Lib.hid hm
 rw [hm] at hm0 hm7 hll ⊢
 have t8 : ((m : Int) + 1 == 8) = false := by rw [beq_eq_false_iff_ne]; omega
 have m1 : 0 < m := by omega
 have HX1 := Lib.hid hX1
 have hbA : Below w.heap.size w w1 := hb1
 have hm7' : m ≠ 7 := hm7
 have HM7 := Lib.hid hm7'
 clear hN hm how1 hm0 hm7 hm7' hX1 hb1
 go_wp2_with fail
 rw [← HML.out]
 refine (zjf l _ _ _ (HLD.out.below hbA) (by rw [HML.out]; omega) HSZ.out HR1.out).mono ?_
 rintro e w2 ⟨hnum, hb2⟩
 have z2 := hb2.size
 have hX2 := zqf hb2 (Nat.lt_of_lt_of_le hXl z1) HX1.out
 have HO2 := Lib.hid (HO1.out.below hb2)
 have c0 := (hb2.cell (p := ⟨w.heap.size, 0, none⟩) hbB).trans c0
 have hbB2 : Below w.heap.size w w2 := bl_
 have HB := Lib.hid (hbB2.mono hBw)
 have HF := Lib.hid (Fr.of_below (ts := bkTs) hbB2)
 obtain ⟨_, a0, a1, a2, a3, a4, a5, af, az⟩ := own6 (g := X) (Below.refl _ w2) (gz_ hX2).1 hX2
 have HX2 := Lib.hid hX2
 rcases hnum with ⟨hok, AQ, capQ, rfl, how2⟩ | ⟨hno, rfl⟩
 rotate_left
 ·
  have HNo := Lib.hid (show partI b t.data.toList = none by rw [HPI.out, if_pos hno])
  clear hno hX2
  go_wp2_with fail
  go_ret
  exact PartP.no HNo.out HB.out HF.out
 have HOK := Lib.hid (show partI b t.data.toList = wordI b chanW l false by rw [HPI.out, if_neg (by rw [hok]; simp)])
 have HW2 := Lib.hid how2
 clear hok hX2 how2 HX1 HO1 HPI hb2 hbA hbB2
 have hm := HML.out
 have hM := HM7.out
 have t7 : ((l.length : Int) == 7) = false := by rw [beq_eq_false_iff_ne]; omega
 have hl7 : ¬ l.length = 7 := by omega
 clear hm hM
 have HN := Lib.hid (show partI b t.data.toList = none by
  rw [HOK.out]
  simp [wordI, zyi, ztm, ztj, zti, hl7])
 clear hl7
 go_wp2_with fail
 go_ret
 exact PartP.no HN.out HB.out HF.out
end Go.Proofs.YtcjbjpobpefehaaGreatDoor
namespace Go.Proofs.YtcjbjpobpefehaaGreatDoor
open Go.RowKit Go.Deep
set_option maxRecDepth 100000 in
set_option maxHeartbeats 4000000 in
theorem i_textPart_htlc_nx (X B : Nat) (b : Bk) (A1 A2 A3 : Option Addr) (p1 p2 p3 : Nat) (t : ByteArray) (w : World) (hld : Le w) (hs : t.size ≤ 1048576) (hX : BoxB w X b A1 A2 A3 p1 p2 p3) (hO : OwB w B b A1 A2 A3 p1 p2 p3) (hBX : B ≤ X) (hl : b.cs.length ≤ 20 ∧ b.hs.length ≤ 60 ∧ b.os.length ≤ 20) (l : List (List UInt8)) (hP : parts 32 t.data.toList = htlcW :: l) (hm0 : l.length ≠ 0) (hm7 : l.length ≠ 7) :
  Calls Tryz.prog 27 #[.pointer (some ⟨X, 0, none⟩), .string t] w (PartP X B b t.data.toList w) := by
 have hl1 := hl.1
 have hl2 := hl.2.1
 have hl3 := hl.2.2
 clear hl
 have HLD := Lib.hid hld
 have hXl : X < w.heap.size := hX.lt
 have hBw : B ≤ w.heap.size := by omega
 have HX := Lib.hid hX
 have HO := Lib.hid hO
 have HC := Lib.hid (zvh t 32 w hld.toLd (by omega))
 have hz : t.data.toList.length = t.size := Array.length_toList
 have hsub := zji 32 t.data.toList
 have hpl := zjn 32 t.data.toList
 rw [hP] at hsub hpl
 have HSZ := Lib.hid (show ∀ x ∈ l, x.length ≤ 1048576 from fun x hx => by have := hsub x (by simp [hx]); omega)
 simp only [List.length_cons] at hpl
 have hll : l.length ≤ 1048577 := by omega
 have hcut : cutI (htlcW :: l) = htlcW :: l := if_neg (by rintro ⟨k1, k2⟩; simp at k1; omega)
 have hkept : keptI (htlcW :: l) = false := by
  unfold keptI
  rw [decide_eq_false (by simp; omega)]; rfl
 have HPI := Lib.hid (show partI b t.data.toList = if l.all numOk = false then none else wordI b htlcW l false by
  unfold partI
  rw [hP, hcut, hkept]
  rfl)
 rw [hP] at HC
 clear hP hsub hpl hz hcut hkept hld hX hO
 go_enter Tryz.func27, Tryz.ntmps27
 go_wp2_with fail
 refine HC.out.mono ?_
 rintro e w1 ⟨rfl, how1, hb1⟩
 have z1 := hb1.size
 have hX1 := zqf hb1 hXl HX.out
 have HO1 := Lib.hid (HO.out.below hb1)
 obtain ⟨b0, off0, e0, hbB, c0⟩ := zkb how1.rd (k := 0) (by simp)
 simp only [Option.some.injEq, Addr.mk.injEq, and_true] at e0
 obtain ⟨rfl, rfl⟩ := e0
 simp only [List.getElem_cons_zero, Nat.add_zero] at c0
 have HR1 := Lib.hid (zka how1.rd)
 have hN : (htlcW :: l).length = l.length + 1 := rfl
 rw [hN]
 obtain ⟨m, hm⟩ : ∃ m, l.length = m := ⟨_, rfl⟩
 have HML := Lib.hid hm
 rw [hm] at hm0 hm7 hll ⊢
 have t8 : ((m : Int) + 1 == 8) = false := by rw [beq_eq_false_iff_ne]; omega
 have m1 : 0 < m := by omega
 have HX1 := Lib.hid hX1
 have hbA : Below w.heap.size w w1 := hb1
 have hm7' : m ≠ 7 := hm7
 have HM7 := Lib.hid hm7'
 clear hN hm how1 hm0 hm7 hm7' hX1 hb1
 go_wp2_with fail
 rw [← HML.out]
 refine (zjf l _ _ _ (HLD.out.below hbA) (by rw [HML.out]; omega) HSZ.out HR1.out).mono ?_
 rintro e w2 ⟨hnum, hb2⟩
 have z2 := hb2.size
 have hX2 := zqf hb2 (Nat.lt_of_lt_of_le hXl z1) HX1.out
 have HO2 := Lib.hid (HO1.out.below hb2)
 have c0 := (hb2.cell (p := ⟨w.heap.size, 0, none⟩) hbB).trans c0
 have hbB2 : Below w.heap.size w w2 := bl_
 have HB := Lib.hid (hbB2.mono hBw)
 have HF := Lib.hid (Fr.of_below (ts := bkTs) hbB2)
 obtain ⟨_, a0, a1, a2, a3, a4, a5, af, az⟩ := own6 (g := X) (Below.refl _ w2) (gz_ hX2).1 hX2
 have HX2 := Lib.hid hX2
 rcases hnum with ⟨hok, AQ, capQ, rfl, how2⟩ | ⟨hno, rfl⟩
 rotate_left
 ·
  have HNo := Lib.hid (show partI b t.data.toList = none by rw [HPI.out, if_pos hno])
  clear hno hX2
  go_wp2_with fail
  go_ret
  exact PartP.no HNo.out HB.out HF.out
 have HOK := Lib.hid (show partI b t.data.toList = wordI b htlcW l false by rw [HPI.out, if_neg (by rw [hok]; simp)])
 have HW2 := Lib.hid how2
 clear hok hX2 how2 HX1 HO1 HPI hb2 hbA hbB2
 by_cases hn : l.length = 6
 ·
  by_cases hlt : b.hs.length < 60
  ·
   have hlt' : ((b.hs.length : Int) < 60) := by omega
   have hQ0 : 0 < (((l.map numOf).map intCells)).length := by simp; omega
   obtain ⟨Q, rfl, hQB⟩ := HW2.out.head_ hQ0
   clear hQ0
   obtain ⟨l0, l1, l2, l3, l4, l5, rfl⟩ := list6 hn
   have k0 := zxd HW2.out (k := 0) (by simp)
   have k1 := zxd HW2.out (k := 1) (by simp)
   have k2 := zxd HW2.out (k := 2) (by simp)
   have k3 := zxd HW2.out (k := 3) (by simp)
   have k4 := zxd HW2.out (k := 4) (by simp)
   have k5 := zxd HW2.out (k := 5) (by simp)
   simp only [List.map_cons, List.map_nil, List.getElem_cons_zero, List.getElem_cons_succ] at k0 k1 k2 k3 k4 k5
   obtain ⟨z0, hz0⟩ : ∃ z, numOf l0 = z := ⟨_, rfl⟩
   rw [hz0] at k0
   have HZ0 := Lib.hid hz0
   obtain ⟨z1, hz1⟩ : ∃ z, numOf l1 = z := ⟨_, rfl⟩
   rw [hz1] at k1
   have HZ1 := Lib.hid hz1
   obtain ⟨z2, hz2⟩ : ∃ z, numOf l2 = z := ⟨_, rfl⟩
   rw [hz2] at k2
   have HZ2 := Lib.hid hz2
   obtain ⟨z3, hz3⟩ : ∃ z, numOf l3 = z := ⟨_, rfl⟩
   rw [hz3] at k3
   have HZ3 := Lib.hid hz3
   obtain ⟨z4, hz4⟩ : ∃ z, numOf l4 = z := ⟨_, rfl⟩
   rw [hz4] at k4
   have HZ4 := Lib.hid hz4
   obtain ⟨z5, hz5⟩ : ∃ z, numOf l5 = z := ⟨_, rfl⟩
   rw [hz5] at k5
   have HZ5 := Lib.hid hz5
   have hQl : Q < w2.heap.size := Lib.lt_of_cell k0
   have NX := HW2.out.ne_ HX2.out (by decide)
   have hQX : Q ≠ X := fun e => NX (by rw [e]; rfl)
   clear hn NX hz0 hz1 hz2 hz3 hz4 hz5
   have HY := Lib.hid (show partI b t.data.toList = some { b with hs := b.hs ++ [⟨z0, z1, z2, z3, z4, false, z5⟩] } by
    rw [HOK.out]
    simp [wordI, numIx, zkj, zkk, hlt, HZ0.out, HZ1.out, HZ2.out, HZ3.out, HZ4.out, HZ5.out])
   obtain ⟨ti0, hi, hz0, hz1, hz2⟩ := info_parts zta
   have HI := Lib.hid hi
   have HZZ0 := Lib.hid hz0
   have HZZ1 := Lib.hid hz1
   have HZZ2 := Lib.hid hz2
   obtain ⟨curQ, hqh⟩ := HW2.out.heapB
   have NQ := Lib.hid (HO2.out.h.ne_ hqh (by decide))
   clear hqh HOK hi hz0 hz1 hz2
   go_wp2_with fail
   refine wp_region_noPanic ?_
   refine zkc (S := (fun w' => w'.cell? ⟨X, 4, none⟩ = some (.slice A2 b.hs.length p2) ∧ w'.cell? ⟨Q, 0, none⟩ = some (.int .i64 z0) ∧ w'.cell? ⟨Q, 1, none⟩ = some (.int .i64 z1) ∧ w'.cell? ⟨Q, 2, none⟩ = some (.int .i64 z2) ∧ w'.cell? ⟨Q, 3, none⟩ = some (.int .i64 z3) ∧ w'.cell? ⟨Q, 4, none⟩ = some (.int .i64 z4) ∧ w'.cell? ⟨Q, 5, none⟩ = some (.int .i64 z5))) rfl (by kernel_rfl) (by kernel_rfl) (by kernel_rfl) (by kernel_rfl) ?_ (fun hHeld => ?_)
   ·
    exact ⟨a4, k0, k1, k2, k3, k4, k5⟩
   obtain ⟨wd, hwd⟩ : ∃ wd, w2.drew = wd := ⟨_, rfl⟩
   have HXd : Hid (wd.heap[X]? = some (.cells #[.int .i64 b.t, .int .i64 b.n, .int .i64 b.w, .slice A1 b.cs.length p1, .slice A2 b.hs.length p2, .slice A3 b.os.length p3] 27 (0, 0))) := Lib.hid (by rw [← hwd]; exact HX2.out)
   have HOd : Hid (OwB wd B b A1 A2 A3 p1 p2 p3) := Lib.hid (by rw [← hwd]; exact HO2.out.drew)
   have HBd : Hid (Below B w wd) := Lib.hid (by rw [← hwd]; exact HB.out.drew)
   have HFd : Hid (Fr bkTs w wd) := Lib.hid (by rw [← hwd]; exact HF.out.drew)
   have hXd : X < wd.heap.size := (gz_ HXd.out).1
   have hQd : Q < wd.heap.size := by rw [← hwd]; exact hQl
   have hBd : B ≤ wd.heap.size := by omega
   have d0 : wd.cell? ⟨Q, 0, none⟩ = some (.int .i64 z0) := by rw [← hwd]; exact k0
   have d1 : wd.cell? ⟨Q, 1, none⟩ = some (.int .i64 z1) := by rw [← hwd]; exact k1
   have d2 : wd.cell? ⟨Q, 2, none⟩ = some (.int .i64 z2) := by rw [← hwd]; exact k2
   have d3 : wd.cell? ⟨Q, 3, none⟩ = some (.int .i64 z3) := by rw [← hwd]; exact k3
   have d4 : wd.cell? ⟨Q, 4, none⟩ = some (.int .i64 z4) := by rw [← hwd]; exact k4
   have d5 : wd.cell? ⟨Q, 5, none⟩ = some (.int .i64 z5) := by rw [← hwd]; exact k5
   have ad : wd.cell? ⟨X, 4, none⟩ = some (.slice A2 b.hs.length p2) := zqc HXd.out 4
   rw [hwd] at hHeld ⊢
   clear hwd a0 a1 a2 a3 a4 a5 k0 k1 k2 k3 k4 k5
   simp only [List.dropLast]
   refine tw0_ ?_
   refine tw1_ ?_
   refine tw2_ ?_
   refine tw3_ ?_
   refine tw4_ ?_
   refine tw5_ ?_
   refine tw6_ ?_
   refine tw7_ ?_
   refine tw8_ ?_
   refine tw9_ ?_
   refine tw10_ ?_
   refine tw11_ ?_
   refine tw12_ ?_
   refine tw13_ ?_
   refine tw14_ ?_
   refine tw15_ ?_
   refine tw16_ ?_
   refine tw17_ ?_
   refine tw18_ ?_
   refine tw19_ ?_
   refine tw20_ ?_
   refine tw21_ ?_
   refine tw22_ ?_
   refine tw23_ ?_
   refine tw24_ ?_
   refine wpAnyH_ready (rs := [25]) (by kernel_rfl) (by simp) ?_
   refine AllReadyH.cons rfl (fun K hK => ?_) ?_
   ·
    skip
    go_simp
    refine hK.out _ _ ?_ (fun hHeld => ?_)
    ·
     exact ⟨zqj hXd ad, zqj hQd d0, zqj hQd d1, zqj hQd d2, zqj hQd d3, zqj hQd d4, zqj hQd d5⟩
    clear hK K
    ((try simp only [Act.put]); (try simp only [List.setIfInBounds_toArray]); (repeat (first | simp only [List.set_cons_succ] | simp only [List.set_cons_zero])))
    refine wpAnyH_ready (rs := [26]) (by kernel_rfl) (by simp) ?_
    refine AllReadyH.cons rfl (fun K hK => ?_) ?_
    ·
     skip
     refine zvg (by rfl) _ _ _ (by rfl) B 46 ti0 _ 7 56 Tryz.underlying24 HI.out HZZ0.out HZZ1.out HZZ2.out rfl (by decide) (.slice A2 b.hs.length p2) (b.hs.map Htlc.cells) (by rfl) (HOd.out.h.alloc _) wd.heap.size 1 [.int .i64 z0, .int .i64 z1, .int .i64 z2, .int .i64 z3, .int .i64 z4, .bool false, .int .i64 z5] 46 (by rfl) (zxa (by first | rfl | (simp; done))) rfl (by simp [Value.oneCell']) (by rw [List.length_map]; omega) (by decide) (by first | omega | (simp; omega) | (simp; done)) ?_
     intro g2 cap2 w6 how6 hgr6 hat6 hlt6
     rw [List.length_map] at how6
     rw [List.length_map]
     have hOa := HOd.out.alloc (.cells ([.int .i64 z0, .int .i64 z1, .int .i64 z2, .int .i64 z3, .int .i64 z4, .bool false, .int .i64 z5] : List Value).toArray 46)
     have hX6 := zqg hgr6 (hOa.h.ne_ (zqe hXd HXd.out) (by decide)) (zqe hXd HXd.out)
     have hB6 := (HBd.out.alloc hBd _).grown hgr6 (by simp; omega) (fun k e => (hOa.h.block k e).1)
     have hF6 := (HFd.out.alloc _).grown hOa.h (by decide) hgr6
     have hQ6 := hgr6
     have hNQ : some Q ≠ (Value.slice A2 b.hs.length p2).ownBlock := NQ.out
     obtain ⟨_, f0, f1, f2, f3, f4, f5, ff, fz⟩ := own6 (g := X) (Below.refl _ w6) (gz_ hX6).1 hX6
     have e0 : w6.cell? ⟨Q, 0, none⟩ = some (.int .i64 z0) := (hgr6.cell_far ⟨Q, 0, none⟩ (by show Q < _; simp; omega) hNQ).trans (zqj hQd d0)
     have e1 : w6.cell? ⟨Q, 1, none⟩ = some (.int .i64 z1) := (hgr6.cell_far ⟨Q, 1, none⟩ (by show Q < _; simp; omega) hNQ).trans (zqj hQd d1)
     have e2 : w6.cell? ⟨Q, 2, none⟩ = some (.int .i64 z2) := (hgr6.cell_far ⟨Q, 2, none⟩ (by show Q < _; simp; omega) hNQ).trans (zqj hQd d2)
     have e3 : w6.cell? ⟨Q, 3, none⟩ = some (.int .i64 z3) := (hgr6.cell_far ⟨Q, 3, none⟩ (by show Q < _; simp; omega) hNQ).trans (zqj hQd d3)
     have e4 : w6.cell? ⟨Q, 4, none⟩ = some (.int .i64 z4) := (hgr6.cell_far ⟨Q, 4, none⟩ (by show Q < _; simp; omega) hNQ).trans (zqj hQd d4)
     have e5 : w6.cell? ⟨Q, 5, none⟩ = some (.int .i64 z5) := (hgr6.cell_far ⟨Q, 5, none⟩ (by show Q < _; simp; omega) hNQ).trans (zqj hQd d5)
     have HR6 := Lib.hid how6
     have HX6 := Lib.hid hX6
     have HB6 := Lib.hid hB6
     have HF6 := Lib.hid hF6
     have HOc := Lib.hid (hOa.c.apart_ hOa.h (by decide) hgr6)
     have HOo := Lib.hid (hOa.o.apart_ hOa.h (by decide) hgr6)
     clear how6 hgr6 hat6 hX6 hB6 hF6 hOa hQ6 hNQ
     refine hK.out _ _ ?_ (fun hHeld => ?_)
     ·
      exact ⟨f4, e0, e1, e2, e3, e4, e5⟩
     clear hK K
     ((try simp only [Act.put]); (try simp only [List.setIfInBounds_toArray]); (repeat (first | simp only [List.set_cons_succ] | simp only [List.set_cons_zero])))
     refine tw27_ ?_
     refine tw28_ ?_
     refine wpAnyH_done (by kernel_rfl) ?_ _
     intro KK hKK
     go_simp
     refine hKK _ _ (NoPanic.normal ?_)
     go_wp2_with fail
     go_ret
     refine PartP.yes HY.out (A1 := A1) (A2 := some ⟨g2, 0, none⟩) (A3 := A3) (p1 := p1) (p2 := cap2) (p3 := p3) ?_ ?_ ?_ ?_
     ·
      unfold BoxB
      dsimp only
      rw [List.length_append]
      exact (zyk HX6.out _).2.2.2.2.1
     ·
      exact ⟨HOc.out.aside HX6.out (by decide) _, by dsimp only; rw [List.length_append, List.map_append]; exact HR6.out.aside HX6.out (by decide) _, HOo.out.aside HX6.out (by decide) _⟩
     ·
      exact zvj HB6.out hBX _
     ·
      exact HF6.out.set HX6.out (by decide) _
    exact AllReadyH.nil
   exact AllReadyH.nil
  ·
   have hlt' : decide ((b.hs.length : Int) < 60) = false := decide_eq_false (by omega)
   have t5 : ((l.length : Int) == 6) = true := by rw [beq_iff_eq]; omega
   have HN := Lib.hid (show partI b t.data.toList = none by
    rw [HOK.out]
    simp [wordI, zkj, zkk, zwa, zwc, hlt])
   go_wp2_with fail
   go_ret
   exact PartP.no HN.out HB.out HF.out
 ·
  have t6 : ((l.length : Int) == 6) = false := by rw [beq_eq_false_iff_ne]; omega
  have HN := Lib.hid (show partI b t.data.toList = none by
   rw [HOK.out]
   simp [wordI, zkj, zkk, zwa, zwc, hn])
  clear hn
  go_wp2_with fail
  go_ret
  exact PartP.no HN.out HB.out HF.out
end Go.Proofs.YtcjbjpobpefehaaGreatDoor
namespace Go.Proofs.YtcjbjpobpefehaaGreatDoor
open Go.RowKit Go.Deep
set_option maxRecDepth 100000 in
set_option maxHeartbeats 4000000 in
theorem i_textPart_circ_nx (X B : Nat) (b : Bk) (A1 A2 A3 : Option Addr) (p1 p2 p3 : Nat) (t : ByteArray) (w : World) (hld : Le w) (hs : t.size ≤ 1048576) (hX : BoxB w X b A1 A2 A3 p1 p2 p3) (hO : OwB w B b A1 A2 A3 p1 p2 p3) (hBX : B ≤ X) (hl : b.cs.length ≤ 20 ∧ b.hs.length ≤ 60 ∧ b.os.length ≤ 20) (l : List (List UInt8)) (hP : parts 32 t.data.toList = circW :: l) (hm0 : l.length ≠ 0) (hm7 : l.length ≠ 7) :
  Calls Tryz.prog 27 #[.pointer (some ⟨X, 0, none⟩), .string t] w (PartP X B b t.data.toList w) := by
 have hl1 := hl.1
 have hl2 := hl.2.1
 have hl3 := hl.2.2
 clear hl
 have HLD := Lib.hid hld
 have hXl : X < w.heap.size := hX.lt
 have hBw : B ≤ w.heap.size := by omega
 have HX := Lib.hid hX
 have HO := Lib.hid hO
 have HC := Lib.hid (zvh t 32 w hld.toLd (by omega))
 have hz : t.data.toList.length = t.size := Array.length_toList
 have hsub := zji 32 t.data.toList
 have hpl := zjn 32 t.data.toList
 rw [hP] at hsub hpl
 have HSZ := Lib.hid (show ∀ x ∈ l, x.length ≤ 1048576 from fun x hx => by have := hsub x (by simp [hx]); omega)
 simp only [List.length_cons] at hpl
 have hll : l.length ≤ 1048577 := by omega
 have hcut : cutI (circW :: l) = circW :: l := if_neg (by rintro ⟨k1, k2⟩; simp at k1; omega)
 have hkept : keptI (circW :: l) = false := by
  unfold keptI
  rw [decide_eq_false (by simp; omega)]; rfl
 have HPI := Lib.hid (show partI b t.data.toList = if l.all numOk = false then none else wordI b circW l false by
  unfold partI
  rw [hP, hcut, hkept]
  rfl)
 rw [hP] at HC
 clear hP hsub hpl hz hcut hkept hld hX hO
 go_enter Tryz.func27, Tryz.ntmps27
 go_wp2_with fail
 refine HC.out.mono ?_
 rintro e w1 ⟨rfl, how1, hb1⟩
 have z1 := hb1.size
 have hX1 := zqf hb1 hXl HX.out
 have HO1 := Lib.hid (HO.out.below hb1)
 obtain ⟨b0, off0, e0, hbB, c0⟩ := zkb how1.rd (k := 0) (by simp)
 simp only [Option.some.injEq, Addr.mk.injEq, and_true] at e0
 obtain ⟨rfl, rfl⟩ := e0
 simp only [List.getElem_cons_zero, Nat.add_zero] at c0
 have HR1 := Lib.hid (zka how1.rd)
 have hN : (circW :: l).length = l.length + 1 := rfl
 rw [hN]
 obtain ⟨m, hm⟩ : ∃ m, l.length = m := ⟨_, rfl⟩
 have HML := Lib.hid hm
 rw [hm] at hm0 hm7 hll ⊢
 have t8 : ((m : Int) + 1 == 8) = false := by rw [beq_eq_false_iff_ne]; omega
 have m1 : 0 < m := by omega
 have HX1 := Lib.hid hX1
 have hbA : Below w.heap.size w w1 := hb1
 have hm7' : m ≠ 7 := hm7
 have HM7 := Lib.hid hm7'
 clear hN hm how1 hm0 hm7 hm7' hX1 hb1
 go_wp2_with fail
 rw [← HML.out]
 refine (zjf l _ _ _ (HLD.out.below hbA) (by rw [HML.out]; omega) HSZ.out HR1.out).mono ?_
 rintro e w2 ⟨hnum, hb2⟩
 have z2 := hb2.size
 have hX2 := zqf hb2 (Nat.lt_of_lt_of_le hXl z1) HX1.out
 have HO2 := Lib.hid (HO1.out.below hb2)
 have c0 := (hb2.cell (p := ⟨w.heap.size, 0, none⟩) hbB).trans c0
 have hbB2 : Below w.heap.size w w2 := bl_
 have HB := Lib.hid (hbB2.mono hBw)
 have HF := Lib.hid (Fr.of_below (ts := bkTs) hbB2)
 obtain ⟨_, a0, a1, a2, a3, a4, a5, af, az⟩ := own6 (g := X) (Below.refl _ w2) (gz_ hX2).1 hX2
 have HX2 := Lib.hid hX2
 rcases hnum with ⟨hok, AQ, capQ, rfl, how2⟩ | ⟨hno, rfl⟩
 rotate_left
 ·
  have HNo := Lib.hid (show partI b t.data.toList = none by rw [HPI.out, if_pos hno])
  clear hno hX2
  go_wp2_with fail
  go_ret
  exact PartP.no HNo.out HB.out HF.out
 have HOK := Lib.hid (show partI b t.data.toList = wordI b circW l false by rw [HPI.out, if_neg (by rw [hok]; simp)])
 have HW2 := Lib.hid how2
 clear hok hX2 how2 HX1 HO1 HPI hb2 hbA hbB2
 by_cases hn : l.length = 5
 ·
  by_cases hlt : b.os.length < 20
  ·
   have hlt' : ((b.os.length : Int) < 20) := by omega
   have hQ0 : 0 < (((l.map numOf).map intCells)).length := by simp; omega
   obtain ⟨Q, rfl, hQB⟩ := HW2.out.head_ hQ0
   clear hQ0
   obtain ⟨l0, l1, l2, l3, l4, rfl⟩ := list5 hn
   have k0 := zxd HW2.out (k := 0) (by simp)
   have k1 := zxd HW2.out (k := 1) (by simp)
   have k2 := zxd HW2.out (k := 2) (by simp)
   have k3 := zxd HW2.out (k := 3) (by simp)
   have k4 := zxd HW2.out (k := 4) (by simp)
   simp only [List.map_cons, List.map_nil, List.getElem_cons_zero, List.getElem_cons_succ] at k0 k1 k2 k3 k4
   obtain ⟨z0, hz0⟩ : ∃ z, numOf l0 = z := ⟨_, rfl⟩
   rw [hz0] at k0
   have HZ0 := Lib.hid hz0
   obtain ⟨z1, hz1⟩ : ∃ z, numOf l1 = z := ⟨_, rfl⟩
   rw [hz1] at k1
   have HZ1 := Lib.hid hz1
   obtain ⟨z2, hz2⟩ : ∃ z, numOf l2 = z := ⟨_, rfl⟩
   rw [hz2] at k2
   have HZ2 := Lib.hid hz2
   obtain ⟨z3, hz3⟩ : ∃ z, numOf l3 = z := ⟨_, rfl⟩
   rw [hz3] at k3
   have HZ3 := Lib.hid hz3
   obtain ⟨z4, hz4⟩ : ∃ z, numOf l4 = z := ⟨_, rfl⟩
   rw [hz4] at k4
   have HZ4 := Lib.hid hz4
   have hQl : Q < w2.heap.size := Lib.lt_of_cell k0
   have NX := HW2.out.ne_ HX2.out (by decide)
   have hQX : Q ≠ X := fun e => NX (by rw [e]; rfl)
   clear hn NX hz0 hz1 hz2 hz3 hz4
   have HY := Lib.hid (show partI b t.data.toList = some { b with os := b.os ++ [⟨z0, z1, z2, z3, z4⟩] } by
    rw [HOK.out]
    simp [wordI, numIx, zhk, zhj, zhi, hlt, HZ0.out, HZ1.out, HZ2.out, HZ3.out, HZ4.out])
   obtain ⟨ti0, hi, hz0, hz1, hz2⟩ := info_parts info_circB
   have HI := Lib.hid hi
   have HZZ0 := Lib.hid hz0
   have HZZ1 := Lib.hid hz1
   have HZZ2 := Lib.hid hz2
   obtain ⟨curQ, hqh⟩ := HW2.out.heapB
   have NQ := Lib.hid (HO2.out.o.ne_ hqh (by decide))
   clear hqh HOK hi hz0 hz1 hz2
   go_wp2_with fail
   refine wp_region_noPanic ?_
   refine zkc (S := (fun w' => w'.cell? ⟨X, 5, none⟩ = some (.slice A3 b.os.length p3) ∧ w'.cell? ⟨Q, 0, none⟩ = some (.int .i64 z0) ∧ w'.cell? ⟨Q, 1, none⟩ = some (.int .i64 z1) ∧ w'.cell? ⟨Q, 2, none⟩ = some (.int .i64 z2) ∧ w'.cell? ⟨Q, 3, none⟩ = some (.int .i64 z3) ∧ w'.cell? ⟨Q, 4, none⟩ = some (.int .i64 z4))) rfl (by kernel_rfl) (by kernel_rfl) (by kernel_rfl) (by kernel_rfl) ?_ (fun hHeld => ?_)
   ·
    exact ⟨a5, k0, k1, k2, k3, k4⟩
   obtain ⟨wd, hwd⟩ : ∃ wd, w2.drew = wd := ⟨_, rfl⟩
   have HXd : Hid (wd.heap[X]? = some (.cells #[.int .i64 b.t, .int .i64 b.n, .int .i64 b.w, .slice A1 b.cs.length p1, .slice A2 b.hs.length p2, .slice A3 b.os.length p3] 27 (0, 0))) := Lib.hid (by rw [← hwd]; exact HX2.out)
   have HOd : Hid (OwB wd B b A1 A2 A3 p1 p2 p3) := Lib.hid (by rw [← hwd]; exact HO2.out.drew)
   have HBd : Hid (Below B w wd) := Lib.hid (by rw [← hwd]; exact HB.out.drew)
   have HFd : Hid (Fr bkTs w wd) := Lib.hid (by rw [← hwd]; exact HF.out.drew)
   have hXd : X < wd.heap.size := (gz_ HXd.out).1
   have hQd : Q < wd.heap.size := by rw [← hwd]; exact hQl
   have hBd : B ≤ wd.heap.size := by omega
   have d0 : wd.cell? ⟨Q, 0, none⟩ = some (.int .i64 z0) := by rw [← hwd]; exact k0
   have d1 : wd.cell? ⟨Q, 1, none⟩ = some (.int .i64 z1) := by rw [← hwd]; exact k1
   have d2 : wd.cell? ⟨Q, 2, none⟩ = some (.int .i64 z2) := by rw [← hwd]; exact k2
   have d3 : wd.cell? ⟨Q, 3, none⟩ = some (.int .i64 z3) := by rw [← hwd]; exact k3
   have d4 : wd.cell? ⟨Q, 4, none⟩ = some (.int .i64 z4) := by rw [← hwd]; exact k4
   have ad : wd.cell? ⟨X, 5, none⟩ = some (.slice A3 b.os.length p3) := zqc HXd.out 5
   rw [hwd] at hHeld ⊢
   clear hwd a0 a1 a2 a3 a4 a5 k0 k1 k2 k3 k4
   simp only [List.dropLast]
   refine tw0_ ?_
   refine tw1_ ?_
   refine tw2_ ?_
   refine tw3_ ?_
   refine tw4_ ?_
   refine tw5_ ?_
   refine tw6_ ?_
   refine tw7_ ?_
   refine tw8_ ?_
   refine tw9_ ?_
   refine tw10_ ?_
   refine tw11_ ?_
   refine tw12_ ?_
   refine tw13_ ?_
   refine tw14_ ?_
   refine tw15_ ?_
   refine tw16_ ?_
   refine tw17_ ?_
   refine tw18_ ?_
   refine tw19_ ?_
   refine tw20_ ?_
   refine wpAnyH_ready (rs := [21]) (by kernel_rfl) (by simp) ?_
   refine AllReadyH.cons rfl (fun K hK => ?_) ?_
   ·
    skip
    go_simp
    refine hK.out _ _ ?_ (fun hHeld => ?_)
    ·
     exact ⟨zqj hXd ad, zqj hQd d0, zqj hQd d1, zqj hQd d2, zqj hQd d3, zqj hQd d4⟩
    clear hK K
    ((try simp only [Act.put]); (try simp only [List.setIfInBounds_toArray]); (repeat (first | simp only [List.set_cons_succ] | simp only [List.set_cons_zero])))
    refine wpAnyH_ready (rs := [22]) (by kernel_rfl) (by simp) ?_
    refine AllReadyH.cons rfl (fun K hK => ?_) ?_
    ·
     skip
     refine zvg (by rfl) _ _ _ (by rfl) B 49 ti0 _ 5 40 Tryz.underlying25 HI.out HZZ0.out HZZ1.out HZZ2.out rfl (by decide) (.slice A3 b.os.length p3) (b.os.map Circle.cells) (by rfl) (HOd.out.o.alloc _) wd.heap.size 1 [.int .i64 z0, .int .i64 z1, .int .i64 z2, .int .i64 z3, .int .i64 z4] 49 (by rfl) (zxa (by first | rfl | (simp; done))) rfl (by simp [Value.oneCell']) (by rw [List.length_map]; omega) (by decide) (by first | omega | (simp; omega) | (simp; done)) ?_
     intro g2 cap2 w6 how6 hgr6 hat6 hlt6
     rw [List.length_map] at how6
     rw [List.length_map]
     have hOa := HOd.out.alloc (.cells ([.int .i64 z0, .int .i64 z1, .int .i64 z2, .int .i64 z3, .int .i64 z4] : List Value).toArray 49)
     have hX6 := zqg hgr6 (hOa.o.ne_ (zqe hXd HXd.out) (by decide)) (zqe hXd HXd.out)
     have hB6 := (HBd.out.alloc hBd _).grown hgr6 (by simp; omega) (fun k e => (hOa.o.block k e).1)
     have hF6 := (HFd.out.alloc _).grown hOa.o (by decide) hgr6
     have hQ6 := hgr6
     have hNQ : some Q ≠ (Value.slice A3 b.os.length p3).ownBlock := NQ.out
     obtain ⟨_, f0, f1, f2, f3, f4, f5, ff, fz⟩ := own6 (g := X) (Below.refl _ w6) (gz_ hX6).1 hX6
     have e0 : w6.cell? ⟨Q, 0, none⟩ = some (.int .i64 z0) := (hgr6.cell_far ⟨Q, 0, none⟩ (by show Q < _; simp; omega) hNQ).trans (zqj hQd d0)
     have e1 : w6.cell? ⟨Q, 1, none⟩ = some (.int .i64 z1) := (hgr6.cell_far ⟨Q, 1, none⟩ (by show Q < _; simp; omega) hNQ).trans (zqj hQd d1)
     have e2 : w6.cell? ⟨Q, 2, none⟩ = some (.int .i64 z2) := (hgr6.cell_far ⟨Q, 2, none⟩ (by show Q < _; simp; omega) hNQ).trans (zqj hQd d2)
     have e3 : w6.cell? ⟨Q, 3, none⟩ = some (.int .i64 z3) := (hgr6.cell_far ⟨Q, 3, none⟩ (by show Q < _; simp; omega) hNQ).trans (zqj hQd d3)
     have e4 : w6.cell? ⟨Q, 4, none⟩ = some (.int .i64 z4) := (hgr6.cell_far ⟨Q, 4, none⟩ (by show Q < _; simp; omega) hNQ).trans (zqj hQd d4)
     have HR6 := Lib.hid how6
     have HX6 := Lib.hid hX6
     have HB6 := Lib.hid hB6
     have HF6 := Lib.hid hF6
     have HOc := Lib.hid (hOa.c.apart_ hOa.o (by decide) hgr6)
     have HOh := Lib.hid (hOa.h.apart_ hOa.o (by decide) hgr6)
     clear how6 hgr6 hat6 hX6 hB6 hF6 hOa hQ6 hNQ
     refine hK.out _ _ ?_ (fun hHeld => ?_)
     ·
      exact ⟨f5, e0, e1, e2, e3, e4⟩
     clear hK K
     ((try simp only [Act.put]); (try simp only [List.setIfInBounds_toArray]); (repeat (first | simp only [List.set_cons_succ] | simp only [List.set_cons_zero])))
     refine tw23_ ?_
     refine tw24_ ?_
     refine wpAnyH_done (by kernel_rfl) ?_ _
     intro KK hKK
     go_simp
     refine hKK _ _ (NoPanic.normal ?_)
     go_wp2_with fail
     go_ret
     refine PartP.yes HY.out (A1 := A1) (A2 := A2) (A3 := some ⟨g2, 0, none⟩) (p1 := p1) (p2 := p2) (p3 := cap2) ?_ ?_ ?_ ?_
     ·
      unfold BoxB
      dsimp only
      rw [List.length_append]
      exact (zyk HX6.out _).2.2.2.2.2
     ·
      exact ⟨HOc.out.aside HX6.out (by decide) _, HOh.out.aside HX6.out (by decide) _, by dsimp only; rw [List.length_append, List.map_append]; exact HR6.out.aside HX6.out (by decide) _⟩
     ·
      exact zvj HB6.out hBX _
     ·
      exact HF6.out.set HX6.out (by decide) _
    exact AllReadyH.nil
   exact AllReadyH.nil
  ·
   have hlt' : decide ((b.os.length : Int) < 20) = false := decide_eq_false (by omega)
   have t5 : ((l.length : Int) == 5) = true := by rw [beq_iff_eq]; omega
   have HN := Lib.hid (show partI b t.data.toList = none by
    rw [HOK.out]
    simp [wordI, zhk, zhj, zhi, zyg, hlt])
   go_wp2_with fail
   go_ret
   exact PartP.no HN.out HB.out HF.out
 ·
  have t5 : ((l.length : Int) == 5) = false := by rw [beq_eq_false_iff_ne]; omega
  have HN := Lib.hid (show partI b t.data.toList = none by
   rw [HOK.out]
   simp [wordI, zhk, zhj, zhi, zyg, hn])
  clear hn
  go_wp2_with fail
  go_ret
  exact PartP.no HN.out HB.out HF.out
end Go.Proofs.YtcjbjpobpefehaaGreatDoor
namespace Go.Proofs.YtcjbjpobpefehaaGreatDoor
open Go.RowKit Go.Deep
set_option maxRecDepth 100000 in
set_option maxHeartbeats 4000000 in
theorem i_textPart_chan_n8 (X B : Nat) (b : Bk) (A1 A2 A3 : Option Addr) (p1 p2 p3 : Nat) (t : ByteArray) (w : World) (hld : Le w) (hs : t.size ≤ 1048576) (hX : BoxB w X b A1 A2 A3 p1 p2 p3) (hO : OwB w B b A1 A2 A3 p1 p2 p3) (hBX : B ≤ X) (hl : b.cs.length ≤ 20 ∧ b.hs.length ≤ 60 ∧ b.os.length ≤ 20) (l : List (List UInt8)) (hP : parts 32 t.data.toList = chanW :: l) (hm : l.length = 7) :
  Calls Tryz.prog 27 #[.pointer (some ⟨X, 0, none⟩), .string t] w (PartP X B b t.data.toList w) := by
 have hl1 := hl.1
 have hl2 := hl.2.1
 have hl3 := hl.2.2
 clear hl
 have HLD := Lib.hid hld
 have hXl : X < w.heap.size := hX.lt
 have hBw : B ≤ w.heap.size := by omega
 have HX := Lib.hid hX
 have HO := Lib.hid hO
 have HC := Lib.hid (zvh t 32 w hld.toLd (by omega))
 have hz : t.data.toList.length = t.size := Array.length_toList
 have hsub := zji 32 t.data.toList
 have hpl := zjn 32 t.data.toList
 rw [hP] at hsub hpl
 have HSZ := Lib.hid (show ∀ x ∈ l, x.length ≤ 1048576 from fun x hx => by have := hsub x (by simp [hx]); omega)
 simp only [List.length_cons] at hpl
 have hll : l.length ≤ 1048577 := by omega
 have hcut : cutI (chanW :: l) = chanW :: l := if_neg (by rintro ⟨k1, k2⟩; exact absurd (show chanW = htlcW from k2) (by decide))
 have hkept : keptI (chanW :: l) = false := by
  unfold keptI
  rw [show ((chanW :: l).headD [] == htlcW) = false from (show (chanW == htlcW) = false by decide)]; simp
 have HPI := Lib.hid (show partI b t.data.toList = if l.all numOk = false then none else wordI b chanW l false by
  unfold partI
  rw [hP, hcut, hkept]
  rfl)
 rw [hP] at HC
 clear hP hsub hpl hz hcut hkept hld hX hO
 go_enter Tryz.func27, Tryz.ntmps27
 go_wp2_with fail
 refine HC.out.mono ?_
 rintro e w1 ⟨rfl, how1, hb1⟩
 have z1 := hb1.size
 have hX1 := zqf hb1 hXl HX.out
 have HO1 := Lib.hid (HO.out.below hb1)
 obtain ⟨b0, off0, e0, hbB, c0⟩ := zkb how1.rd (k := 0) (by simp)
 simp only [Option.some.injEq, Addr.mk.injEq, and_true] at e0
 obtain ⟨rfl, rfl⟩ := e0
 simp only [List.getElem_cons_zero, Nat.add_zero] at c0
 have HR1 := Lib.hid (zka how1.rd)
 have hN : (chanW :: l).length = l.length + 1 := rfl
 rw [hN]
 obtain ⟨m, hm⟩ : ∃ m, l.length = m := ⟨_, rfl⟩
 have HML := Lib.hid hm
 obtain rfl : m = 7 := by omega
 rw [hm]
 have HX1 := Lib.hid hX1
 have hbA : Below w.heap.size w w1 := hb1
 clear hN hm how1 hll hX1 hb1
 go_wp2_with fail
 have e7 : (7 : Nat) = l.length := HML.out.symm
 rw [e7]
 clear e7
 refine (zjf l _ _ _ (HLD.out.below hbA) (by rw [HML.out]; omega) HSZ.out HR1.out).mono ?_
 rintro e w2 ⟨hnum, hb2⟩
 have z2 := hb2.size
 have hX2 := zqf hb2 (Nat.lt_of_lt_of_le hXl z1) HX1.out
 have HO2 := Lib.hid (HO1.out.below hb2)
 have c0 := (hb2.cell (p := ⟨w.heap.size, 0, none⟩) hbB).trans c0
 have hbB2 : Below w.heap.size w w2 := bl_
 have HB := Lib.hid (hbB2.mono hBw)
 have HF := Lib.hid (Fr.of_below (ts := bkTs) hbB2)
 obtain ⟨_, a0, a1, a2, a3, a4, a5, af, az⟩ := own6 (g := X) (Below.refl _ w2) (gz_ hX2).1 hX2
 have HX2 := Lib.hid hX2
 rcases hnum with ⟨hok, AQ, capQ, rfl, how2⟩ | ⟨hno, rfl⟩
 rotate_left
 ·
  have HNo := Lib.hid (show partI b t.data.toList = none by rw [HPI.out, if_pos hno])
  clear hno hX2
  go_wp2_with fail
  go_ret
  exact PartP.no HNo.out HB.out HF.out
 have HOK := Lib.hid (show partI b t.data.toList = wordI b chanW l false by rw [HPI.out, if_neg (by rw [hok]; simp)])
 have HW2 := Lib.hid how2
 clear hok hX2 how2 HX1 HO1 HPI hb2 hbA hbB2
 have hn : l.length = 7 := HML.out
 by_cases hlt : b.cs.length < 20
 ·
  have hlt' : ((b.cs.length : Int) < 20) := by omega
  have hQ0 : 0 < (((l.map numOf).map intCells)).length := by simp; omega
  obtain ⟨Q, rfl, hQB⟩ := HW2.out.head_ hQ0
  clear hQ0
  obtain ⟨l0, l1, l2, l3, l4, l5, l6, rfl⟩ := list7 hn
  have k0 := zxd HW2.out (k := 0) (by simp)
  have k1 := zxd HW2.out (k := 1) (by simp)
  have k2 := zxd HW2.out (k := 2) (by simp)
  have k3 := zxd HW2.out (k := 3) (by simp)
  have k4 := zxd HW2.out (k := 4) (by simp)
  have k5 := zxd HW2.out (k := 5) (by simp)
  have k6 := zxd HW2.out (k := 6) (by simp)
  simp only [List.map_cons, List.map_nil, List.getElem_cons_zero, List.getElem_cons_succ] at k0 k1 k2 k3 k4 k5 k6
  obtain ⟨z0, hz0⟩ : ∃ z, numOf l0 = z := ⟨_, rfl⟩
  rw [hz0] at k0
  have HZ0 := Lib.hid hz0
  obtain ⟨z1, hz1⟩ : ∃ z, numOf l1 = z := ⟨_, rfl⟩
  rw [hz1] at k1
  have HZ1 := Lib.hid hz1
  obtain ⟨z2, hz2⟩ : ∃ z, numOf l2 = z := ⟨_, rfl⟩
  rw [hz2] at k2
  have HZ2 := Lib.hid hz2
  obtain ⟨z3, hz3⟩ : ∃ z, numOf l3 = z := ⟨_, rfl⟩
  rw [hz3] at k3
  have HZ3 := Lib.hid hz3
  obtain ⟨z4, hz4⟩ : ∃ z, numOf l4 = z := ⟨_, rfl⟩
  rw [hz4] at k4
  have HZ4 := Lib.hid hz4
  obtain ⟨z5, hz5⟩ : ∃ z, numOf l5 = z := ⟨_, rfl⟩
  rw [hz5] at k5
  have HZ5 := Lib.hid hz5
  obtain ⟨z6, hz6⟩ : ∃ z, numOf l6 = z := ⟨_, rfl⟩
  rw [hz6] at k6
  have HZ6 := Lib.hid hz6
  have hQl : Q < w2.heap.size := Lib.lt_of_cell k0
  have NX := HW2.out.ne_ HX2.out (by decide)
  have hQX : Q ≠ X := fun e => NX (by rw [e]; rfl)
  clear hn NX hz0 hz1 hz2 hz3 hz4 hz5 hz6
  have HY := Lib.hid (show partI b t.data.toList = some { b with cs := b.cs ++ [⟨z0, z1, z2, z3, z4, z5, z6⟩] } by
   rw [HOK.out]
   simp [wordI, numIx, zyi, hlt, HZ0.out, HZ1.out, HZ2.out, HZ3.out, HZ4.out, HZ5.out, HZ6.out])
  obtain ⟨ti0, hi, hz0, hz1, hz2⟩ := info_parts info_chanB
  have HI := Lib.hid hi
  have HZZ0 := Lib.hid hz0
  have HZZ1 := Lib.hid hz1
  have HZZ2 := Lib.hid hz2
  obtain ⟨curQ, hqh⟩ := HW2.out.heapB
  have NQ := Lib.hid (HO2.out.c.ne_ hqh (by decide))
  clear hqh HOK hi hz0 hz1 hz2
  go_wp2_with fail
  refine wp_region_noPanic ?_
  refine zkc (S := (fun w' => w'.cell? ⟨X, 3, none⟩ = some (.slice A1 b.cs.length p1) ∧ w'.cell? ⟨Q, 0, none⟩ = some (.int .i64 z0) ∧ w'.cell? ⟨Q, 1, none⟩ = some (.int .i64 z1) ∧ w'.cell? ⟨Q, 2, none⟩ = some (.int .i64 z2) ∧ w'.cell? ⟨Q, 3, none⟩ = some (.int .i64 z3) ∧ w'.cell? ⟨Q, 4, none⟩ = some (.int .i64 z4) ∧ w'.cell? ⟨Q, 5, none⟩ = some (.int .i64 z5) ∧ w'.cell? ⟨Q, 6, none⟩ = some (.int .i64 z6))) rfl (by kernel_rfl) (by kernel_rfl) (by kernel_rfl) (by kernel_rfl) ?_ (fun hHeld => ?_)
  ·
   exact ⟨a3, k0, k1, k2, k3, k4, k5, k6⟩
  obtain ⟨wd, hwd⟩ : ∃ wd, w2.drew = wd := ⟨_, rfl⟩
  have HXd : Hid (wd.heap[X]? = some (.cells #[.int .i64 b.t, .int .i64 b.n, .int .i64 b.w, .slice A1 b.cs.length p1, .slice A2 b.hs.length p2, .slice A3 b.os.length p3] 27 (0, 0))) := Lib.hid (by rw [← hwd]; exact HX2.out)
  have HOd : Hid (OwB wd B b A1 A2 A3 p1 p2 p3) := Lib.hid (by rw [← hwd]; exact HO2.out.drew)
  have HBd : Hid (Below B w wd) := Lib.hid (by rw [← hwd]; exact HB.out.drew)
  have HFd : Hid (Fr bkTs w wd) := Lib.hid (by rw [← hwd]; exact HF.out.drew)
  have hXd : X < wd.heap.size := (gz_ HXd.out).1
  have hQd : Q < wd.heap.size := by rw [← hwd]; exact hQl
  have hBd : B ≤ wd.heap.size := by omega
  have d0 : wd.cell? ⟨Q, 0, none⟩ = some (.int .i64 z0) := by rw [← hwd]; exact k0
  have d1 : wd.cell? ⟨Q, 1, none⟩ = some (.int .i64 z1) := by rw [← hwd]; exact k1
  have d2 : wd.cell? ⟨Q, 2, none⟩ = some (.int .i64 z2) := by rw [← hwd]; exact k2
  have d3 : wd.cell? ⟨Q, 3, none⟩ = some (.int .i64 z3) := by rw [← hwd]; exact k3
  have d4 : wd.cell? ⟨Q, 4, none⟩ = some (.int .i64 z4) := by rw [← hwd]; exact k4
  have d5 : wd.cell? ⟨Q, 5, none⟩ = some (.int .i64 z5) := by rw [← hwd]; exact k5
  have d6 : wd.cell? ⟨Q, 6, none⟩ = some (.int .i64 z6) := by rw [← hwd]; exact k6
  have ad : wd.cell? ⟨X, 3, none⟩ = some (.slice A1 b.cs.length p1) := zqc HXd.out 3
  rw [hwd] at hHeld ⊢
  clear hwd a0 a1 a2 a3 a4 a5 k0 k1 k2 k3 k4 k5 k6
  simp only [List.dropLast]
  refine tw0_ ?_
  refine tw1_ ?_
  refine tw2_ ?_
  refine tw3_ ?_
  refine tw4_ ?_
  refine tw5_ ?_
  refine tw6_ ?_
  refine tw7_ ?_
  refine tw8_ ?_
  refine tw9_ ?_
  refine tw10_ ?_
  refine tw11_ ?_
  refine tw12_ ?_
  refine tw13_ ?_
  refine tw14_ ?_
  refine tw15_ ?_
  refine tw16_ ?_
  refine tw17_ ?_
  refine tw18_ ?_
  refine tw19_ ?_
  refine tw20_ ?_
  refine tw21_ ?_
  refine tw22_ ?_
  refine tw23_ ?_
  refine tw24_ ?_
  refine wpAnyH_take (i := 25) (v := ?v76) rfl (by kernel_rfl) (by kernel_rfl) (by kernel_rfl) (fun _ _ _ h => h) (Or.inl ⟨by rfl, ?hy76⟩) (by assumption) ?rest76
  case hy76 => (intro w hSw; (try dsimp only at hSw); go_simp; (try with_reducible rfl))
  ((try simp only [Act.put]); (try simp only [List.setIfInBounds_toArray]); (repeat (first | simp only [List.set_cons_succ] | simp only [List.set_cons_zero])))
  refine wpAnyH_take (i := 26) (v := ?v77) rfl (by kernel_rfl) (by kernel_rfl) (by kernel_rfl) (fun _ _ _ h => h) (Or.inl ⟨by rfl, ?hy77⟩) (by assumption) ?rest77
  case hy77 => (intro w hSw; (try dsimp only at hSw); go_simp; (try with_reducible rfl))
  ((try simp only [Act.put]); (try simp only [List.setIfInBounds_toArray]); (repeat (first | simp only [List.set_cons_succ] | simp only [List.set_cons_zero])))
  refine wpAnyH_ready (rs := [27]) (by kernel_rfl) (by simp) ?_
  refine AllReadyH.cons rfl (fun K hK => ?_) ?_
  ·
   skip
   go_simp
   refine hK.out _ _ ?_ (fun hHeld => ?_)
   ·
    exact ⟨zqj hXd ad, zqj hQd d0, zqj hQd d1, zqj hQd d2, zqj hQd d3, zqj hQd d4, zqj hQd d5, zqj hQd d6⟩
   clear hK K
   ((try simp only [Act.put]); (try simp only [List.setIfInBounds_toArray]); (repeat (first | simp only [List.set_cons_succ] | simp only [List.set_cons_zero])))
   refine wpAnyH_ready (rs := [28]) (by kernel_rfl) (by simp) ?_
   refine AllReadyH.cons rfl (fun K hK => ?_) ?_
   ·
    skip
    refine zvg (by rfl) _ _ _ (by rfl) B 44 ti0 _ 7 56 Tryz.underlying23 HI.out HZZ0.out HZZ1.out HZZ2.out rfl (by decide) (.slice A1 b.cs.length p1) (b.cs.map Chan.cells) (by rfl) (HOd.out.c.alloc _) wd.heap.size 1 [.int .i64 z0, .int .i64 z1, .int .i64 z2, .int .i64 z3, .int .i64 z4, .int .i64 z5, .int .i64 z6] 44 (by rfl) (zxa (by first | rfl | (simp; done))) rfl (by simp [Value.oneCell']) (by rw [List.length_map]; omega) (by decide) (by first | omega | (simp; omega) | (simp; done)) ?_
    intro g2 cap2 w6 how6 hgr6 hat6 hlt6
    rw [List.length_map] at how6
    rw [List.length_map]
    have hOa := HOd.out.alloc (.cells ([.int .i64 z0, .int .i64 z1, .int .i64 z2, .int .i64 z3, .int .i64 z4, .int .i64 z5, .int .i64 z6] : List Value).toArray 44)
    have hX6 := zqg hgr6 (hOa.c.ne_ (zqe hXd HXd.out) (by decide)) (zqe hXd HXd.out)
    have hB6 := (HBd.out.alloc hBd _).grown hgr6 (by simp; omega) (fun k e => (hOa.c.block k e).1)
    have hF6 := (HFd.out.alloc _).grown hOa.c (by decide) hgr6
    have hQ6 := hgr6
    have hNQ : some Q ≠ (Value.slice A1 b.cs.length p1).ownBlock := NQ.out
    obtain ⟨_, f0, f1, f2, f3, f4, f5, ff, fz⟩ := own6 (g := X) (Below.refl _ w6) (gz_ hX6).1 hX6
    have e0 : w6.cell? ⟨Q, 0, none⟩ = some (.int .i64 z0) := (hgr6.cell_far ⟨Q, 0, none⟩ (by show Q < _; simp; omega) hNQ).trans (zqj hQd d0)
    have e1 : w6.cell? ⟨Q, 1, none⟩ = some (.int .i64 z1) := (hgr6.cell_far ⟨Q, 1, none⟩ (by show Q < _; simp; omega) hNQ).trans (zqj hQd d1)
    have e2 : w6.cell? ⟨Q, 2, none⟩ = some (.int .i64 z2) := (hgr6.cell_far ⟨Q, 2, none⟩ (by show Q < _; simp; omega) hNQ).trans (zqj hQd d2)
    have e3 : w6.cell? ⟨Q, 3, none⟩ = some (.int .i64 z3) := (hgr6.cell_far ⟨Q, 3, none⟩ (by show Q < _; simp; omega) hNQ).trans (zqj hQd d3)
    have e4 : w6.cell? ⟨Q, 4, none⟩ = some (.int .i64 z4) := (hgr6.cell_far ⟨Q, 4, none⟩ (by show Q < _; simp; omega) hNQ).trans (zqj hQd d4)
    have e5 : w6.cell? ⟨Q, 5, none⟩ = some (.int .i64 z5) := (hgr6.cell_far ⟨Q, 5, none⟩ (by show Q < _; simp; omega) hNQ).trans (zqj hQd d5)
    have e6 : w6.cell? ⟨Q, 6, none⟩ = some (.int .i64 z6) := (hgr6.cell_far ⟨Q, 6, none⟩ (by show Q < _; simp; omega) hNQ).trans (zqj hQd d6)
    have HR6 := Lib.hid how6
    have HX6 := Lib.hid hX6
    have HB6 := Lib.hid hB6
    have HF6 := Lib.hid hF6
    have HOh := Lib.hid (hOa.h.apart_ hOa.c (by decide) hgr6)
    have HOo := Lib.hid (hOa.o.apart_ hOa.c (by decide) hgr6)
    clear how6 hgr6 hat6 hX6 hB6 hF6 hOa hQ6 hNQ
    refine hK.out _ _ ?_ (fun hHeld => ?_)
    ·
     exact ⟨f3, e0, e1, e2, e3, e4, e5, e6⟩
    clear hK K
    ((try simp only [Act.put]); (try simp only [List.setIfInBounds_toArray]); (repeat (first | simp only [List.set_cons_succ] | simp only [List.set_cons_zero])))
    refine wpAnyH_take (i := 29) (v := ?v78) rfl (by kernel_rfl) (by kernel_rfl) (by kernel_rfl) (fun _ _ _ h => h) (Or.inl ⟨by rfl, ?hy78⟩) (by assumption) ?rest78
    case hy78 => (intro w hSw; (try dsimp only at hSw); go_simp; (try with_reducible rfl))
    ((try simp only [Act.put]); (try simp only [List.setIfInBounds_toArray]); (repeat (first | simp only [List.set_cons_succ] | simp only [List.set_cons_zero])))
    refine wpAnyH_take (i := 30) (v := ?v79) rfl (by kernel_rfl) (by kernel_rfl) (by kernel_rfl) (fun _ _ _ h => h) (Or.inl ⟨by rfl, ?hy79⟩) (by assumption) ?rest79
    case hy79 => (intro w hSw; (try dsimp only at hSw); go_simp; (try with_reducible rfl))
    ((try simp only [Act.put]); (try simp only [List.setIfInBounds_toArray]); (repeat (first | simp only [List.set_cons_succ] | simp only [List.set_cons_zero])))
    refine wpAnyH_done (by kernel_rfl) ?_ _
    intro KK hKK
    go_simp
    refine hKK _ _ (NoPanic.normal ?_)
    go_wp2_with fail
    go_ret
    refine PartP.yes HY.out (A1 := some ⟨g2, 0, none⟩) (A2 := A2) (A3 := A3) (p1 := cap2) (p2 := p2) (p3 := p3) ?_ ?_ ?_ ?_
    ·
     unfold BoxB
     dsimp only
     rw [List.length_append]
     exact (zyk HX6.out _).2.2.2.1
    ·
     exact ⟨by dsimp only; rw [List.length_append, List.map_append]; exact HR6.out.aside HX6.out (by decide) _, HOh.out.aside HX6.out (by decide) _, HOo.out.aside HX6.out (by decide) _⟩
    ·
     exact zvj HB6.out hBX _
    ·
     exact HF6.out.set HX6.out (by decide) _
   exact AllReadyH.nil
  exact AllReadyH.nil
 ·
  have hlt' : decide ((b.cs.length : Int) < 20) = false := decide_eq_false (by omega)
  have t5 : ((l.length : Int) == 7) = true := by rw [beq_iff_eq]; omega
  have HN := Lib.hid (show partI b t.data.toList = none by
   rw [HOK.out]
   simp [wordI, zyi, ztm, ztj, zti, hlt])
  go_wp2_with fail
  go_ret
  exact PartP.no HN.out HB.out HF.out
end Go.Proofs.YtcjbjpobpefehaaGreatDoor
namespace Go.Proofs.YtcjbjpobpefehaaGreatDoor
open Go.RowKit Go.Deep
set_option maxRecDepth 100000 in
set_option maxHeartbeats 4000000 in
theorem i_textPart_book_n8 (X B : Nat) (b : Bk) (A1 A2 A3 : Option Addr) (p1 p2 p3 : Nat) (t : ByteArray) (w : World) (hld : Le w) (hs : t.size ≤ 1048576) (hX : BoxB w X b A1 A2 A3 p1 p2 p3) (hO : OwB w B b A1 A2 A3 p1 p2 p3) (hBX : B ≤ X) (hl : b.cs.length ≤ 20 ∧ b.hs.length ≤ 60 ∧ b.os.length ≤ 20) (l : List (List UInt8)) (hP : parts 32 t.data.toList = bookW :: l) (hm : l.length = 7) :
  Calls Tryz.prog 27 #[.pointer (some ⟨X, 0, none⟩), .string t] w (PartP X B b t.data.toList w) := by
 have hl1 := hl.1
 have hl2 := hl.2.1
 have hl3 := hl.2.2
 clear hl
 have HLD := Lib.hid hld
 have hXl : X < w.heap.size := hX.lt
 have hBw : B ≤ w.heap.size := by omega
 have HX := Lib.hid hX
 have HO := Lib.hid hO
 have HC := Lib.hid (zvh t 32 w hld.toLd (by omega))
 have hz : t.data.toList.length = t.size := Array.length_toList
 have hsub := zji 32 t.data.toList
 have hpl := zjn 32 t.data.toList
 rw [hP] at hsub hpl
 have HSZ := Lib.hid (show ∀ x ∈ l, x.length ≤ 1048576 from fun x hx => by have := hsub x (by simp [hx]); omega)
 simp only [List.length_cons] at hpl
 have hll : l.length ≤ 1048577 := by omega
 have hcut : cutI (bookW :: l) = bookW :: l := if_neg (by rintro ⟨k1, k2⟩; exact absurd (show bookW = htlcW from k2) (by decide))
 have hkept : keptI (bookW :: l) = false := by
  unfold keptI
  rw [show ((bookW :: l).headD [] == htlcW) = false from (show (bookW == htlcW) = false by decide)]; simp
 have HPI := Lib.hid (show partI b t.data.toList = if l.all numOk = false then none else wordI b bookW l false by
  unfold partI
  rw [hP, hcut, hkept]
  rfl)
 rw [hP] at HC
 clear hP hsub hpl hz hcut hkept hld hX hO
 go_enter Tryz.func27, Tryz.ntmps27
 go_wp2_with fail
 refine HC.out.mono ?_
 rintro e w1 ⟨rfl, how1, hb1⟩
 have z1 := hb1.size
 have hX1 := zqf hb1 hXl HX.out
 have HO1 := Lib.hid (HO.out.below hb1)
 obtain ⟨b0, off0, e0, hbB, c0⟩ := zkb how1.rd (k := 0) (by simp)
 simp only [Option.some.injEq, Addr.mk.injEq, and_true] at e0
 obtain ⟨rfl, rfl⟩ := e0
 simp only [List.getElem_cons_zero, Nat.add_zero] at c0
 have HR1 := Lib.hid (zka how1.rd)
 have hN : (bookW :: l).length = l.length + 1 := rfl
 rw [hN]
 obtain ⟨m, hm⟩ : ∃ m, l.length = m := ⟨_, rfl⟩
 have HML := Lib.hid hm
 obtain rfl : m = 7 := by omega
 rw [hm]
 have HX1 := Lib.hid hX1
 have hbA : Below w.heap.size w w1 := hb1
 clear hN hm how1 hll hX1 hb1
 go_wp2_with fail
 have e7 : (7 : Nat) = l.length := HML.out.symm
 rw [e7]
 clear e7
 refine (zjf l _ _ _ (HLD.out.below hbA) (by rw [HML.out]; omega) HSZ.out HR1.out).mono ?_
 rintro e w2 ⟨hnum, hb2⟩
 have z2 := hb2.size
 have hX2 := zqf hb2 (Nat.lt_of_lt_of_le hXl z1) HX1.out
 have HO2 := Lib.hid (HO1.out.below hb2)
 have c0 := (hb2.cell (p := ⟨w.heap.size, 0, none⟩) hbB).trans c0
 have hbB2 : Below w.heap.size w w2 := bl_
 have HB := Lib.hid (hbB2.mono hBw)
 have HF := Lib.hid (Fr.of_below (ts := bkTs) hbB2)
 obtain ⟨_, a0, a1, a2, a3, a4, a5, af, az⟩ := own6 (g := X) (Below.refl _ w2) (gz_ hX2).1 hX2
 have HX2 := Lib.hid hX2
 rcases hnum with ⟨hok, AQ, capQ, rfl, how2⟩ | ⟨hno, rfl⟩
 rotate_left
 ·
  have HNo := Lib.hid (show partI b t.data.toList = none by rw [HPI.out, if_pos hno])
  clear hno hX2
  go_wp2_with fail
  go_ret
  exact PartP.no HNo.out HB.out HF.out
 have HOK := Lib.hid (show partI b t.data.toList = wordI b bookW l false by rw [HPI.out, if_neg (by rw [hok]; simp)])
 have HW2 := Lib.hid how2
 clear hok hX2 how2 HX1 HO1 HPI hb2 hbA hbB2
 have t3 : ((l.length : Int) == 3) = false := by rw [HML.out]; rfl
 have HN := Lib.hid (show partI b t.data.toList = none by
  rw [HOK.out]
  simp [wordI, ne_book_chan, zmb, ztk, ne_book_over, HML.out])
 go_wp2_with fail
 go_ret
 exact PartP.no HN.out HB.out HF.out
set_option maxRecDepth 100000 in
set_option maxHeartbeats 4000000 in
theorem i_textPart_circ_n8 (X B : Nat) (b : Bk) (A1 A2 A3 : Option Addr) (p1 p2 p3 : Nat) (t : ByteArray) (w : World) (hld : Le w) (hs : t.size ≤ 1048576) (hX : BoxB w X b A1 A2 A3 p1 p2 p3) (hO : OwB w B b A1 A2 A3 p1 p2 p3) (hBX : B ≤ X) (hl : b.cs.length ≤ 20 ∧ b.hs.length ≤ 60 ∧ b.os.length ≤ 20) (l : List (List UInt8)) (hP : parts 32 t.data.toList = circW :: l) (hm : l.length = 7) :
  Calls Tryz.prog 27 #[.pointer (some ⟨X, 0, none⟩), .string t] w (PartP X B b t.data.toList w) := by
 have hl1 := hl.1
 have hl2 := hl.2.1
 have hl3 := hl.2.2
 clear hl
 have HLD := Lib.hid hld
 have hXl : X < w.heap.size := hX.lt
 have hBw : B ≤ w.heap.size := by omega
 have HX := Lib.hid hX
 have HO := Lib.hid hO
 have HC := Lib.hid (zvh t 32 w hld.toLd (by omega))
 have hz : t.data.toList.length = t.size := Array.length_toList
 have hsub := zji 32 t.data.toList
 have hpl := zjn 32 t.data.toList
 rw [hP] at hsub hpl
 have HSZ := Lib.hid (show ∀ x ∈ l, x.length ≤ 1048576 from fun x hx => by have := hsub x (by simp [hx]); omega)
 simp only [List.length_cons] at hpl
 have hll : l.length ≤ 1048577 := by omega
 have hcut : cutI (circW :: l) = circW :: l := if_neg (by rintro ⟨k1, k2⟩; exact absurd (show circW = htlcW from k2) (by decide))
 have hkept : keptI (circW :: l) = false := by
  unfold keptI
  rw [show ((circW :: l).headD [] == htlcW) = false from (show (circW == htlcW) = false by decide)]; simp
 have HPI := Lib.hid (show partI b t.data.toList = if l.all numOk = false then none else wordI b circW l false by
  unfold partI
  rw [hP, hcut, hkept]
  rfl)
 rw [hP] at HC
 clear hP hsub hpl hz hcut hkept hld hX hO
 go_enter Tryz.func27, Tryz.ntmps27
 go_wp2_with fail
 refine HC.out.mono ?_
 rintro e w1 ⟨rfl, how1, hb1⟩
 have z1 := hb1.size
 have hX1 := zqf hb1 hXl HX.out
 have HO1 := Lib.hid (HO.out.below hb1)
 obtain ⟨b0, off0, e0, hbB, c0⟩ := zkb how1.rd (k := 0) (by simp)
 simp only [Option.some.injEq, Addr.mk.injEq, and_true] at e0
 obtain ⟨rfl, rfl⟩ := e0
 simp only [List.getElem_cons_zero, Nat.add_zero] at c0
 have HR1 := Lib.hid (zka how1.rd)
 have hN : (circW :: l).length = l.length + 1 := rfl
 rw [hN]
 obtain ⟨m, hm⟩ : ∃ m, l.length = m := ⟨_, rfl⟩
 have HML := Lib.hid hm
 obtain rfl : m = 7 := by omega
 rw [hm]
 have HX1 := Lib.hid hX1
 have hbA : Below w.heap.size w w1 := hb1
 clear hN hm how1 hll hX1 hb1
 go_wp2_with fail
 have e7 : (7 : Nat) = l.length := HML.out.symm
 rw [e7]
 clear e7
 refine (zjf l _ _ _ (HLD.out.below hbA) (by rw [HML.out]; omega) HSZ.out HR1.out).mono ?_
 rintro e w2 ⟨hnum, hb2⟩
 have z2 := hb2.size
 have hX2 := zqf hb2 (Nat.lt_of_lt_of_le hXl z1) HX1.out
 have HO2 := Lib.hid (HO1.out.below hb2)
 have c0 := (hb2.cell (p := ⟨w.heap.size, 0, none⟩) hbB).trans c0
 have hbB2 : Below w.heap.size w w2 := bl_
 have HB := Lib.hid (hbB2.mono hBw)
 have HF := Lib.hid (Fr.of_below (ts := bkTs) hbB2)
 obtain ⟨_, a0, a1, a2, a3, a4, a5, af, az⟩ := own6 (g := X) (Below.refl _ w2) (gz_ hX2).1 hX2
 have HX2 := Lib.hid hX2
 rcases hnum with ⟨hok, AQ, capQ, rfl, how2⟩ | ⟨hno, rfl⟩
 rotate_left
 ·
  have HNo := Lib.hid (show partI b t.data.toList = none by rw [HPI.out, if_pos hno])
  clear hno hX2
  go_wp2_with fail
  go_ret
  exact PartP.no HNo.out HB.out HF.out
 have HOK := Lib.hid (show partI b t.data.toList = wordI b circW l false by rw [HPI.out, if_neg (by rw [hok]; simp)])
 have HW2 := Lib.hid how2
 clear hok hX2 how2 HX1 HO1 HPI hb2 hbA hbB2
 have t5 : ((l.length : Int) == 5) = false := by rw [HML.out]; rfl
 have HN := Lib.hid (show partI b t.data.toList = none by
  rw [HOK.out]
  simp [wordI, zhk, zhj, zhi, zyg, HML.out])
 go_wp2_with fail
 go_ret
 exact PartP.no HN.out HB.out HF.out
set_option maxRecDepth 100000 in
set_option maxHeartbeats 4000000 in
theorem i_textPart_over_n8 (X B : Nat) (b : Bk) (A1 A2 A3 : Option Addr) (p1 p2 p3 : Nat) (t : ByteArray) (w : World) (hld : Le w) (hs : t.size ≤ 1048576) (hX : BoxB w X b A1 A2 A3 p1 p2 p3) (hO : OwB w B b A1 A2 A3 p1 p2 p3) (hBX : B ≤ X) (hl : b.cs.length ≤ 20 ∧ b.hs.length ≤ 60 ∧ b.os.length ≤ 20) (l : List (List UInt8)) (hP : parts 32 t.data.toList = overW :: l) (hm : l.length = 7) :
  Calls Tryz.prog 27 #[.pointer (some ⟨X, 0, none⟩), .string t] w (PartP X B b t.data.toList w) := by
 have hl1 := hl.1
 have hl2 := hl.2.1
 have hl3 := hl.2.2
 clear hl
 have HLD := Lib.hid hld
 have hXl : X < w.heap.size := hX.lt
 have hBw : B ≤ w.heap.size := by omega
 have HX := Lib.hid hX
 have HO := Lib.hid hO
 have HC := Lib.hid (zvh t 32 w hld.toLd (by omega))
 have hz : t.data.toList.length = t.size := Array.length_toList
 have hsub := zji 32 t.data.toList
 have hpl := zjn 32 t.data.toList
 rw [hP] at hsub hpl
 have HSZ := Lib.hid (show ∀ x ∈ l, x.length ≤ 1048576 from fun x hx => by have := hsub x (by simp [hx]); omega)
 simp only [List.length_cons] at hpl
 have hll : l.length ≤ 1048577 := by omega
 have hcut : cutI (overW :: l) = overW :: l := if_neg (by rintro ⟨k1, k2⟩; exact absurd (show overW = htlcW from k2) (by decide))
 have hkept : keptI (overW :: l) = false := by
  unfold keptI
  rw [show ((overW :: l).headD [] == htlcW) = false from (show (overW == htlcW) = false by decide)]; simp
 have HPI := Lib.hid (show partI b t.data.toList = if l.all numOk = false then none else wordI b overW l false by
  unfold partI
  rw [hP, hcut, hkept]
  rfl)
 rw [hP] at HC
 clear hP hsub hpl hz hcut hkept hld hX hO
 go_enter Tryz.func27, Tryz.ntmps27
 go_wp2_with fail
 refine HC.out.mono ?_
 rintro e w1 ⟨rfl, how1, hb1⟩
 have z1 := hb1.size
 have hX1 := zqf hb1 hXl HX.out
 have HO1 := Lib.hid (HO.out.below hb1)
 obtain ⟨b0, off0, e0, hbB, c0⟩ := zkb how1.rd (k := 0) (by simp)
 simp only [Option.some.injEq, Addr.mk.injEq, and_true] at e0
 obtain ⟨rfl, rfl⟩ := e0
 simp only [List.getElem_cons_zero, Nat.add_zero] at c0
 have HR1 := Lib.hid (zka how1.rd)
 have hN : (overW :: l).length = l.length + 1 := rfl
 rw [hN]
 obtain ⟨m, hm⟩ : ∃ m, l.length = m := ⟨_, rfl⟩
 have HML := Lib.hid hm
 obtain rfl : m = 7 := by omega
 rw [hm]
 have HX1 := Lib.hid hX1
 have hbA : Below w.heap.size w w1 := hb1
 clear hN hm how1 hll hX1 hb1
 go_wp2_with fail
 have e7 : (7 : Nat) = l.length := HML.out.symm
 rw [e7]
 clear e7
 refine (zjf l _ _ _ (HLD.out.below hbA) (by rw [HML.out]; omega) HSZ.out HR1.out).mono ?_
 rintro e w2 ⟨hnum, hb2⟩
 have z2 := hb2.size
 have hX2 := zqf hb2 (Nat.lt_of_lt_of_le hXl z1) HX1.out
 have HO2 := Lib.hid (HO1.out.below hb2)
 have c0 := (hb2.cell (p := ⟨w.heap.size, 0, none⟩) hbB).trans c0
 have hbB2 : Below w.heap.size w w2 := bl_
 have HB := Lib.hid (hbB2.mono hBw)
 have HF := Lib.hid (Fr.of_below (ts := bkTs) hbB2)
 obtain ⟨_, a0, a1, a2, a3, a4, a5, af, az⟩ := own6 (g := X) (Below.refl _ w2) (gz_ hX2).1 hX2
 have HX2 := Lib.hid hX2
 rcases hnum with ⟨hok, AQ, capQ, rfl, how2⟩ | ⟨hno, rfl⟩
 rotate_left
 ·
  have HNo := Lib.hid (show partI b t.data.toList = none by rw [HPI.out, if_pos hno])
  clear hno hX2
  go_wp2_with fail
  go_ret
  exact PartP.no HNo.out HB.out HF.out
 have HOK := Lib.hid (show partI b t.data.toList = wordI b overW l false by rw [HPI.out, if_neg (by rw [hok]; simp)])
 have HW2 := Lib.hid how2
 clear hok hX2 how2 HX1 HO1 HPI hb2 hbA hbB2
 have t0 : ((l.length : Int) == 0) = false := by rw [HML.out]; rfl
 have HN := Lib.hid (show partI b t.data.toList = none by
  rw [HOK.out]
  simp [wordI, ne_over_book, ne_over_chan, ne_over_htlc, ne_over_circ, HML.out])
 go_wp2_with fail
 go_ret
 exact PartP.no HN.out HB.out HF.out
set_option maxRecDepth 100000 in
set_option maxHeartbeats 4000000 in
theorem i_textPart_other_n8 (X B : Nat) (b : Bk) (A1 A2 A3 : Option Addr) (p1 p2 p3 : Nat) (t : ByteArray) (w : World) (hld : Le w) (hs : t.size ≤ 1048576) (hX : BoxB w X b A1 A2 A3 p1 p2 p3) (hO : OwB w B b A1 A2 A3 p1 p2 p3) (hBX : B ≤ X) (hl : b.cs.length ≤ 20 ∧ b.hs.length ≤ 60 ∧ b.os.length ≤ 20) (h : List UInt8) (l : List (List UInt8)) (hP : parts 32 t.data.toList = h :: l) (nbook : h ≠ bookW) (nchan : h ≠ chanW) (nhtlc : h ≠ htlcW) (ncirc : h ≠ circW) (nover : h ≠ overW) (hm : l.length = 7) :
  Calls Tryz.prog 27 #[.pointer (some ⟨X, 0, none⟩), .string t] w (PartP X B b t.data.toList w) := by
 have hl1 := hl.1
 have hl2 := hl.2.1
 have hl3 := hl.2.2
 clear hl
 have HLD := Lib.hid hld
 have hXl : X < w.heap.size := hX.lt
 have hBw : B ≤ w.heap.size := by omega
 have HX := Lib.hid hX
 have HO := Lib.hid hO
 have HC := Lib.hid (zvh t 32 w hld.toLd (by omega))
 have hz : t.data.toList.length = t.size := Array.length_toList
 have hsub := zji 32 t.data.toList
 have hpl := zjn 32 t.data.toList
 rw [hP] at hsub hpl
 have HSZ := Lib.hid (show ∀ x ∈ l, x.length ≤ 1048576 from fun x hx => by have := hsub x (by simp [hx]); omega)
 simp only [List.length_cons] at hpl
 have hll : l.length ≤ 1048577 := by omega
 have hcut : cutI (h :: l) = h :: l := if_neg (by rintro ⟨k1, k2⟩; exact nhtlc k2)
 have hkept : keptI (h :: l) = false := by
  unfold keptI
  rw [show ((h :: l).headD [] == htlcW) = false from beq_eq_false_iff_ne.2 nhtlc]; simp
 have HPI := Lib.hid (show partI b t.data.toList = if l.all numOk = false then none else wordI b h l false by
  unfold partI
  rw [hP, hcut, hkept]
  rfl)
 rw [hP] at HC
 obtain ⟨x0, hx0', hx0⟩ := zhb h
 clear hP hsub hpl hz hcut hkept hld hX hO
 go_enter Tryz.func27, Tryz.ntmps27
 go_wp2_with fail
 refine HC.out.mono ?_
 rintro e w1 ⟨rfl, how1, hb1⟩
 have z1 := hb1.size
 have hX1 := zqf hb1 hXl HX.out
 have HO1 := Lib.hid (HO.out.below hb1)
 obtain ⟨b0, off0, e0, hbB, c0⟩ := zkb how1.rd (k := 0) (by simp)
 simp only [Option.some.injEq, Addr.mk.injEq, and_true] at e0
 obtain ⟨rfl, rfl⟩ := e0
 simp only [List.getElem_cons_zero, Nat.add_zero] at c0
 rw [hx0'] at c0
 have HR1 := Lib.hid (zka how1.rd)
 have hN : (h :: l).length = l.length + 1 := rfl
 rw [hN]
 obtain ⟨m, hm⟩ : ∃ m, l.length = m := ⟨_, rfl⟩
 have HML := Lib.hid hm
 obtain rfl : m = 7 := by omega
 rw [hm]
 have HX1 := Lib.hid hX1
 have hbA : Below w.heap.size w w1 := hb1
 clear hN hm how1 hll hX1 hb1
 have qbook : ¬ x0.toList = [98, 111, 111, 107] := fun e => nbook (hx0.out.data.symm.trans ((Lib.toList_data x0).symm.trans e))
 have qbbook : (x0.toList == [98, 111, 111, 107]) = false := beq_eq_false_iff_ne.2 qbook
 have qchan : ¬ x0.toList = [99, 104, 97, 110] := fun e => nchan (hx0.out.data.symm.trans ((Lib.toList_data x0).symm.trans e))
 have qbchan : (x0.toList == [99, 104, 97, 110]) = false := beq_eq_false_iff_ne.2 qchan
 have qhtlc : ¬ x0.toList = [104, 116, 108, 99] := fun e => nhtlc (hx0.out.data.symm.trans ((Lib.toList_data x0).symm.trans e))
 have qbhtlc : (x0.toList == [104, 116, 108, 99]) = false := beq_eq_false_iff_ne.2 qhtlc
 have qcirc : ¬ x0.toList = [99, 105, 114, 99, 108, 101] := fun e => ncirc (hx0.out.data.symm.trans ((Lib.toList_data x0).symm.trans e))
 have qbcirc : (x0.toList == [99, 105, 114, 99, 108, 101]) = false := beq_eq_false_iff_ne.2 qcirc
 have qover : ¬ x0.toList = [111, 118, 101, 114] := fun e => nover (hx0.out.data.symm.trans ((Lib.toList_data x0).symm.trans e))
 have qbover : (x0.toList == [111, 118, 101, 114]) = false := beq_eq_false_iff_ne.2 qover
 go_wp2_with fail
 have e7 : (7 : Nat) = l.length := HML.out.symm
 rw [e7]
 clear e7
 refine (zjf l _ _ _ (HLD.out.below hbA) (by rw [HML.out]; omega) HSZ.out HR1.out).mono ?_
 rintro e w2 ⟨hnum, hb2⟩
 have z2 := hb2.size
 have hX2 := zqf hb2 (Nat.lt_of_lt_of_le hXl z1) HX1.out
 have HO2 := Lib.hid (HO1.out.below hb2)
 have c0 := (hb2.cell (p := ⟨w.heap.size, 0, none⟩) hbB).trans c0
 have hbB2 : Below w.heap.size w w2 := bl_
 have HB := Lib.hid (hbB2.mono hBw)
 have HF := Lib.hid (Fr.of_below (ts := bkTs) hbB2)
 obtain ⟨_, a0, a1, a2, a3, a4, a5, af, az⟩ := own6 (g := X) (Below.refl _ w2) (gz_ hX2).1 hX2
 have HX2 := Lib.hid hX2
 rcases hnum with ⟨hok, AQ, capQ, rfl, how2⟩ | ⟨hno, rfl⟩
 rotate_left
 ·
  have HNo := Lib.hid (show partI b t.data.toList = none by rw [HPI.out, if_pos hno])
  clear hno hX2
  go_wp2_with fail
  go_ret
  exact PartP.no HNo.out HB.out HF.out
 have HOK := Lib.hid (show partI b t.data.toList = wordI b h l false by rw [HPI.out, if_neg (by rw [hok]; simp)])
 have HW2 := Lib.hid how2
 clear hok hX2 how2 HX1 HO1 HPI hb2 hbA hbB2
 have HN := Lib.hid (show partI b t.data.toList = none by
  rw [HOK.out]
  simp [wordI, nbook, nchan, nhtlc, ncirc, nover])
 go_wp2_with fail
 go_ret
 exact PartP.no HN.out HB.out HF.out
end Go.Proofs.YtcjbjpobpefehaaGreatDoor
