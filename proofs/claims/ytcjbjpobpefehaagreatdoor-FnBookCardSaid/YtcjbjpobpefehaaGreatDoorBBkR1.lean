/- A line of a book read by the program: one word. -/
import Derived.Test.YtcjbjpobpefehaaGreatDoorRows
import Derived.Test.YtcjbjpobpefehaaGreatDoorBBkRp
import Derived.Deep.RegionHeld3
namespace Go.Proofs.YtcjbjpobpefehaaGreatDoor
open Go.RowKit Go.Deep
set_option maxRecDepth 100000 in
set_option maxHeartbeats 4000000 in
theorem i_textPart_book_n1 (X B : Nat) (b : Bk) (A1 A2 A3 : Option Addr) (p1 p2 p3 : Nat) (t : ByteArray) (w : World) (hld : Le w) (hs : t.size ≤ 1048576) (hX : BoxB w X b A1 A2 A3 p1 p2 p3) (hO : OwB w B b A1 A2 A3 p1 p2 p3) (hBX : B ≤ X) (hl : b.cs.length ≤ 20 ∧ b.hs.length ≤ 60 ∧ b.os.length ≤ 20) (l : List (List UInt8)) (hP : parts 32 t.data.toList = bookW :: l) (hm : l.length = 0) :
  Calls Tryz.prog 27 #[.pointer (some ⟨X, 0, none⟩), .string t] w (PartP X B b t.data.toList w) := by
 have hl1 := hl.1
 have hl2 := hl.2.1
 have hl3 := hl.2.2
 clear hl
 have HLD := Lib.hid hld
 have hXl : X < w.heap.size := hX.lt
 have hBw : B ≤ w.heap.size := by omega
 have HX := Lib.hid hX
 have HO := Lib.hid hO
 have HC := Lib.hid (zvh t 32 w hld.toLd (by omega))
 have hz : t.data.toList.length = t.size := Array.length_toList
 have hsub := zji 32 t.data.toList
 have hpl := zjn 32 t.data.toList
 rw [hP] at hsub hpl
 have HSZ := Lib.hid (show ∀ x ∈ l, x.length ≤ 1048576 from fun x hx => by have := hsub x (by simp [hx]); omega)
 simp only [List.length_cons] at hpl
 have hll : l.length ≤ 1048577 := by omega
 have hcut : cutI (bookW :: l) = bookW :: l := if_neg (by rintro ⟨k1, k2⟩; simp at k1; omega)
 have hkept : keptI (bookW :: l) = false := by
  unfold keptI
  rw [decide_eq_false (by simp; omega)]; rfl
 have HPI := Lib.hid (show partI b t.data.toList = if l.all numOk = false then none else wordI b bookW l false by
  unfold partI
  rw [hP, hcut, hkept]
  rfl)
 rw [hP] at HC
 clear hP hsub hpl hz hcut hkept hld hX hO
 go_enter Tryz.func27, Tryz.ntmps27
 go_wp2_with fail
 refine HC.out.mono ?_
 rintro e w1 ⟨rfl, how1, hb1⟩
 have z1 := hb1.size
 have hX1 := zqf hb1 hXl HX.out
 have HO1 := Lib.hid (HO.out.below hb1)
 obtain ⟨b0, off0, e0, hbB, c0⟩ := zkb how1.rd (k := 0) (by simp)
 simp only [Option.some.injEq, Addr.mk.injEq, and_true] at e0
 obtain ⟨rfl, rfl⟩ := e0
 simp only [List.getElem_cons_zero, Nat.add_zero] at c0
 have HR1 := Lib.hid (zka how1.rd)
 have hN : (bookW :: l).length = l.length + 1 := rfl
 rw [hN]
 obtain ⟨m, hm⟩ : ∃ m, l.length = m := ⟨_, rfl⟩
 have HML := Lib.hid hm
 obtain rfl : m = 0 := by omega
 rw [hm]
 have HX1 := Lib.hid hX1
 have hbA : Below w.heap.size w w1 := hb1
 clear hN hm how1 hll hX1 hb1
 go_wp2_with fail
 have e7 : (0 : Nat) = l.length := HML.out.symm
 rw [e7]
 clear e7
 refine (zjf l _ _ _ (HLD.out.below hbA) (by rw [HML.out]; omega) HSZ.out (by have := List.eq_nil_of_length_eq_zero HML.out; subst this; exact Rd.nil_)).mono ?_
 rintro e w2 ⟨hnum, hb2⟩
 have z2 := hb2.size
 have hX2 := zqf hb2 (Nat.lt_of_lt_of_le hXl z1) HX1.out
 have HO2 := Lib.hid (HO1.out.below hb2)
 have c0 := (hb2.cell (p := ⟨w.heap.size, 0, none⟩) hbB).trans c0
 have hbB2 : Below w.heap.size w w2 := bl_
 have HB := Lib.hid (hbB2.mono hBw)
 have HF := Lib.hid (Fr.of_below (ts := bkTs) hbB2)
 obtain ⟨_, a0, a1, a2, a3, a4, a5, af, az⟩ := own6 (g := X) (Below.refl _ w2) (gz_ hX2).1 hX2
 have HX2 := Lib.hid hX2
 rcases hnum with ⟨hok, AQ, capQ, rfl, how2⟩ | ⟨hno, rfl⟩
 rotate_left
 ·
  have HNo := Lib.hid (show partI b t.data.toList = none by rw [HPI.out, if_pos hno])
  clear hno hX2
  go_wp2_with fail
  go_ret
  exact PartP.no HNo.out HB.out HF.out
 have HOK := Lib.hid (show partI b t.data.toList = wordI b bookW l false by rw [HPI.out, if_neg (by rw [hok]; simp)])
 have HW2 := Lib.hid how2
 clear hok hX2 how2 HX1 HO1 HPI hb2 hbA hbB2
 have t3 : ((l.length : Int) == 3) = false := by rw [HML.out]; rfl
 have HN := Lib.hid (show partI b t.data.toList = none by
  rw [HOK.out]
  simp [wordI, ne_book_chan, zmb, ztk, ne_book_over, HML.out])
 go_wp2_with fail
 go_ret
 exact PartP.no HN.out HB.out HF.out
set_option maxRecDepth 100000 in
set_option maxHeartbeats 4000000 in
theorem i_textPart_chan_n1 (X B : Nat) (b : Bk) (A1 A2 A3 : Option Addr) (p1 p2 p3 : Nat) (t : ByteArray) (w : World) (hld : Le w) (hs : t.size ≤ 1048576) (hX : BoxB w X b A1 A2 A3 p1 p2 p3) (hO : OwB w B b A1 A2 A3 p1 p2 p3) (hBX : B ≤ X) (hl : b.cs.length ≤ 20 ∧ b.hs.length ≤ 60 ∧ b.os.length ≤ 20) (l : List (List UInt8)) (hP : parts 32 t.data.toList = chanW :: l) (hm : l.length = 0) :
  Calls Tryz.prog 27 #[.pointer (some ⟨X, 0, none⟩), .string t] w (PartP X B b t.data.toList w) := by
 have hl1 := hl.1
 have hl2 := hl.2.1
 have hl3 := hl.2.2
 clear hl
 have HLD := Lib.hid hld
 have hXl : X < w.heap.size := hX.lt
 have hBw : B ≤ w.heap.size := by omega
 have HX := Lib.hid hX
 have HO := Lib.hid hO
 have HC := Lib.hid (zvh t 32 w hld.toLd (by omega))
 have hz : t.data.toList.length = t.size := Array.length_toList
 have hsub := zji 32 t.data.toList
 have hpl := zjn 32 t.data.toList
 rw [hP] at hsub hpl
 have HSZ := Lib.hid (show ∀ x ∈ l, x.length ≤ 1048576 from fun x hx => by have := hsub x (by simp [hx]); omega)
 simp only [List.length_cons] at hpl
 have hll : l.length ≤ 1048577 := by omega
 have hcut : cutI (chanW :: l) = chanW :: l := if_neg (by rintro ⟨k1, k2⟩; simp at k1; omega)
 have hkept : keptI (chanW :: l) = false := by
  unfold keptI
  rw [decide_eq_false (by simp; omega)]; rfl
 have HPI := Lib.hid (show partI b t.data.toList = if l.all numOk = false then none else wordI b chanW l false by
  unfold partI
  rw [hP, hcut, hkept]
  rfl)
 rw [hP] at HC
 clear hP hsub hpl hz hcut hkept hld hX hO
 go_enter Tryz.func27, Tryz.ntmps27
 go_wp2_with fail
 refine HC.out.mono ?_
 rintro e w1 ⟨rfl, how1, hb1⟩
 have z1 := hb1.size
 have hX1 := zqf hb1 hXl HX.out
 have HO1 := Lib.hid (HO.out.below hb1)
 obtain ⟨b0, off0, e0, hbB, c0⟩ := zkb how1.rd (k := 0) (by simp)
 simp only [Option.some.injEq, Addr.mk.injEq, and_true] at e0
 obtain ⟨rfl, rfl⟩ := e0
 simp only [List.getElem_cons_zero, Nat.add_zero] at c0
 have HR1 := Lib.hid (zka how1.rd)
 have hN : (chanW :: l).length = l.length + 1 := rfl
 rw [hN]
 obtain ⟨m, hm⟩ : ∃ m, l.length = m := ⟨_, rfl⟩
 have HML := Lib.hid hm
 obtain rfl : m = 0 := by omega
 rw [hm]
 have HX1 := Lib.hid hX1
 have hbA : Below w.heap.size w w1 := hb1
 clear hN hm how1 hll hX1 hb1
 go_wp2_with fail
 have e7 : (0 : Nat) = l.length := HML.out.symm
 rw [e7]
 clear e7
 refine (zjf l _ _ _ (HLD.out.below hbA) (by rw [HML.out]; omega) HSZ.out (by have := List.eq_nil_of_length_eq_zero HML.out; subst this; exact Rd.nil_)).mono ?_
 rintro e w2 ⟨hnum, hb2⟩
 have z2 := hb2.size
 have hX2 := zqf hb2 (Nat.lt_of_lt_of_le hXl z1) HX1.out
 have HO2 := Lib.hid (HO1.out.below hb2)
 have c0 := (hb2.cell (p := ⟨w.heap.size, 0, none⟩) hbB).trans c0
 have hbB2 : Below w.heap.size w w2 := bl_
 have HB := Lib.hid (hbB2.mono hBw)
 have HF := Lib.hid (Fr.of_below (ts := bkTs) hbB2)
 obtain ⟨_, a0, a1, a2, a3, a4, a5, af, az⟩ := own6 (g := X) (Below.refl _ w2) (gz_ hX2).1 hX2
 have HX2 := Lib.hid hX2
 rcases hnum with ⟨hok, AQ, capQ, rfl, how2⟩ | ⟨hno, rfl⟩
 rotate_left
 ·
  have HNo := Lib.hid (show partI b t.data.toList = none by rw [HPI.out, if_pos hno])
  clear hno hX2
  go_wp2_with fail
  go_ret
  exact PartP.no HNo.out HB.out HF.out
 have HOK := Lib.hid (show partI b t.data.toList = wordI b chanW l false by rw [HPI.out, if_neg (by rw [hok]; simp)])
 have HW2 := Lib.hid how2
 clear hok hX2 how2 HX1 HO1 HPI hb2 hbA hbB2
 have t7 : ((l.length : Int) == 7) = false := by rw [HML.out]; rfl
 have HN := Lib.hid (show partI b t.data.toList = none by
  rw [HOK.out]
  simp [wordI, zyi, ztm, ztj, zti, HML.out])
 go_wp2_with fail
 go_ret
 exact PartP.no HN.out HB.out HF.out
set_option maxRecDepth 100000 in
set_option maxHeartbeats 4000000 in
theorem i_textPart_htlc_n1 (X B : Nat) (b : Bk) (A1 A2 A3 : Option Addr) (p1 p2 p3 : Nat) (t : ByteArray) (w : World) (hld : Le w) (hs : t.size ≤ 1048576) (hX : BoxB w X b A1 A2 A3 p1 p2 p3) (hO : OwB w B b A1 A2 A3 p1 p2 p3) (hBX : B ≤ X) (hl : b.cs.length ≤ 20 ∧ b.hs.length ≤ 60 ∧ b.os.length ≤ 20) (l : List (List UInt8)) (hP : parts 32 t.data.toList = htlcW :: l) (hm : l.length = 0) :
  Calls Tryz.prog 27 #[.pointer (some ⟨X, 0, none⟩), .string t] w (PartP X B b t.data.toList w) := by
 have hl1 := hl.1
 have hl2 := hl.2.1
 have hl3 := hl.2.2
 clear hl
 have HLD := Lib.hid hld
 have hXl : X < w.heap.size := hX.lt
 have hBw : B ≤ w.heap.size := by omega
 have HX := Lib.hid hX
 have HO := Lib.hid hO
 have HC := Lib.hid (zvh t 32 w hld.toLd (by omega))
 have hz : t.data.toList.length = t.size := Array.length_toList
 have hsub := zji 32 t.data.toList
 have hpl := zjn 32 t.data.toList
 rw [hP] at hsub hpl
 have HSZ := Lib.hid (show ∀ x ∈ l, x.length ≤ 1048576 from fun x hx => by have := hsub x (by simp [hx]); omega)
 simp only [List.length_cons] at hpl
 have hll : l.length ≤ 1048577 := by omega
 have hcut : cutI (htlcW :: l) = htlcW :: l := if_neg (by rintro ⟨k1, k2⟩; simp at k1; omega)
 have hkept : keptI (htlcW :: l) = false := by
  unfold keptI
  rw [decide_eq_false (by simp; omega)]; rfl
 have HPI := Lib.hid (show partI b t.data.toList = if l.all numOk = false then none else wordI b htlcW l false by
  unfold partI
  rw [hP, hcut, hkept]
  rfl)
 rw [hP] at HC
 clear hP hsub hpl hz hcut hkept hld hX hO
 go_enter Tryz.func27, Tryz.ntmps27
 go_wp2_with fail
 refine HC.out.mono ?_
 rintro e w1 ⟨rfl, how1, hb1⟩
 have z1 := hb1.size
 have hX1 := zqf hb1 hXl HX.out
 have HO1 := Lib.hid (HO.out.below hb1)
 obtain ⟨b0, off0, e0, hbB, c0⟩ := zkb how1.rd (k := 0) (by simp)
 simp only [Option.some.injEq, Addr.mk.injEq, and_true] at e0
 obtain ⟨rfl, rfl⟩ := e0
 simp only [List.getElem_cons_zero, Nat.add_zero] at c0
 have HR1 := Lib.hid (zka how1.rd)
 have hN : (htlcW :: l).length = l.length + 1 := rfl
 rw [hN]
 obtain ⟨m, hm⟩ : ∃ m, l.length = m := ⟨_, rfl⟩
 have HML := Lib.hid hm
 obtain rfl : m = 0 := by omega
 rw [hm]
 have HX1 := Lib.hid hX1
 have hbA : Below w.heap.size w w1 := hb1
 clear hN hm how1 hll hX1 hb1
 go_wp2_with fail
 have e7 : (0 : Nat) = l.length := HML.out.symm
 rw [e7]
 clear e7
 refine (zjf l _ _ _ (HLD.out.below hbA) (by rw [HML.out]; omega) HSZ.out (by have := List.eq_nil_of_length_eq_zero HML.out; subst this; exact Rd.nil_)).mono ?_
 rintro e w2 ⟨hnum, hb2⟩
 have z2 := hb2.size
 have hX2 := zqf hb2 (Nat.lt_of_lt_of_le hXl z1) HX1.out
 have HO2 := Lib.hid (HO1.out.below hb2)
 have c0 := (hb2.cell (p := ⟨w.heap.size, 0, none⟩) hbB).trans c0
 have hbB2 : Below w.heap.size w w2 := bl_
 have HB := Lib.hid (hbB2.mono hBw)
 have HF := Lib.hid (Fr.of_below (ts := bkTs) hbB2)
 obtain ⟨_, a0, a1, a2, a3, a4, a5, af, az⟩ := own6 (g := X) (Below.refl _ w2) (gz_ hX2).1 hX2
 have HX2 := Lib.hid hX2
 rcases hnum with ⟨hok, AQ, capQ, rfl, how2⟩ | ⟨hno, rfl⟩
 rotate_left
 ·
  have HNo := Lib.hid (show partI b t.data.toList = none by rw [HPI.out, if_pos hno])
  clear hno hX2
  go_wp2_with fail
  go_ret
  exact PartP.no HNo.out HB.out HF.out
 have HOK := Lib.hid (show partI b t.data.toList = wordI b htlcW l false by rw [HPI.out, if_neg (by rw [hok]; simp)])
 have HW2 := Lib.hid how2
 clear hok hX2 how2 HX1 HO1 HPI hb2 hbA hbB2
 have t6 : ((l.length : Int) == 6) = false := by rw [HML.out]; rfl
 have HN := Lib.hid (show partI b t.data.toList = none by
  rw [HOK.out]
  simp [wordI, zkj, zkk, zwa, zwc, HML.out])
 go_wp2_with fail
 go_ret
 exact PartP.no HN.out HB.out HF.out
set_option maxRecDepth 100000 in
set_option maxHeartbeats 4000000 in
theorem i_textPart_circ_n1 (X B : Nat) (b : Bk) (A1 A2 A3 : Option Addr) (p1 p2 p3 : Nat) (t : ByteArray) (w : World) (hld : Le w) (hs : t.size ≤ 1048576) (hX : BoxB w X b A1 A2 A3 p1 p2 p3) (hO : OwB w B b A1 A2 A3 p1 p2 p3) (hBX : B ≤ X) (hl : b.cs.length ≤ 20 ∧ b.hs.length ≤ 60 ∧ b.os.length ≤ 20) (l : List (List UInt8)) (hP : parts 32 t.data.toList = circW :: l) (hm : l.length = 0) :
  Calls Tryz.prog 27 #[.pointer (some ⟨X, 0, none⟩), .string t] w (PartP X B b t.data.toList w) := by
 have hl1 := hl.1
 have hl2 := hl.2.1
 have hl3 := hl.2.2
 clear hl
 have HLD := Lib.hid hld
 have hXl : X < w.heap.size := hX.lt
 have hBw : B ≤ w.heap.size := by omega
 have HX := Lib.hid hX
 have HO := Lib.hid hO
 have HC := Lib.hid (zvh t 32 w hld.toLd (by omega))
 have hz : t.data.toList.length = t.size := Array.length_toList
 have hsub := zji 32 t.data.toList
 have hpl := zjn 32 t.data.toList
 rw [hP] at hsub hpl
 have HSZ := Lib.hid (show ∀ x ∈ l, x.length ≤ 1048576 from fun x hx => by have := hsub x (by simp [hx]); omega)
 simp only [List.length_cons] at hpl
 have hll : l.length ≤ 1048577 := by omega
 have hcut : cutI (circW :: l) = circW :: l := if_neg (by rintro ⟨k1, k2⟩; simp at k1; omega)
 have hkept : keptI (circW :: l) = false := by
  unfold keptI
  rw [decide_eq_false (by simp; omega)]; rfl
 have HPI := Lib.hid (show partI b t.data.toList = if l.all numOk = false then none else wordI b circW l false by
  unfold partI
  rw [hP, hcut, hkept]
  rfl)
 rw [hP] at HC
 clear hP hsub hpl hz hcut hkept hld hX hO
 go_enter Tryz.func27, Tryz.ntmps27
 go_wp2_with fail
 refine HC.out.mono ?_
 rintro e w1 ⟨rfl, how1, hb1⟩
 have z1 := hb1.size
 have hX1 := zqf hb1 hXl HX.out
 have HO1 := Lib.hid (HO.out.below hb1)
 obtain ⟨b0, off0, e0, hbB, c0⟩ := zkb how1.rd (k := 0) (by simp)
 simp only [Option.some.injEq, Addr.mk.injEq, and_true] at e0
 obtain ⟨rfl, rfl⟩ := e0
 simp only [List.getElem_cons_zero, Nat.add_zero] at c0
 have HR1 := Lib.hid (zka how1.rd)
 have hN : (circW :: l).length = l.length + 1 := rfl
 rw [hN]
 obtain ⟨m, hm⟩ : ∃ m, l.length = m := ⟨_, rfl⟩
 have HML := Lib.hid hm
 obtain rfl : m = 0 := by omega
 rw [hm]
 have HX1 := Lib.hid hX1
 have hbA : Below w.heap.size w w1 := hb1
 clear hN hm how1 hll hX1 hb1
 go_wp2_with fail
 have e7 : (0 : Nat) = l.length := HML.out.symm
 rw [e7]
 clear e7
 refine (zjf l _ _ _ (HLD.out.below hbA) (by rw [HML.out]; omega) HSZ.out (by have := List.eq_nil_of_length_eq_zero HML.out; subst this; exact Rd.nil_)).mono ?_
 rintro e w2 ⟨hnum, hb2⟩
 have z2 := hb2.size
 have hX2 := zqf hb2 (Nat.lt_of_lt_of_le hXl z1) HX1.out
 have HO2 := Lib.hid (HO1.out.below hb2)
 have c0 := (hb2.cell (p := ⟨w.heap.size, 0, none⟩) hbB).trans c0
 have hbB2 : Below w.heap.size w w2 := bl_
 have HB := Lib.hid (hbB2.mono hBw)
 have HF := Lib.hid (Fr.of_below (ts := bkTs) hbB2)
 obtain ⟨_, a0, a1, a2, a3, a4, a5, af, az⟩ := own6 (g := X) (Below.refl _ w2) (gz_ hX2).1 hX2
 have HX2 := Lib.hid hX2
 rcases hnum with ⟨hok, AQ, capQ, rfl, how2⟩ | ⟨hno, rfl⟩
 rotate_left
 ·
  have HNo := Lib.hid (show partI b t.data.toList = none by rw [HPI.out, if_pos hno])
  clear hno hX2
  go_wp2_with fail
  go_ret
  exact PartP.no HNo.out HB.out HF.out
 have HOK := Lib.hid (show partI b t.data.toList = wordI b circW l false by rw [HPI.out, if_neg (by rw [hok]; simp)])
 have HW2 := Lib.hid how2
 clear hok hX2 how2 HX1 HO1 HPI hb2 hbA hbB2
 have t5 : ((l.length : Int) == 5) = false := by rw [HML.out]; rfl
 have HN := Lib.hid (show partI b t.data.toList = none by
  rw [HOK.out]
  simp [wordI, zhk, zhj, zhi, zyg, HML.out])
 go_wp2_with fail
 go_ret
 exact PartP.no HN.out HB.out HF.out
set_option maxRecDepth 100000 in
set_option maxHeartbeats 4000000 in
theorem i_textPart_over_n1 (X B : Nat) (b : Bk) (A1 A2 A3 : Option Addr) (p1 p2 p3 : Nat) (t : ByteArray) (w : World) (hld : Le w) (hs : t.size ≤ 1048576) (hX : BoxB w X b A1 A2 A3 p1 p2 p3) (hO : OwB w B b A1 A2 A3 p1 p2 p3) (hBX : B ≤ X) (hl : b.cs.length ≤ 20 ∧ b.hs.length ≤ 60 ∧ b.os.length ≤ 20) (l : List (List UInt8)) (hP : parts 32 t.data.toList = overW :: l) (hm : l.length = 0) :
  Calls Tryz.prog 27 #[.pointer (some ⟨X, 0, none⟩), .string t] w (PartP X B b t.data.toList w) := by
 have hl1 := hl.1
 have hl2 := hl.2.1
 have hl3 := hl.2.2
 clear hl
 have HLD := Lib.hid hld
 have hXl : X < w.heap.size := hX.lt
 have hBw : B ≤ w.heap.size := by omega
 have HX := Lib.hid hX
 have HO := Lib.hid hO
 have HC := Lib.hid (zvh t 32 w hld.toLd (by omega))
 have hz : t.data.toList.length = t.size := Array.length_toList
 have hsub := zji 32 t.data.toList
 have hpl := zjn 32 t.data.toList
 rw [hP] at hsub hpl
 have HSZ := Lib.hid (show ∀ x ∈ l, x.length ≤ 1048576 from fun x hx => by have := hsub x (by simp [hx]); omega)
 simp only [List.length_cons] at hpl
 have hll : l.length ≤ 1048577 := by omega
 have hcut : cutI (overW :: l) = overW :: l := if_neg (by rintro ⟨k1, k2⟩; simp at k1; omega)
 have hkept : keptI (overW :: l) = false := by
  unfold keptI
  rw [decide_eq_false (by simp; omega)]; rfl
 have HPI := Lib.hid (show partI b t.data.toList = if l.all numOk = false then none else wordI b overW l false by
  unfold partI
  rw [hP, hcut, hkept]
  rfl)
 rw [hP] at HC
 clear hP hsub hpl hz hcut hkept hld hX hO
 go_enter Tryz.func27, Tryz.ntmps27
 go_wp2_with fail
 refine HC.out.mono ?_
 rintro e w1 ⟨rfl, how1, hb1⟩
 have z1 := hb1.size
 have hX1 := zqf hb1 hXl HX.out
 have HO1 := Lib.hid (HO.out.below hb1)
 obtain ⟨b0, off0, e0, hbB, c0⟩ := zkb how1.rd (k := 0) (by simp)
 simp only [Option.some.injEq, Addr.mk.injEq, and_true] at e0
 obtain ⟨rfl, rfl⟩ := e0
 simp only [List.getElem_cons_zero, Nat.add_zero] at c0
 have HR1 := Lib.hid (zka how1.rd)
 have hN : (overW :: l).length = l.length + 1 := rfl
 rw [hN]
 obtain ⟨m, hm⟩ : ∃ m, l.length = m := ⟨_, rfl⟩
 have HML := Lib.hid hm
 obtain rfl : m = 0 := by omega
 rw [hm]
 have HX1 := Lib.hid hX1
 have hbA : Below w.heap.size w w1 := hb1
 clear hN hm how1 hll hX1 hb1
 go_wp2_with fail
 have e7 : (0 : Nat) = l.length := HML.out.symm
 rw [e7]
 clear e7
 refine (zjf l _ _ _ (HLD.out.below hbA) (by rw [HML.out]; omega) HSZ.out (by have := List.eq_nil_of_length_eq_zero HML.out; subst this; exact Rd.nil_)).mono ?_
 rintro e w2 ⟨hnum, hb2⟩
 have z2 := hb2.size
 have hX2 := zqf hb2 (Nat.lt_of_lt_of_le hXl z1) HX1.out
 have HO2 := Lib.hid (HO1.out.below hb2)
 have c0 := (hb2.cell (p := ⟨w.heap.size, 0, none⟩) hbB).trans c0
 have hbB2 : Below w.heap.size w w2 := bl_
 have HB := Lib.hid (hbB2.mono hBw)
 have HF := Lib.hid (Fr.of_below (ts := bkTs) hbB2)
 obtain ⟨_, a0, a1, a2, a3, a4, a5, af, az⟩ := own6 (g := X) (Below.refl _ w2) (gz_ hX2).1 hX2
 have HX2 := Lib.hid hX2
 rcases hnum with ⟨hok, AQ, capQ, rfl, how2⟩ | ⟨hno, rfl⟩
 rotate_left
 ·
  have HNo := Lib.hid (show partI b t.data.toList = none by rw [HPI.out, if_pos hno])
  clear hno hX2
  go_wp2_with fail
  go_ret
  exact PartP.no HNo.out HB.out HF.out
 have HOK := Lib.hid (show partI b t.data.toList = wordI b overW l false by rw [HPI.out, if_neg (by rw [hok]; simp)])
 have HW2 := Lib.hid how2
 clear hok hX2 how2 HX1 HO1 HPI hb2 hbA hbB2
 have t0 : ((l.length : Int) == 0) = true := by rw [HML.out]; rfl
 have hm := HML.out
 have HY := Lib.hid (show partI b t.data.toList = some b by
  rw [HOK.out]
  obtain rfl : l = [] := List.eq_nil_of_length_eq_zero hm
  simp [wordI, ne_over_book, ne_over_chan, ne_over_htlc, ne_over_circ])
 clear hm
 go_wp2_with fail
 go_ret
 exact PartP.yes HY.out HX2.out HO2.out HB.out HF.out
set_option maxRecDepth 100000 in
set_option maxHeartbeats 4000000 in
theorem i_textPart_other_n1 (X B : Nat) (b : Bk) (A1 A2 A3 : Option Addr) (p1 p2 p3 : Nat) (t : ByteArray) (w : World) (hld : Le w) (hs : t.size ≤ 1048576) (hX : BoxB w X b A1 A2 A3 p1 p2 p3) (hO : OwB w B b A1 A2 A3 p1 p2 p3) (hBX : B ≤ X) (hl : b.cs.length ≤ 20 ∧ b.hs.length ≤ 60 ∧ b.os.length ≤ 20) (h : List UInt8) (l : List (List UInt8)) (hP : parts 32 t.data.toList = h :: l) (nbook : h ≠ bookW) (nchan : h ≠ chanW) (nhtlc : h ≠ htlcW) (ncirc : h ≠ circW) (nover : h ≠ overW) (hm : l.length = 0) :
  Calls Tryz.prog 27 #[.pointer (some ⟨X, 0, none⟩), .string t] w (PartP X B b t.data.toList w) := by
 have hl1 := hl.1
 have hl2 := hl.2.1
 have hl3 := hl.2.2
 clear hl
 have HLD := Lib.hid hld
 have hXl : X < w.heap.size := hX.lt
 have hBw : B ≤ w.heap.size := by omega
 have HX := Lib.hid hX
 have HO := Lib.hid hO
 have HC := Lib.hid (zvh t 32 w hld.toLd (by omega))
 have hz : t.data.toList.length = t.size := Array.length_toList
 have hsub := zji 32 t.data.toList
 have hpl := zjn 32 t.data.toList
 rw [hP] at hsub hpl
 have HSZ := Lib.hid (show ∀ x ∈ l, x.length ≤ 1048576 from fun x hx => by have := hsub x (by simp [hx]); omega)
 simp only [List.length_cons] at hpl
 have hll : l.length ≤ 1048577 := by omega
 have hcut : cutI (h :: l) = h :: l := if_neg (by rintro ⟨k1, k2⟩; simp at k1; omega)
 have hkept : keptI (h :: l) = false := by
  unfold keptI
  rw [decide_eq_false (by simp; omega)]; rfl
 have HPI := Lib.hid (show partI b t.data.toList = if l.all numOk = false then none else wordI b h l false by
  unfold partI
  rw [hP, hcut, hkept]
  rfl)
 rw [hP] at HC
 obtain ⟨x0, hx0', hx0⟩ := zhb h
 clear hP hsub hpl hz hcut hkept hld hX hO
 go_enter Tryz.func27, Tryz.ntmps27
 go_wp2_with fail
 refine HC.out.mono ?_
 rintro e w1 ⟨rfl, how1, hb1⟩
 have z1 := hb1.size
 have hX1 := zqf hb1 hXl HX.out
 have HO1 := Lib.hid (HO.out.below hb1)
 obtain ⟨b0, off0, e0, hbB, c0⟩ := zkb how1.rd (k := 0) (by simp)
 simp only [Option.some.injEq, Addr.mk.injEq, and_true] at e0
 obtain ⟨rfl, rfl⟩ := e0
 simp only [List.getElem_cons_zero, Nat.add_zero] at c0
 rw [hx0'] at c0
 have HR1 := Lib.hid (zka how1.rd)
 have hN : (h :: l).length = l.length + 1 := rfl
 rw [hN]
 obtain ⟨m, hm⟩ : ∃ m, l.length = m := ⟨_, rfl⟩
 have HML := Lib.hid hm
 obtain rfl : m = 0 := by omega
 rw [hm]
 have HX1 := Lib.hid hX1
 have hbA : Below w.heap.size w w1 := hb1
 clear hN hm how1 hll hX1 hb1
 have qbook : ¬ x0.toList = [98, 111, 111, 107] := fun e => nbook (hx0.out.data.symm.trans ((Lib.toList_data x0).symm.trans e))
 have qbbook : (x0.toList == [98, 111, 111, 107]) = false := beq_eq_false_iff_ne.2 qbook
 have qchan : ¬ x0.toList = [99, 104, 97, 110] := fun e => nchan (hx0.out.data.symm.trans ((Lib.toList_data x0).symm.trans e))
 have qbchan : (x0.toList == [99, 104, 97, 110]) = false := beq_eq_false_iff_ne.2 qchan
 have qhtlc : ¬ x0.toList = [104, 116, 108, 99] := fun e => nhtlc (hx0.out.data.symm.trans ((Lib.toList_data x0).symm.trans e))
 have qbhtlc : (x0.toList == [104, 116, 108, 99]) = false := beq_eq_false_iff_ne.2 qhtlc
 have qcirc : ¬ x0.toList = [99, 105, 114, 99, 108, 101] := fun e => ncirc (hx0.out.data.symm.trans ((Lib.toList_data x0).symm.trans e))
 have qbcirc : (x0.toList == [99, 105, 114, 99, 108, 101]) = false := beq_eq_false_iff_ne.2 qcirc
 have qover : ¬ x0.toList = [111, 118, 101, 114] := fun e => nover (hx0.out.data.symm.trans ((Lib.toList_data x0).symm.trans e))
 have qbover : (x0.toList == [111, 118, 101, 114]) = false := beq_eq_false_iff_ne.2 qover
 go_wp2_with fail
 have e7 : (0 : Nat) = l.length := HML.out.symm
 rw [e7]
 clear e7
 refine (zjf l _ _ _ (HLD.out.below hbA) (by rw [HML.out]; omega) HSZ.out (by have := List.eq_nil_of_length_eq_zero HML.out; subst this; exact Rd.nil_)).mono ?_
 rintro e w2 ⟨hnum, hb2⟩
 have z2 := hb2.size
 have hX2 := zqf hb2 (Nat.lt_of_lt_of_le hXl z1) HX1.out
 have HO2 := Lib.hid (HO1.out.below hb2)
 have c0 := (hb2.cell (p := ⟨w.heap.size, 0, none⟩) hbB).trans c0
 have hbB2 : Below w.heap.size w w2 := bl_
 have HB := Lib.hid (hbB2.mono hBw)
 have HF := Lib.hid (Fr.of_below (ts := bkTs) hbB2)
 obtain ⟨_, a0, a1, a2, a3, a4, a5, af, az⟩ := own6 (g := X) (Below.refl _ w2) (gz_ hX2).1 hX2
 have HX2 := Lib.hid hX2
 rcases hnum with ⟨hok, AQ, capQ, rfl, how2⟩ | ⟨hno, rfl⟩
 rotate_left
 ·
  have HNo := Lib.hid (show partI b t.data.toList = none by rw [HPI.out, if_pos hno])
  clear hno hX2
  go_wp2_with fail
  go_ret
  exact PartP.no HNo.out HB.out HF.out
 have HOK := Lib.hid (show partI b t.data.toList = wordI b h l false by rw [HPI.out, if_neg (by rw [hok]; simp)])
 have HW2 := Lib.hid how2
 clear hok hX2 how2 HX1 HO1 HPI hb2 hbA hbB2
 have HN := Lib.hid (show partI b t.data.toList = none by
  rw [HOK.out]
  simp [wordI, nbook, nchan, nhtlc, ncirc, nover])
 go_wp2_with fail
 go_ret
 exact PartP.no HN.out HB.out HF.out
end Go.Proofs.YtcjbjpobpefehaaGreatDoor
