/- textPart, all ways; TextBook: the walk of the program. -/
import Derived.Test.YtcjbjpobpefehaaGreatDoorRows
import Derived.Test.YtcjbjpobpefehaaGreatDoorBBkR1
import Derived.Test.YtcjbjpobpefehaaGreatDoorBM6
import Derived.Test.YtcjbjpobpefehaaGreatDoorBBkR7
import Derived.Test.YtcjbjpobpefehaaGreatDoorBBkR8
import Derived.Test.YtcjbjpobpefehaaGreatDoorBM3
namespace Go.Proofs.YtcjbjpobpefehaaGreatDoor
open Go.RowKit Go.Deep
theorem i_textPart (X B : Nat) (b : Bk) (A1 A2 A3 : Option Addr) (p1 p2 p3 : Nat) (t : ByteArray) (w : World) (hld : Le w) (hs : t.size ≤ 1048576) (hX : BoxB w X b A1 A2 A3 p1 p2 p3) (hO : OwB w B b A1 A2 A3 p1 p2 p3) (hBX : B ≤ X) (hl : b.cs.length ≤ 20 ∧ b.hs.length ≤ 60 ∧ b.os.length ≤ 20) :
  Calls Tryz.prog 27 #[.pointer (some ⟨X, 0, none⟩), .string t] w (PartP X B b t.data.toList w) := by
 obtain ⟨h, l, hP⟩ : ∃ h l, parts 32 t.data.toList = h :: l := ⟨_, _, parts_cons 32 _⟩
 by_cases nbook : h = bookW
 ·
  subst nbook
  by_cases hm0 : l.length = 0
  ·
   exact i_textPart_book_n1 X B b A1 A2 A3 p1 p2 p3 t w hld hs hX hO hBX hl l hP hm0
  by_cases hm7 : l.length = 7
  ·
   exact i_textPart_book_n8 X B b A1 A2 A3 p1 p2 p3 t w hld hs hX hO hBX hl l hP hm7
  exact i_textPart_book_nx X B b A1 A2 A3 p1 p2 p3 t w hld hs hX hO hBX hl l hP hm0 hm7
 by_cases nchan : h = chanW
 ·
  subst nchan
  by_cases hm0 : l.length = 0
  ·
   exact i_textPart_chan_n1 X B b A1 A2 A3 p1 p2 p3 t w hld hs hX hO hBX hl l hP hm0
  by_cases hm7 : l.length = 7
  ·
   exact i_textPart_chan_n8 X B b A1 A2 A3 p1 p2 p3 t w hld hs hX hO hBX hl l hP hm7
  exact i_textPart_chan_nx X B b A1 A2 A3 p1 p2 p3 t w hld hs hX hO hBX hl l hP hm0 hm7
 by_cases nhtlc : h = htlcW
 ·
  subst nhtlc
  by_cases hm0 : l.length = 0
  ·
   exact i_textPart_htlc_n1 X B b A1 A2 A3 p1 p2 p3 t w hld hs hX hO hBX hl l hP hm0
  by_cases hm7 : l.length = 7
  ·
   obtain ⟨v1, v2, v3, v4, v5, k, v7, rfl⟩ := list7 hm7
   by_cases nk : k = keptW true
   ·
    subst nk
    exact i_textPart_A_kept X B b A1 A2 A3 p1 p2 p3 t w hld hs hX hO hBX hl v1 v2 v3 v4 v5 v7 hP
   ·
    exact i_textPart_A_few X B b A1 A2 A3 p1 p2 p3 t w hld hs hX hO hBX hl v1 v2 v3 v4 v5 k v7 nk hP
  exact i_textPart_htlc_nx X B b A1 A2 A3 p1 p2 p3 t w hld hs hX hO hBX hl l hP hm0 hm7
 by_cases ncirc : h = circW
 ·
  subst ncirc
  by_cases hm0 : l.length = 0
  ·
   exact i_textPart_circ_n1 X B b A1 A2 A3 p1 p2 p3 t w hld hs hX hO hBX hl l hP hm0
  by_cases hm7 : l.length = 7
  ·
   exact i_textPart_circ_n8 X B b A1 A2 A3 p1 p2 p3 t w hld hs hX hO hBX hl l hP hm7
  exact i_textPart_circ_nx X B b A1 A2 A3 p1 p2 p3 t w hld hs hX hO hBX hl l hP hm0 hm7
 by_cases nover : h = overW
 ·
  subst nover
  by_cases hm0 : l.length = 0
  ·
   exact i_textPart_over_n1 X B b A1 A2 A3 p1 p2 p3 t w hld hs hX hO hBX hl l hP hm0
  by_cases hm7 : l.length = 7
  ·
   exact i_textPart_over_n8 X B b A1 A2 A3 p1 p2 p3 t w hld hs hX hO hBX hl l hP hm7
  exact i_textPart_over_nx X B b A1 A2 A3 p1 p2 p3 t w hld hs hX hO hBX hl l hP hm0 hm7
 by_cases hm0 : l.length = 0
 ·
  exact i_textPart_other_n1 X B b A1 A2 A3 p1 p2 p3 t w hld hs hX hO hBX hl h l hP nbook nchan nhtlc ncirc nover hm0
 by_cases hm7 : l.length = 7
 ·
  exact i_textPart_other_n8 X B b A1 A2 A3 p1 p2 p3 t w hld hs hX hO hBX hl h l hP nbook nchan nhtlc ncirc nover hm7
 exact i_textPart_other_nx X B b A1 A2 A3 p1 p2 p3 t w hld hs hX hO hBX hl h l hP nbook nchan nhtlc ncirc nover hm0 hm7
set_option maxRecDepth 100000 in
set_option maxHeartbeats 4000000 in
theorem i_TextBook (s : ByteArray) (w : World) (hld : Le w) (hs : s.size ≤ 1048576) : Calls Tryz.prog 8 #[.string s] w (RdB s.data.toList w) := by
 have HLD := Lib.hid hld
 have hz : s.data.toList.length = s.size := Array.length_toList
 have hln := linesL_len s.data.toList
 have HSub := Lib.hid (linesL_sub s.data.toList)
 have HC := Lib.hid (fun W (h : Ld W) => i_linesOf s W h hs)
 unfold LinesP at HC
 have HNone := Lib.hid (show readI bk0 (linesL s.data.toList) = none → BookIs s.data.toList 0 0 0 [] [] [] false from fun h => book_noneI h)
 have HMiss := Lib.hid (show ∀ b : Bk, readI bk0 (linesL s.data.toList) = some b → bookL b.t b.n b.w b.cs b.hs b.os ≠ s.data.toList → BookIs s.data.toList 0 0 0 [] [] [] false from fun b h1 h2 => book_missI h1 h2)
 obtain ⟨LS, hLS⟩ : ∃ LS, linesL s.data.toList = LS := ⟨_, rfl⟩
 rw [hLS] at HSub HC hln HNone HMiss
 obtain ⟨N, hN⟩ : ∃ N, LS.length = N := ⟨_, rfl⟩
 rw [hN] at hln HC
 have hN1 : N ≤ 1048577 := by omega
 have HNL := Lib.hid hN
 have HSz := Lib.hid (show ∀ x ∈ LS, x.length ≤ 1048576 from fun x hx => by have := HSub.out x hx; omega)
 clear hld hz hln hLS hN HSub
 go_enter Tryz.func8, Tryz.ntmps8
 go_wp2_with fail
 refine (HC.out _ ((HLD.out.below (bl_)).toLd)).mono ?_
 rintro e w1 ⟨cap1, cs, rfl, hP1, hcs, hcap1, hb1⟩
 have z1 := hb1.size
 (try simp at z1)
 obtain ⟨PB, hPB⟩ : ∃ PB, PB = w.heap.size + 2 := ⟨_, rfl⟩
 have hR1 := zqf (n := w.heap.size) hb1 (by simp; omega) (zqe (by simp) (zxa rfl))
 have hX1 := zqf (n := w.heap.size + 1) hb1 (by simp) (zxa (by simp))
 obtain ⟨X, hX⟩ : ∃ X, X = w.heap.size + 1 := ⟨_, rfl⟩
 have hXR : w.heap.size < X := by omega
 rw [← hX] at hX1 ⊢
 have e2 : ((w.alloc (.cells #[.int .i64 0, .int .i64 0, .int .i64 0, .slice none 0 0, .slice none 0 0, .slice none 0 0] 27)).alloc (.cells #[.int .i64 0, .int .i64 0, .int .i64 0, .slice none 0 0, .slice none 0 0, .slice none 0 0] 27)).heap.size = PB := by rw [hPB]; simp
 rw [e2] at hP1 ⊢
 have hbA : Below w.heap.size w w1 := bl_
 have hPl : PB < w1.heap.size := (gz_ hP1).1
 have hcap0 : N ≤ cap1 := hcap1
 have HR1 := Lib.hid hR1
 have HX1 : Hid (BoxB w1 X bk0 none none none 0 0 0) := Lib.hid hX1
 have HP1 := Lib.hid hP1
 have HCS := Lib.hid hcs
 have hXB : w.heap.size + 1 ≤ X := by omega
 clear hb1 hR1 hX1 hP1 hcs hPB hX e2 HC hcap1
 go_wp2_with fail
 go_loopw [11] (fun i wr => ∃ (k : Nat) (b : Bk) (A1 A2 A3 : Option Addr) (p1 p2 p3 : Nat), k ≤ N ∧ i = .int .i64 k ∧ Hid (readI bk0 (LS.take k) = some b) ∧ Hid (b.cs.length ≤ 20 ∧ b.hs.length ≤ 60 ∧ b.os.length ≤ 20) ∧ BoxB wr X b A1 A2 A3 p1 p2 p3 ∧ OwB wr (w.heap.size + 1) b A1 A2 A3 p1 p2 p3 ∧ wr.heap[w.heap.size]? = some (.cells #[.int .i64 0, .int .i64 0, .int .i64 0, .slice none 0 0, .slice none 0 0, .slice none 0 0] 27 (0, 0)) ∧ wr.heap[PB]? = some (.cells cs 9 (0, 0)) ∧ Below w.heap.size w wr) (fun i _ => N - (intOf i).toNat)
 case atStart => exact ⟨0, bk0, none, none, none, 0, 0, 0, Nat.zero_le _, rfl, Lib.hid rfl, Lib.hid (by simp [bk0]), HX1.out, OwB.nil_ _ _ _ _ _, HR1.out, HP1.out, hbA⟩
 case round =>
  obtain ⟨k, b, A1, A2, A3, p1, p2, p3, hk, rfl, HInv, HL, hX, how, hR, hP, hbw⟩ := hrel
  have hbz := hbw.size
  have hXl := hX.lt
  have hRl := (gz_ hR).1
  have hPl2 := (gz_ hP).1
  have HX := Lib.hid hX
  have HR := Lib.hid hR
  have HP := Lib.hid hP
  have HW := Lib.hid how
  clear how hX hR hP HX1 HR1 HP1 hbA
  by_cases hlt : k < N
  ·
   have hkL : k < LS.length := by rw [HNL.out]; exact hlt
   obtain ⟨t, ht', ht⟩ := zhb LS[k]
   have hts : t.size ≤ 1048576 := by rw [ht.out.size]; exact HSz.out _ (List.getElem_mem hkL)
   have c0 : wr.cell? ⟨PB, k, none⟩ = some (.string t) := by rw [zqc HP.out, HCS.out k LS[k] (List.getElem?_eq_getElem hkL), ht']
   have HS1 := Lib.hid (readI_succ hkL HInv.out)
   have HST := Lib.hid (fun hn => HNone.out (readI_stop hkL HInv.out hn))
   have HTD := Lib.hid ht.out.data
   rw [← HTD.out] at HS1 HST
   clear ht' ht
   have i0 : (0 : Int) ≤ (k : Int) := by omega
   have i1 : (k : Int) < (N : Int) := by omega
   go_wp2_with fail
   refine (i_textPart X (w.heap.size + 1) b A1 A2 A3 p1 p2 p3 t _ (HLD.out.below hbw) hts HX.out HW.out hXB HL.out).mono ?_
   rintro e w3 ⟨hcase, hb3, hf3⟩
   have z3 := hb3.size
   have hR3 := zqf hb3 (by omega) HR.out
   have hP3 := hf3.box HP.out (by decide)
   have hbB : Below w.heap.size w w3 := hbw.trans (hb3.mono (by omega))
   have HBB := Lib.hid hbB
   obtain ⟨_, r0, r1, r2, r3, r4, r5, rf, rz⟩ := own6 (g := w.heap.size) (Below.refl _ w3) (gz_ hR3).1 hR3
   have HR3 := Lib.hid hR3
   have HP3 := Lib.hid hP3
   clear hb3 hf3 hR3 hP3 hbB c0
   rcases hcase with ⟨hno, rfl⟩ | ⟨b', C1, C2, C3, q1, q2, q3, hyes, rfl, hX3, hO3⟩
   ·
    have HN := Lib.hid (HST.out hno)
    clear hno HNone HMiss
    go_wp2_with fail
    refine bodyPost_ret (v := .tuple #[.agg #[.int .i64 0, .int .i64 0, .int .i64 0, .slice none 0 0, .slice none 0 0, .slice none 0 0], .bool false]) (by simp [results, Tryz.results8, go_sem, *]) rfl (RdB.zero HN.out ?_)
    have hbB := HBB.out
    exact bl_
   ·
    have HY := Lib.hid (HS1.out.trans hyes)
    have HL3 := Lib.hid (partI_len hyes HL.out.1 HL.out.2.1 HL.out.2.2)
    have HX3 := Lib.hid hX3
    have HO3 := Lib.hid hO3
    clear hyes hX3 hO3
    go_wp2_with fail
    go_roundw
    case rel => exact ⟨k + 1, b', C1, C2, C3, q1, q2, q3, by omega, by go_num, HY, HL3, HX3.out, HO3.out, HR3.out, HP3.out, HBB.out⟩
    case measure => simp [intOf]; omega
  ·
   obtain rfl : k = N := by omega
   have HAll := Lib.hid (show readI bk0 LS = some b by have h := HInv.out; rwa [List.take_of_length_le (by rw [HNL.out]; exact Nat.le_refl _)] at h)
   obtain ⟨_, a0, a1, a2, a3, a4, a5, af, az⟩ := own6 (g := X) (Below.refl _ wr) (by omega) HX.out
   have HRd := Lib.hid HW.out.rd
   obtain ⟨hl1, hl2, hl3⟩ := HL.out
   have HMs := Lib.hid (HMiss.out b HAll.out)
   clear HInv HNone HMiss HAll
   go_wp2_with fail
   refine (i_BookText b.t b.n b.w b.cs b.hs b.os _ _ _ _ _ _ _ (HLD.out.below hbw).toLd (by omega) (by omega) (by omega) HRd.out).mono ?_
   rintro e w3 ⟨rfl, hb3⟩
   have z3 := hb3.size
   obtain ⟨t, ht', ht⟩ := zhb (bookL b.t b.n b.w b.cs b.hs b.os)
   rw [ht']
   clear ht'
   have hX3 := zqf hb3 hXl HX.out
   have hR3 := zqf hb3 hRl HR.out
   have HW3 := Lib.hid (HW.out.below hb3)
   obtain ⟨_, b0, b1, b2, b3, b4, b5, bf, bz⟩ := own6 (g := X) (Below.refl _ w3) (by omega) hX3
   obtain ⟨_, r0, r1, r2, r3, r4, r5, rf, rz⟩ := own6 (g := w.heap.size) (Below.refl _ w3) (by omega) hR3
   have hbB : Below w.heap.size w w3 := bl_
   have HRR := Lib.hid hR3
   clear hb3 hX3 hR3 a0 a1 a2 a3 a4 a5 af HX HR
   by_cases he : t = ⟨#[]⟩
   ·
    have HN : Hid (BookIs s.data.toList 0 0 0 [] [] [] false) := Lib.hid (by
     by_cases hse : bookL b.t b.n b.w b.cs b.hs b.os = s.data.toList
     ·
      have h3 := ht.out.data
      rw [he, hse] at h3
      rw [← h3]
      exact book_empty
     ·
      exact HMs.out hse)
    subst he
    clear HMs
    go_wp2_with fail
    refine bodyPost_ret (v := .tuple #[.agg #[.int .i64 0, .int .i64 0, .int .i64 0, .slice none 0 0, .slice none 0 0, .slice none 0 0], .bool false]) (by simp [results, Tryz.results8, go_sem, *]) rfl (RdB.zero HN.out ?_)
    exact bl_
   ·
    have hne1 : t.toList.isEmpty = false := by
     have h := neq_str he
     cases hx : t.toList with
     | nil => rw [hx] at h; simp at h
     | cons a r => rfl
    have hne2 : bookL b.t b.n b.w b.cs b.hs b.os ≠ [] := fun h => he (by
     have := ht.out
     unfold Str at this
     rw [this, h])
    have HNE := Lib.hid hne2
    clear hne2
    by_cases et : t = s
    ·
     have HN := Lib.hid (book_hit (s := s.data.toList) (by rw [← eq_str ht.out et]; exact HNE.out) (eq_str ht.out et))
     have HFin := Lib.hid (show ∀ u0 u1 u2 u3 u4 u5 : Value, OwB ((((((w3.setCell ⟨w.heap.size, 0, none⟩ u0).setCell ⟨w.heap.size, 1, none⟩ u1).setCell ⟨w.heap.size, 2, none⟩ u2).setCell ⟨w.heap.size, 3, none⟩ u3).setCell ⟨w.heap.size, 4, none⟩ u4).setCell ⟨w.heap.size, 5, none⟩ u5) w.heap.size b A1 A2 A3 p1 p2 p3 from fun u0 u1 u2 u3 u4 u5 => ((HW3.out.six_aside (by omega) HRR.out u0 u1 u2 u3 u4 u5)))
     subst et
     clear he HMs
     go_wp2_with fail
     refine bodyPost_ret (v := .tuple #[bkVal b A1 A2 A3 p1 p2 p3, .bool true]) (by simp [bkVal, results, Tryz.results8, go_sem, *]) rfl ⟨b, A1, A2, A3, p1, p2, p3, true, rfl, HFin.out _ _ _ _ _ _, HN.out, ?_⟩
     exact bl_
    ·
     have HN := Lib.hid (HMs.out (ne_str ht.out et))
     have hneq := neq_str et
     clear et he HMs
     go_wp2_with fail
     refine bodyPost_ret (v := .tuple #[.agg #[.int .i64 0, .int .i64 0, .int .i64 0, .slice none 0 0, .slice none 0 0, .slice none 0 0], .bool false]) (by simp [results, Tryz.results8, go_sem, *]) rfl (RdB.zero HN.out ?_)
     exact bl_
end Go.Proofs.YtcjbjpobpefehaaGreatDoor
