/- Time goes on: the reference's walk. -/
import Derived.Test.YtcjbjpobpefehaaRows
import Derived.Test.YtcjbjpobpefehaaVAct
import Derived.Test.YtcjbjpobpefehaaVM1
import Derived.Test.YtcjbjpobpefehaaVSCopy
import Derived.Test.YtcjbjpobpefehaaVScS
import Derived.Test.YtcjbjpobpefehaaVM3
import Derived.Test.YtcjbjpobpefehaaVSq
namespace Go.Proofs.Ytcjbjpobpefehaa
open Go.RowKit Go.Deep
theorem tickB_2 {b : Bk} (h : b.t = 1125899906842624) : tickB b = bad 2 := by unfold tickB; rw [if_pos h]
theorem tickB_yes {b : Bk} (h : b.t ≠ 1125899906842624) (h5 : (b.t + 1) % 5 = 0) : tickB b = done ⟨b.t + 1, b.n, b.w, b.cs.map fadeC, b.hs.map olderH, b.os⟩ [] := by unfold tickB; rw [if_neg h, if_pos h5]
theorem tickB_no {b : Bk} (h : b.t ≠ 1125899906842624) (h5 : (b.t + 1) % 5 ≠ 0) : tickB b = done ⟨b.t + 1, b.n, b.w, b.cs, b.hs.map olderH, b.os⟩ [] := by unfold tickB; rw [if_neg h, if_neg h5]
set_option maxRecDepth 100000 in
set_option maxHeartbeats 4000000 in
theorem s_l07Tick (w0 w : World) (B X : Nat) (b : Bk) (A1 A2 A3 A4 : Option Addr) (p1 p2 p3 p4 : Nat) (hF : BookFacts b.t b.n b.w b.cs b.hs b.os) (h : Wk 98 w0 w B X b [] 0 A1 A2 A3 A4 p1 p2 p3 p4) :
  Calls Try.prog 70 #[.pointer (some ⟨X, 0, none⟩)] w (Acts 98 w B X (tickB b)) := by
 have H := Lib.hid h.here
 clear h
 obtain ⟨L, hL⟩ : ∃ L : List Line, L = [] := ⟨_, rfl⟩
 rw [← hL] at H
 have HL := Lib.hid hL
 clear hL
 obtain ⟨m1, m2⟩ := hF.t
 have hcl := hF.cl
 have h60 := hF.small.hl
 have HAge : Hid (∀ k, (hk : k < b.hs.length) → 0 ≤ b.hs[k].Age ∧ b.hs[k].Age ≤ 1125899906842624) := Lib.hid (fun k hk => by have hp := hF.parts; simp only [partsB, Bool.and_eq_true] at hp; have h1 := List.all_eq_true.1 hp.1.1 _ (List.getElem_mem hk); simp only [htlcB, Bool.and_eq_true, zvh] at h1; exact h1.2)
 clear hF
 cases t1 : (b.t == 1125899906842624)
 ·
  have hne := Lib.hid (beq_eq_false_iff_ne.1 t1)
  have m3 : b.t < 1125899906842624 := by have := hne.out; omega
  cases t5 : ((b.t + 1) % 5 == 0)
  ·
   have HO := Lib.hid (tickB_no (b := b) hne.out (beq_eq_false_iff_ne.1 t5))
   have HW_w := H
   clear H
   obtain ⟨a0, a1, a2, a3, a4, a5, a6, a7, af, az⟩ := HW_w.out.open_
   go_enter Try.func70, Try.ntmps70
   go_wp2_with fail
   refine (zxb _ _ B X b L A1 A2 A3 A4 p1 p2 p3 p4 2 HW_w.out).mono ?_
   rintro e' wz ⟨rfl, rfl⟩
   clear t1
   go_wp2_with fail
   refine nm_ ?_
   intro w1 hw
   have HW_w1 : Hid (Wk 98 w w1 B X ⟨(b.t + 1), b.n, b.w, b.cs, b.hs, b.os⟩ L 0 A1 A2 A3 A4 p1 p2 p3 p4) := Lib.hid (by rw [hw]; exact HW_w.out.setTick (by decide) (by decide) (by decide) (by decide) _)
   clear hw
   clear a0 a1 a2 a3 a4 a5 a6 a7 af az
   obtain ⟨a0, a1, a2, a3, a4, a5, a6, a7, af, az⟩ := HW_w1.out.open_
   clear a0 a1 a2 a3 a4 a5 a6 a7 af az
   go_loopw [27] (fun i wr => ∃ k : Nat, k ≤ b.hs.length ∧ i = .int .i64 k ∧ Hid (Wk 98 w wr B X ⟨(b.t + 1), b.n, b.w, b.cs, mapTo olderH b.hs k, b.os⟩ L 0 A1 A2 A3 A4 p1 p2 p3 p4)) (fun i _ => b.hs.length - (intOf i).toNat)
   case atStart => exact ⟨0, Nat.zero_le _, rfl, by rw [mapTo_zero]; exact HW_w1⟩
   case round =>
    obtain ⟨k, hk, rfl, HR⟩ := hrel
    have HW_wr := HR
    clear HR
    have hml := mapTo_len olderH b.hs k
    have HML := Lib.hid hml
    clear hml
    obtain ⟨a0, a1, a2, a3, a4, a5, a6, a7, af, az⟩ := HW_wr.out.open_
    simp only at a0 a1 a2 a3 a4 a5 a6
    rw [HML.out] at a4
    by_cases hlt : k < b.hs.length
    ·
     obtain ⟨g2, hA, hBg⟩ := HW_wr.out.o.h.headW (by rw [List.length_map, HML.out]; omega)
     subst hA
     have HRow : Hid (((mapTo olderH b.hs k).map Htlc.cells)[k]? = some b.hs[k].cells) := Lib.hid (by rw [List.getElem?_map, mapTo_at olderH hlt]; rfl)
     have c6 := HW_wr.out.o.h.cellAt HRow.out (j := 6) (by decide)
     simp only [Htlc.cells, List.getElem?_cons_zero, List.getElem?_cons_succ] at c6
     have cf := fun j => HW_wr.out.o.h.frozenAt j
     obtain ⟨ma, mb⟩ := HAge.out k hlt
     have j0 : (0 : Int) ≤ (k : Int) := by omega
     have j1 : (k : Int) < (b.hs.length : Int) := by omega
     cases tx : decide (b.hs[k].Age < 1125899906842624)
     ·
      have KS := Lib.hid (show olderH b.hs[k] = b.hs[k] by unfold olderH; rw [if_neg (of_decide_eq_false tx)])
      go_wp2_with fail
      go_roundw
      case rel => exact ⟨k + 1, by omega, by go_num, by rw [← mapTo_same olderH hlt KS.out]; exact HW_wr⟩
      case measure => simp [intOf]; omega
     ·
      have KS := Lib.hid (show olderH b.hs[k] = { b.hs[k] with Age := b.hs[k].Age + 1 } by unfold olderH; rw [if_pos (of_decide_eq_true tx)])
      go_wp2_with fail
      go_roundw
      case rel => exact ⟨k + 1, by omega, by go_num, Lib.hid (by have h9 := HW_wr.out.putCellH (i := k) (j := 6) (c := b.hs[k]) (c' := { b.hs[k] with Age := b.hs[k].Age + 1 }) (u := .int .i64 (b.hs[k].Age + 1)) (by decide) (mapTo_at olderH hlt) (by decide) rfl; rw [← KS.out, mapTo_set olderH hlt] at h9; exact h9)⟩
      case measure => simp [intOf]; omega
    ·
     obtain rfl : k = b.hs.length := by omega
     go_wp2_with fail
     clear a0 a1 a2 a3 a4 a5 a6 a7 af az
     rw [mapTo_all] at HW_wr
     clear HML hk
     obtain ⟨wo, rfl⟩ : ∃ wo : World, wo = wr := ⟨_, rfl⟩
     have HW_wo := HW_wr
     clear HW_wr
     go_loopw [59] (fun i wr => ∃ k : Nat, k ≤ b.cs.length ∧ i = .int .i64 k ∧ Hid (Wk 98 w wr B X ⟨(b.t + 1), b.n, b.w, b.cs, (b.hs.map olderH), b.os⟩ L 0 A1 A2 A3 A4 p1 p2 p3 p4)) (fun i _ => b.cs.length - (intOf i).toNat)
     case atStart => exact ⟨0, Nat.zero_le _, rfl, HW_wo⟩
     case round =>
      obtain ⟨k, hk, rfl, HR⟩ := hrel
      have HW_wr := HR
      clear HR
      obtain ⟨a0, a1, a2, a3, a4, a5, a6, a7, af, az⟩ := HW_wr.out.open_
      simp only at a0 a1 a2 a3 a4 a5 a6
      by_cases hlt : k < b.cs.length
      ·
       have j0 : (0 : Int) ≤ (k : Int) := by omega
       have j1 : (k : Int) < (b.cs.length : Int) := by omega
       go_wp2_with fail
       go_roundw
       case rel => exact ⟨k + 1, by omega, by go_num, HW_wr⟩
       case measure => simp [intOf]; omega
      ·
       obtain rfl : k = b.cs.length := by omega
       go_wp2_with fail
       go_end0
       rw [HO.out, ← HL.out]
       exact Acts.ok ⟨_, _, _, _, _, _, _, _, rfl, HW_wr.out⟩
  ·
   have HO := Lib.hid (tickB_yes (b := b) hne.out (eq_of_beq t5))
   have HW_w := H
   clear H
   obtain ⟨a0, a1, a2, a3, a4, a5, a6, a7, af, az⟩ := HW_w.out.open_
   go_enter Try.func70, Try.ntmps70
   go_wp2_with fail
   refine (zxb _ _ B X b L A1 A2 A3 A4 p1 p2 p3 p4 2 HW_w.out).mono ?_
   rintro e' wz ⟨rfl, rfl⟩
   clear t1
   go_wp2_with fail
   refine nm_ ?_
   intro w1 hw
   have HW_w1 : Hid (Wk 98 w w1 B X ⟨(b.t + 1), b.n, b.w, b.cs, b.hs, b.os⟩ L 0 A1 A2 A3 A4 p1 p2 p3 p4) := Lib.hid (by rw [hw]; exact HW_w.out.setTick (by decide) (by decide) (by decide) (by decide) _)
   clear hw
   clear a0 a1 a2 a3 a4 a5 a6 a7 af az
   obtain ⟨a0, a1, a2, a3, a4, a5, a6, a7, af, az⟩ := HW_w1.out.open_
   clear a0 a1 a2 a3 a4 a5 a6 a7 af az
   go_loopw [27] (fun i wr => ∃ k : Nat, k ≤ b.hs.length ∧ i = .int .i64 k ∧ Hid (Wk 98 w wr B X ⟨(b.t + 1), b.n, b.w, b.cs, mapTo olderH b.hs k, b.os⟩ L 0 A1 A2 A3 A4 p1 p2 p3 p4)) (fun i _ => b.hs.length - (intOf i).toNat)
   case atStart => exact ⟨0, Nat.zero_le _, rfl, by rw [mapTo_zero]; exact HW_w1⟩
   case round =>
    obtain ⟨k, hk, rfl, HR⟩ := hrel
    have HW_wr := HR
    clear HR
    have hml := mapTo_len olderH b.hs k
    have HML := Lib.hid hml
    clear hml
    obtain ⟨a0, a1, a2, a3, a4, a5, a6, a7, af, az⟩ := HW_wr.out.open_
    simp only at a0 a1 a2 a3 a4 a5 a6
    rw [HML.out] at a4
    by_cases hlt : k < b.hs.length
    ·
     obtain ⟨g2, hA, hBg⟩ := HW_wr.out.o.h.headW (by rw [List.length_map, HML.out]; omega)
     subst hA
     have HRow : Hid (((mapTo olderH b.hs k).map Htlc.cells)[k]? = some b.hs[k].cells) := Lib.hid (by rw [List.getElem?_map, mapTo_at olderH hlt]; rfl)
     have c6 := HW_wr.out.o.h.cellAt HRow.out (j := 6) (by decide)
     simp only [Htlc.cells, List.getElem?_cons_zero, List.getElem?_cons_succ] at c6
     have cf := fun j => HW_wr.out.o.h.frozenAt j
     obtain ⟨ma, mb⟩ := HAge.out k hlt
     have j0 : (0 : Int) ≤ (k : Int) := by omega
     have j1 : (k : Int) < (b.hs.length : Int) := by omega
     cases tx : decide (b.hs[k].Age < 1125899906842624)
     ·
      have KS := Lib.hid (show olderH b.hs[k] = b.hs[k] by unfold olderH; rw [if_neg (of_decide_eq_false tx)])
      go_wp2_with fail
      go_roundw
      case rel => exact ⟨k + 1, by omega, by go_num, by rw [← mapTo_same olderH hlt KS.out]; exact HW_wr⟩
      case measure => simp [intOf]; omega
     ·
      have KS := Lib.hid (show olderH b.hs[k] = { b.hs[k] with Age := b.hs[k].Age + 1 } by unfold olderH; rw [if_pos (of_decide_eq_true tx)])
      go_wp2_with fail
      go_roundw
      case rel => exact ⟨k + 1, by omega, by go_num, Lib.hid (by have h9 := HW_wr.out.putCellH (i := k) (j := 6) (c := b.hs[k]) (c' := { b.hs[k] with Age := b.hs[k].Age + 1 }) (u := .int .i64 (b.hs[k].Age + 1)) (by decide) (mapTo_at olderH hlt) (by decide) rfl; rw [← KS.out, mapTo_set olderH hlt] at h9; exact h9)⟩
      case measure => simp [intOf]; omega
    ·
     obtain rfl : k = b.hs.length := by omega
     go_wp2_with fail
     clear a0 a1 a2 a3 a4 a5 a6 a7 af az
     rw [mapTo_all] at HW_wr
     clear HML hk
     obtain ⟨wo, rfl⟩ : ∃ wo : World, wo = wr := ⟨_, rfl⟩
     have HW_wo := HW_wr
     clear HW_wr
     go_loopw [59] (fun i wr => ∃ k : Nat, k ≤ b.cs.length ∧ i = .int .i64 k ∧ Hid (Wk 98 w wr B X ⟨(b.t + 1), b.n, b.w, mapTo fadeC b.cs k, (b.hs.map olderH), b.os⟩ L 0 A1 A2 A3 A4 p1 p2 p3 p4)) (fun i _ => b.cs.length - (intOf i).toNat)
     case atStart => exact ⟨0, Nat.zero_le _, rfl, by rw [mapTo_zero]; exact HW_wo⟩
     case round =>
      obtain ⟨k, hk, rfl, HR⟩ := hrel
      have HW_wr := HR
      clear HR
      have HML := Lib.hid (mapTo_len fadeC b.cs k)
      obtain ⟨a0, a1, a2, a3, a4, a5, a6, a7, af, az⟩ := HW_wr.out.open_
      simp only at a0 a1 a2 a3 a4 a5 a6
      rw [HML.out] at a3
      by_cases hlt : k < b.cs.length
      ·
       have j0 : (0 : Int) ≤ (k : Int) := by omega
       have j1 : (k : Int) < (b.cs.length : Int) := by omega
       obtain ⟨g, hA, hBg⟩ := HW_wr.out.o.c.headW (by rw [List.length_map, HML.out]; omega)
       subst hA
       obtain ⟨c, hc⟩ : ∃ c, b.cs[k] = c := ⟨_, rfl⟩
       have hr : ((mapTo fadeC b.cs k).map Chan.cells)[k]? = some c.cells := by rw [List.getElem?_map, mapTo_at fadeC hlt, hc]; rfl
       obtain ⟨y0, y1, y2, y3, y4, y5, y6⟩ := c
       have HRow := Lib.hid hr
       have HCI := Lib.hid hc
       clear hr hc
       have y6c := HW_wr.out.o.c.cellAt HRow.out (j := 6) (by decide)
       simp only [Chan.cells, List.getElem?_cons_zero, List.getElem?_cons_succ] at y6c
       go_wp2_with fail
       rw [← HML.out] at a3
       have j2 : (k : Int) < ((mapTo fadeC b.cs k).length : Int) := by rw [HML.out]; omega
       refine zkc (fun w' => w'.cell? ⟨X, 0, none⟩ = some (.int .i64 (b.t + 1)) ∧ w'.cell? ⟨X, 1, none⟩ = some (.int .i64 b.n) ∧ w'.cell? ⟨X, 2, none⟩ = some (.int .i64 b.w) ∧ w'.cell? ⟨X, 3, none⟩ = some (.slice (some ⟨g, 0, none⟩) (mapTo fadeC b.cs k).length p1) ∧ w'.cell? ⟨X, 4, none⟩ = some (.slice A2 (b.hs.map olderH).length p2) ∧ w'.cell? ⟨X, 5, none⟩ = some (.slice A3 b.os.length p3) ∧ w'.cell? ⟨X, 6, none⟩ = some (.slice A4 L.length p4) ∧ w'.cell? ⟨g, k * 7 + 6, none⟩ = some (.int .i64 y6)) [(0, some 69, false, none), (1, some 70, false, none), (2, some 71, false, none), (3, some 72, false, none), (4, some 73, false, none), (5, some 74, false, none), (6, some 75, false, none), (7, some 76, false, none), (8, some 77, false, none), (9, some 78, false, none), (10, some 79, false, none), (11, some 80, false, none), (12, some 81, false, none), (13, some 82, false, none), (14, some 83, false, none), (15, some 84, true, none), (16, some 85, false, none), (17, some 86, false, none)] rfl (by kernel_rfl) (by kernel_rfl) (by kernel_rfl) (by kernel_rfl) (by kernel_rfl) (by kernel_rfl) ⟨a0, a1, a2, a3, a4, a5, a6, y6c⟩ (fun hHeld => ?_)
       obtain ⟨w2, hwd⟩ : ∃ wd, wr.drew = wd := ⟨_, rfl⟩
       have HW_w2 : Hid (Wk 98 w w2 B X ⟨(b.t + 1), b.n, b.w, (mapTo fadeC b.cs k), (b.hs.map olderH), b.os⟩ L 0 (some ⟨g, 0, none⟩) A2 A3 A4 p1 p2 p3 p4) := Lib.hid (by rw [← hwd]; exact HW_wr.out.drew)
       clear a0 a1 a2 a3 a4 a5 a6 a7 af az
       rw [hwd] at hHeld ⊢
       clear hwd
       obtain ⟨a0, a1, a2, a3, a4, a5, a6, a7, af, az⟩ := HW_w2.out.open_
       refine tk_ ?_
       clear y6c
       have y6c := HW_w2.out.o.c.cellAt HRow.out (j := 6) (by decide)
       simp only [Chan.cells, List.getElem?_cons_zero, List.getElem?_cons_succ] at y6c
       have yf := fun j => HW_w2.out.o.c.frozenAt j
       refine Sq.step rfl (by rfl) (fun K hK => ?_)
       go_simp
       refine (s_ScoreFade _ _).mono ?_
       rintro e' wz ⟨rfl, rfl⟩
       go_simp
       refine hK.out _ _ ⟨a0, a1, a2, a3, a4, a5, a6, y6c⟩ (fun hHeld => ?_)
       clear hK K
       refine tk_ ?_
       refine Sq.done ?_
       intro KK hKK
       go_simp
       refine hKK _ _ (NoPanic.normal ?_)
       go_wp2_with fail
       go_roundw
       case rel => exact ⟨k + 1, by omega, by go_num, Lib.hid (by have h9 := HW_w2.out.putCellC (i := k) (j := 6) (c := ⟨y0, y1, y2, y3, y4, y5, y6⟩) (c' := fadeC ⟨y0, y1, y2, y3, y4, y5, y6⟩) (u := .int .i64 (fadeF y6)) (by decide) (by rw [← HCI.out]; exact mapTo_at fadeC hlt) (by decide) rfl; simp only at h9; rw [← HCI.out, mapTo_set fadeC hlt] at h9; exact h9)⟩
       case measure => simp [intOf]; omega
      ·
       obtain rfl : k = b.cs.length := by omega
       rw [mapTo_all] at HW_wr
       go_wp2_with fail
       go_end0
       rw [HO.out, ← HL.out]
       exact Acts.ok ⟨_, _, _, _, _, _, _, _, rfl, HW_wr.out⟩
 ·
  have HO := Lib.hid (tickB_2 (b := b) (eq_of_beq t1))
  have HW_w := H
  clear H
  obtain ⟨a0, a1, a2, a3, a4, a5, a6, a7, af, az⟩ := HW_w.out.open_
  go_enter Try.func70, Try.ntmps70
  go_wp2_with fail
  refine (zxh _ _ B X b L A1 A2 A3 A4 p1 p2 p3 p4 2 (by decide) HW_w.out).mono ?_
  rintro e' w1 ⟨rfl, hh, ho⟩
  have HW_w1 := Lib.hid (HW_w.out.trans hh)
  clear hh ho
  clear a0 a1 a2 a3 a4 a5 a6 a7 af az
  obtain ⟨a0, a1, a2, a3, a4, a5, a6, a7, af, az⟩ := HW_w1.out.open_
  go_wp2_with fail
  go_end0
  rw [HO.out]
  exact Acts.no (by decide) ⟨_, _, _, _, _, _, _, _, rfl, HW_w1.out⟩
end Go.Proofs.Ytcjbjpobpefehaa
