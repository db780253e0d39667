/- For every draw: what lies under way over all channels is what the book's parts hold: the walk. -/
import Derived.Test.YtcjbjpobpefehaaRows
import Derived.Test.YtcjbjpobpefehaaUDrawTo
import Derived.Test.YtcjbjpobpefehaaUM1
import Derived.Test.YtcjbjpobpefehaaUM3
import Derived.Test.YtcjbjpobpefehaaUBookOs
namespace Go.Proofs.Ytcjbjpobpefehaa
open Go.RowKit Go.Deep
set_option maxRecDepth 100000 in
set_option maxHeartbeats 4000000 in
theorem l_FnUnder (A : Option Addr) (n cap : Nat) (w : World) (hc : CodeIn w A n cap) :
  Calls Try.prog 3 #[.slice A n cap] w fun e w' => e = .returned (.bool true) ∧ Below w.heap.size w w' := by
 have hnm := hc.len
 unfold maxLen at hnm
 by_cases hn : n ≤ 1048576
 ·
  have HC := Lib.hid (hc.code hn)
  clear hc
  go_enter Try.func3, Try.ntmps3
  go_wp2_with fail
  refine (s_DrawTotal A n cap _ HC.out).mono ?_
  rintro e w1 ⟨⟨bt, bn, bw, cs, hs, os⟩, C1, C2, C3, q1, q2, q3, rfl, hob, hlen, hb1⟩
  obtain ⟨lc, lh, lo⟩ := hlen
  dsimp only at lc lh lo ⊢
  have HG_w1 := Lib.hid hb1
  have OW_w1 := Lib.hid hob
  clear hob hb1 HC
  obtain ⟨T, hT⟩ : ∃ T, totalOf bt bn bw cs hs os = T := ⟨_, rfl⟩
  have HT := Lib.hid hT
  clear hT
  go_upto_region 4 with fail
  refine nm_ ?_
  intro w2 hw
  have HG_w2 : Hid (Below w.heap.size w w2) := Lib.hid (by rw [hw]; exact (HG_w1.out).alloc (by have := HG_w1.out.size; first | omega | (simp; omega)) _)
  have OW_w2 : Hid (OwB w2 w.heap.size ⟨bt, bn, bw, cs, hs, os⟩ C1 C2 C3 q1 q2 q3) := Lib.hid (by rw [hw]; exact (OW_w1.out).alloc _)
  obtain ⟨NB, h9N⟩ : ∃ v, v = w1.heap.size := ⟨_, rfl⟩
  have HN_w2 : Hid (w2.heap[NB]? = some (.cells #[.int .i64 bt, .int .i64 bn, .int .i64 bw, .slice C1 cs.length q1, .slice C2 hs.length q2, .slice C3 os.length q3] 27 (0, 0))) := Lib.hid (by rw [hw, h9N]; exact zxe (by first | rfl | (simp; done)))
  have HLN : Hid (w.heap.size ≤ NB) := Lib.hid (by have := HG_w1.out.size; omega)
  try rw [← h9N]
  clear hw h9N
  obtain ⟨N0, N1, N2, N3, N4, N5, Nf, Nz⟩ := box6_ HN_w2.out
  refine zjb (fun w' => w'.cell? ⟨NB, 0, none⟩ = some (.int .i64 bt) ∧ w'.cell? ⟨NB, 1, none⟩ = some (.int .i64 bn) ∧ w'.cell? ⟨NB, 2, none⟩ = some (.int .i64 bw) ∧ w'.cell? ⟨NB, 3, none⟩ = some (.slice C1 cs.length q1) ∧ w'.cell? ⟨NB, 4, none⟩ = some (.slice C2 hs.length q2) ∧ w'.cell? ⟨NB, 5, none⟩ = some (.slice C3 os.length q3)) [(0, some 19, false, none), (2, some 21, false, none), (1, some 20, true, none), (3, some 22, true, none), (4, some 23, false, none)] (by kernel_rfl) (by kernel_rfl) (by kernel_rfl) ⟨N0, N1, N2, N3, N4, N5⟩ (fun hHeld => ?_)
  obtain ⟨w3, hwd⟩ : ∃ wd, w2.drew = wd := ⟨_, rfl⟩
  have HG_w3 : Hid (Below w.heap.size w w3) := Lib.hid (by rw [← hwd]; exact HG_w2.out.drew)
  have HN_w3 : Hid (w3.heap[NB]? = some (.cells #[.int .i64 bt, .int .i64 bn, .int .i64 bw, .slice C1 cs.length q1, .slice C2 hs.length q2, .slice C3 os.length q3] 27 (0, 0))) := Lib.hid (by rw [← hwd]; exact zxa HN_w2.out)
  have OW_w3 : Hid (OwB w3 w.heap.size ⟨bt, bn, bw, cs, hs, os⟩ C1 C2 C3 q1 q2 q3) := Lib.hid (by rw [← hwd]; exact OW_w2.out.drew)
  clear N0 N1 N2 N3 N4 N5 Nf Nz
  rw [hwd] at hHeld ⊢
  clear hwd
  obtain ⟨N0, N1, N2, N3, N4, N5, Nf, Nz⟩ := box6_ HN_w3.out
  refine tk_ ?_
  refine Sq.step rfl (by rfl) (fun K hK => ?_)
  go_simp
  refine (i_Total bt bn bw cs hs os _ _ _ _ _ _ _ (by omega) (by omega) (by omega) ⟨OW_w3.out.c.rd, OW_w3.out.h.rd, OW_w3.out.o.rd⟩).mono ?_
  rintro e' w4 ⟨rfl, hb⟩
  rw [HT.out]
  have HG_w4 := Lib.hid (HG_w3.out.trans (hb.mono HG_w3.out.size))
  have HN_w4 := Lib.hid (zqi hb (gz_ HN_w3.out).1 HN_w3.out)
  have OW_w4 := Lib.hid (OW_w3.out.below hb)
  clear hb
  clear N0 N1 N2 N3 N4 N5 Nf Nz
  obtain ⟨N0, N1, N2, N3, N4, N5, Nf, Nz⟩ := box6_ HN_w4.out
  go_simp
  refine hK.out _ _ ⟨N0, N1, N2, N3, N4, N5⟩ (fun hHeld => ?_)
  clear hK K
  refine tk_ ?_
  refine Sq.step rfl (by rfl) (fun K hK => ?_)
  go_simp
  refine (s_Total bt bn bw cs hs os _ _ _ _ _ _ _ (by omega) (by omega) (by omega) ⟨OW_w4.out.c.rd, OW_w4.out.h.rd, OW_w4.out.o.rd⟩).mono ?_
  rintro e' w5 ⟨rfl, hb⟩
  rw [HT.out]
  have HG_w5 := Lib.hid (HG_w4.out.trans (hb.mono HG_w4.out.size))
  have HN_w5 := Lib.hid (zqi hb (gz_ HN_w4.out).1 HN_w4.out)
  have OW_w5 := Lib.hid (OW_w4.out.below hb)
  clear hb
  clear N0 N1 N2 N3 N4 N5 Nf Nz
  obtain ⟨N0, N1, N2, N3, N4, N5, Nf, Nz⟩ := box6_ HN_w5.out
  go_simp
  refine hK.out _ _ ⟨N0, N1, N2, N3, N4, N5⟩ (fun hHeld => ?_)
  clear hK K
  refine tk_ ?_
  refine Sq.done (NoPanic.normal ?_)
  skip
  cases hbk : bookB bt bn bw cs hs os
  ·
   have HBK := Lib.hid hbk
   have HT0 : Hid (T = 0) := Lib.hid (by rw [← HT.out]; simp [totalOf, hbk])
   clear hbk
   go_wp2_with fail
   refine (s_BookOk bt bn bw cs hs os _ _ _ _ _ _ _ (by omega) (by omega) (by omega) ⟨OW_w5.out.c.rd, OW_w5.out.h.rd, OW_w5.out.o.rd⟩).mono ?_
   rintro e' w6 ⟨rfl, hb⟩
   rw [HBK.out]
   have HG_w6 := Lib.hid (HG_w5.out.trans (hb.mono HG_w5.out.size))
   have HN_w6 := Lib.hid (zqi hb (gz_ HN_w5.out).1 HN_w5.out)
   have OW_w6 := Lib.hid (OW_w5.out.below hb)
   clear hb
   clear N0 N1 N2 N3 N4 N5 Nf Nz
   obtain ⟨N0, N1, N2, N3, N4, N5, Nf, Nz⟩ := box6_ HN_w6.out
   go_wp2_with fail
   refine (i_Total bt bn bw cs hs os _ _ _ _ _ _ _ (by omega) (by omega) (by omega) ⟨OW_w6.out.c.rd, OW_w6.out.h.rd, OW_w6.out.o.rd⟩).mono ?_
   rintro e' w7 ⟨rfl, hb⟩
   rw [HT.out, HT0.out]
   have HG_w7 := Lib.hid (HG_w6.out.trans (hb.mono HG_w6.out.size))
   have HN_w7 := Lib.hid (zqi hb (gz_ HN_w6.out).1 HN_w6.out)
   have OW_w7 := Lib.hid (OW_w6.out.below hb)
   clear hb
   clear N0 N1 N2 N3 N4 N5 Nf Nz
   obtain ⟨N0, N1, N2, N3, N4, N5, Nf, Nz⟩ := box6_ HN_w7.out
   go_wp2_with fail
   go_ret
   exact ⟨rfl, HG_w7.out⟩
  ·
   have HBK := Lib.hid hbk
   have HS := Lib.hid (zvc hbk).small
   have hcl := (zvc hbk).cl
   have hhl := (zvc hbk).small.hl
   have hol := (zvc hbk).small.ol
   clear hbk
   go_wp2_with fail
   refine (s_BookOk bt bn bw cs hs os _ _ _ _ _ _ _ (by omega) (by omega) (by omega) ⟨OW_w5.out.c.rd, OW_w5.out.h.rd, OW_w5.out.o.rd⟩).mono ?_
   rintro e' w6 ⟨rfl, hb⟩
   rw [HBK.out]
   have HG_w6 := Lib.hid (HG_w5.out.trans (hb.mono HG_w5.out.size))
   have HN_w6 := Lib.hid (zqi hb (gz_ HN_w5.out).1 HN_w5.out)
   have OW_w6 := Lib.hid (OW_w5.out.below hb)
   clear hb
   clear N0 N1 N2 N3 N4 N5 Nf Nz
   obtain ⟨N0, N1, N2, N3, N4, N5, Nf, Nz⟩ := box6_ HN_w6.out
   go_wp2_with fail
   clear N0 N1 N2 N3 N4 N5 Nf Nz
   go_loopw [4, 5, 33] (fun vo vi i wr => ∃ k : Nat, k ≤ cs.length ∧ i = .int .i64 k ∧ vo = .int .i64 ((cs.take k).foldl (addO hs os) 0) ∧ vi = .int .i64 ((cs.take k).foldl (addI hs os) 0) ∧ Hid (wr.heap[NB]? = some (.cells #[.int .i64 bt, .int .i64 bn, .int .i64 bw, .slice C1 cs.length q1, .slice C2 hs.length q2, .slice C3 os.length q3] 27 (0, 0))) ∧ Hid (OwB wr w.heap.size ⟨bt, bn, bw, cs, hs, os⟩ C1 C2 C3 q1 q2 q3) ∧ Hid (Below w.heap.size w wr)) (fun _ _ i _ => cs.length - (intOf i).toNat)
   case atStart => exact ⟨0, Nat.zero_le _, rfl, rfl, rfl, HN_w6, OW_w6, HG_w6⟩
   case round =>
    clear HN_w6 OW_w6 HG_w6
    obtain ⟨k, hk, rfl, rfl, rfl, HN_wr, OW_wr, HG_wr⟩ := hrel
    have hgz := HG_wr.out.size
    by_cases hlt : k < cs.length
    ·
     obtain ⟨N0, N1, N2, N3, N4, N5, Nf, Nz⟩ := box6_ HN_wr.out
     obtain ⟨uo, ui⟩ := under_true HBK.out hlt
     obtain ⟨x1, x2⟩ := HS.out.out_bd cs[k].Id
     obtain ⟨y1, y2⟩ := HS.out.in_bd cs[k].Id
     obtain ⟨o1, o2⟩ := HS.out.addO_bd cs k hk
     obtain ⟨i1, i2⟩ := HS.out.addI_bd cs k hk
     have hso := zxc cs (addO hs os) (0) hlt
     have hsi := zxc cs (addI hs os) (0) hlt
     obtain ⟨VO, hVO⟩ : ∃ x, (cs.take k).foldl (addO hs os) 0 = x := ⟨_, rfl⟩
     obtain ⟨VI, hVI⟩ : ∃ x, (cs.take k).foldl (addI hs os) 0 = x := ⟨_, rfl⟩
     rw [hVO] at hso o1 o2 ⊢
     rw [hVI] at hsi i1 i2 ⊢
     clear hVO hVI
     unfold addO at hso
     unfold addI at hsi
     obtain ⟨XO, hXO⟩ : ∃ x, outOf hs os cs[k].Id = x := ⟨_, rfl⟩
     obtain ⟨XI, hXI⟩ : ∃ x, inOf hs os cs[k].Id = x := ⟨_, rfl⟩
     rw [hXO] at uo x1 x2 hso
     rw [hXI] at ui y1 y2 hsi
     have HUO := Lib.hid uo
     have HUI := Lib.hid ui
     have HSO := Lib.hid hso
     have HSI := Lib.hid hsi
     have s1 : IntKind.i64.wrap (VO + XO) = VO + XO := IntWalk.i64_in _ ⟨by omega, by omega⟩
     have s2 : IntKind.i64.wrap (VI + XI) = VI + XI := IntWalk.i64_in _ ⟨by omega, by omega⟩
     clear uo ui hso hsi hXO hXI x1 x2 y1 y2 o1 o2 i1 i2
     obtain ⟨bb, off, rfl, hbB, c0, c1, c2, c3, c4, c5, c6⟩ := Chan.rd OW_wr.out.c.rd hlt
     go_upto_region 13 with fail
     clear c0 c1 c2 c3 c4 c5 c6
     refine nm_ ?_
     intro w101 hw
     have HG_w101 : Hid (Below w.heap.size w w101) := Lib.hid (by rw [hw]; exact (HG_wr.out).alloc (by have := HG_wr.out.size; first | omega | (simp; omega)) _)
     have HN_w101 : Hid (w101.heap[NB]? = some (.cells #[.int .i64 bt, .int .i64 bn, .int .i64 bw, .slice (some ⟨bb, off, none⟩) cs.length q1, .slice C2 hs.length q2, .slice C3 os.length q3] 27 (0, 0))) := Lib.hid (by rw [hw]; exact zqe (by have := (gz_ HN_wr.out).1; first | omega | (simp; omega)) (HN_wr.out))
     have OW_w101 : Hid (OwB w101 w.heap.size ⟨bt, bn, bw, cs, hs, os⟩ (some ⟨bb, off, none⟩) C2 C3 q1 q2 q3) := Lib.hid (by rw [hw]; exact (OW_wr.out).alloc _)
     obtain ⟨XB, h9X⟩ : ∃ v, v = wr.heap.size := ⟨_, rfl⟩
     have HX_w101 : Hid (w101.heap[XB]? = some (.cells #[.int .i64 cs[k].Id, .int .i64 cs[k].Size, .int .i64 cs[k].Local, .int .i64 cs[k].Remote, .int .i64 cs[k].Base, .int .i64 cs[k].Ppm, .int .i64 cs[k].Score] 32 (0, 0))) := Lib.hid (by rw [hw, h9X]; exact zxe (by first | rfl | (simp; done)))
     have HLX : Hid (w.heap.size ≤ XB) := Lib.hid (by have := HG_wr.out.size; omega)
     try rw [← h9X]
     have HNXN : Hid (XB ≠ NB) := Lib.hid (by have := (gz_ HN_wr.out).1; omega)
     clear hw h9X
     clear N0 N1 N2 N3 N4 N5 Nf Nz
     obtain ⟨N0, N1, N2, N3, N4, N5, Nf, Nz⟩ := box6_ HN_w101.out
     obtain ⟨X0, X1, X2, X3, X4, X5, X6, Xf, Xz⟩ := box7_ HX_w101.out
     go_wp2_with fail
     refine (i_Under bt bn bw cs hs os _ _ _ _ _ _ cs[k].Id _ (by omega) (by omega) (by omega) ⟨OW_w101.out.c.rd, OW_w101.out.h.rd, OW_w101.out.o.rd⟩).mono ?_
     rintro e' w102 ⟨rfl, hb⟩
     rw [HUO.out, HUI.out]
     have HG_w102 := Lib.hid (HG_w101.out.trans (hb.mono HG_w101.out.size))
     have HN_w102 := Lib.hid (zqi hb (gz_ HN_w101.out).1 HN_w101.out)
     have HX_w102 := Lib.hid (zqi hb (gz_ HX_w101.out).1 HX_w101.out)
     have OW_w102 := Lib.hid (OW_w101.out.below hb)
     clear hb
     clear N0 N1 N2 N3 N4 N5 X0 X1 X2 X3 X4 X5 X6 Nf Xf Nz Xz
     obtain ⟨N0, N1, N2, N3, N4, N5, Nf, Nz⟩ := box6_ HN_w102.out
     obtain ⟨X0, X1, X2, X3, X4, X5, X6, Xf, Xz⟩ := box7_ HX_w102.out
     go_wp2_with fail
     go_roundw
     case rel => exact ⟨k + 1, by omega, by go_num, by unfold addO; rw [HSO.out], by unfold addI; rw [HSI.out], HN_w102, OW_w102, HG_w102⟩
     case measure => simp [intOf]; omega
    ·
     obtain rfl : k = cs.length := by omega
     obtain ⟨N0, N1, N2, N3, N4, N5, Nf, Nz⟩ := box6_ HN_wr.out
     rw [List.take_length]
     obtain ⟨u1, u2⟩ := HS.out.addO_bd cs cs.length (Nat.le_refl _)
     obtain ⟨v1, v2⟩ := HS.out.addI_bd cs cs.length (Nat.le_refl _)
     rw [List.take_length] at u1 u2 v1 v2
     obtain ⟨O1, hO1⟩ : ∃ x, cs.foldl (addO hs os) 0 = x := ⟨_, rfl⟩
     obtain ⟨I1, hI1⟩ : ∃ x, cs.foldl (addI hs os) 0 = x := ⟨_, rfl⟩
     rw [hO1] at u1 u2 ⊢
     rw [hI1] at v1 v2 ⊢
     have HO1 := Lib.hid hO1
     have HI1 := Lib.hid hI1
     clear hO1 hI1
     go_wp2_with fail
     clear N0 N1 N2 N3 N4 N5 Nf Nz
     go_loopw [4, 5, 54] (fun vo vi i wr => ∃ k : Nat, k ≤ hs.length ∧ i = .int .i64 k ∧ vo = .int .i64 ((hs.take k).foldl (subHO) O1) ∧ vi = .int .i64 ((hs.take k).foldl (subHI) I1) ∧ Hid (wr.heap[NB]? = some (.cells #[.int .i64 bt, .int .i64 bn, .int .i64 bw, .slice C1 cs.length q1, .slice C2 hs.length q2, .slice C3 os.length q3] 27 (0, 0))) ∧ Hid (OwB wr w.heap.size ⟨bt, bn, bw, cs, hs, os⟩ C1 C2 C3 q1 q2 q3) ∧ Hid (Below w.heap.size w wr)) (fun _ _ i _ => hs.length - (intOf i).toNat)
     case atStart => exact ⟨0, Nat.zero_le _, rfl, rfl, rfl, HN_wr, OW_wr, HG_wr⟩
     case round =>
      clear HN_wr OW_wr HG_wr
      obtain ⟨k, hk, rfl, rfl, rfl, HN_wr, OW_wr, HG_wr⟩ := hrel
      have hgz := HG_wr.out.size
      by_cases hlt : k < hs.length
      ·
       obtain ⟨N0, N1, N2, N3, N4, N5, Nf, Nz⟩ := box6_ HN_wr.out
       obtain ⟨⟨x1, x2⟩, y1, y2⟩ := HS.out.h k hlt
       obtain ⟨o1, o2⟩ := HS.out.subHO_bd O1 k hk
       obtain ⟨i1, i2⟩ := HS.out.subHI_bd I1 k hk
       have hso := zxc hs (subHO) (O1) hlt
       have hsi := zxc hs (subHI) (I1) hlt
       obtain ⟨VO, hVO⟩ : ∃ x, (hs.take k).foldl (subHO) O1 = x := ⟨_, rfl⟩
       obtain ⟨VI, hVI⟩ : ∃ x, (hs.take k).foldl (subHI) I1 = x := ⟨_, rfl⟩
       rw [hVO] at hso o1 o2 ⊢
       rw [hVI] at hsi i1 i2 ⊢
       clear hVO hVI
       unfold subHO at hso
       unfold subHI at hsi
       have HSO := Lib.hid hso
       have HSI := Lib.hid hsi
       have s1 : IntKind.i64.wrap (VO - hs[k].AmtOut) = VO - hs[k].AmtOut := IntWalk.i64_in _ ⟨by omega, by omega⟩
       have s2 : IntKind.i64.wrap (VI - hs[k].AmtIn) = VI - hs[k].AmtIn := IntWalk.i64_in _ ⟨by omega, by omega⟩
       clear hso hsi x1 x2 y1 y2 o1 o2 i1 i2
       obtain ⟨bb, off, rfl, hbB, c0, c1, c2, c3, c4, c5, c6⟩ := Htlc.rd OW_wr.out.h.rd hlt
       go_upto_region 20 with fail
       clear c0 c1 c2 c3 c4 c5 c6
       refine nm_ ?_
       intro w201 hw
       have HG_w201 : Hid (Below w.heap.size w w201) := Lib.hid (by rw [hw]; exact (HG_wr.out).alloc (by have := HG_wr.out.size; first | omega | (simp; omega)) _)
       have HN_w201 : Hid (w201.heap[NB]? = some (.cells #[.int .i64 bt, .int .i64 bn, .int .i64 bw, .slice C1 cs.length q1, .slice (some ⟨bb, off, none⟩) hs.length q2, .slice C3 os.length q3] 27 (0, 0))) := Lib.hid (by rw [hw]; exact zqe (by have := (gz_ HN_wr.out).1; first | omega | (simp; omega)) (HN_wr.out))
       have OW_w201 : Hid (OwB w201 w.heap.size ⟨bt, bn, bw, cs, hs, os⟩ C1 (some ⟨bb, off, none⟩) C3 q1 q2 q3) := Lib.hid (by rw [hw]; exact (OW_wr.out).alloc _)
       obtain ⟨XB, h9X⟩ : ∃ v, v = wr.heap.size := ⟨_, rfl⟩
       have HX_w201 : Hid (w201.heap[XB]? = some (.cells #[.int .i64 hs[k].Key, .int .i64 hs[k].In, .int .i64 hs[k].Out, .int .i64 hs[k].AmtIn, .int .i64 hs[k].AmtOut, .bool hs[k].Kept, .int .i64 hs[k].Age] 36 (0, 0))) := Lib.hid (by rw [hw, h9X]; exact zxe (by first | rfl | (simp; done)))
       have HLX : Hid (w.heap.size ≤ XB) := Lib.hid (by have := HG_wr.out.size; omega)
       try rw [← h9X]
       have HNXN : Hid (XB ≠ NB) := Lib.hid (by have := (gz_ HN_wr.out).1; omega)
       clear hw h9X
       clear N0 N1 N2 N3 N4 N5 Nf Nz
       obtain ⟨N0, N1, N2, N3, N4, N5, Nf, Nz⟩ := box6_ HN_w201.out
       obtain ⟨X0, X1, X2, X3, X4, X5, X6, Xf, Xz⟩ := box7_ HX_w201.out
       go_wp2_with fail
       go_roundw
       case rel => exact ⟨k + 1, by omega, by go_num, by unfold subHO; rw [HSO.out], by unfold subHI; rw [HSI.out], HN_w201, OW_w201, HG_w201⟩
       case measure => simp [intOf]; omega
      ·
       obtain rfl : k = hs.length := by omega
       obtain ⟨N0, N1, N2, N3, N4, N5, Nf, Nz⟩ := box6_ HN_wr.out
       rw [List.take_length]
       obtain ⟨a1, a2⟩ := HS.out.subHO_bd O1 hs.length (Nat.le_refl _)
       obtain ⟨a3, a4⟩ := HS.out.subHI_bd I1 hs.length (Nat.le_refl _)
       rw [List.take_length] at a1 a2 a3 a4
       obtain ⟨O2, hO2⟩ : ∃ x, hs.foldl subHO O1 = x := ⟨_, rfl⟩
       obtain ⟨I2, hI2⟩ : ∃ x, hs.foldl subHI I1 = x := ⟨_, rfl⟩
       rw [hO2] at a1 a2 ⊢
       rw [hI2] at a3 a4 ⊢
       have HO2 := Lib.hid hO2
       have HI2 := Lib.hid hI2
       clear hO2 hI2
       go_wp2_with fail
       clear N0 N1 N2 N3 N4 N5 Nf Nz
       go_loopw [4, 5, 70] (fun vo vi i wr => ∃ k : Nat, k ≤ os.length ∧ i = .int .i64 k ∧ vo = .int .i64 ((os.take k).foldl (subCO) O2) ∧ vi = .int .i64 ((os.take k).foldl (subCI) I2) ∧ Hid (wr.heap[NB]? = some (.cells #[.int .i64 bt, .int .i64 bn, .int .i64 bw, .slice C1 cs.length q1, .slice C2 hs.length q2, .slice C3 os.length q3] 27 (0, 0))) ∧ Hid (OwB wr w.heap.size ⟨bt, bn, bw, cs, hs, os⟩ C1 C2 C3 q1 q2 q3) ∧ Hid (Below w.heap.size w wr)) (fun _ _ i _ => os.length - (intOf i).toNat)
       case atStart => exact ⟨0, Nat.zero_le _, rfl, rfl, rfl, HN_wr, OW_wr, HG_wr⟩
       case round =>
        clear HN_wr OW_wr HG_wr
        obtain ⟨k, hk, rfl, rfl, rfl, HN_wr, OW_wr, HG_wr⟩ := hrel
        have hgz := HG_wr.out.size
        by_cases hlt : k < os.length
        ·
         obtain ⟨N0, N1, N2, N3, N4, N5, Nf, Nz⟩ := box6_ HN_wr.out
         obtain ⟨⟨x1, x2⟩, y1, y2⟩ := HS.out.o k hlt
         obtain ⟨o1, o2⟩ := HS.out.subCO_bd O2 k hk
         obtain ⟨i1, i2⟩ := HS.out.subCI_bd I2 k hk
         have hso := zxc os (subCO) (O2) hlt
         have hsi := zxc os (subCI) (I2) hlt
         obtain ⟨VO, hVO⟩ : ∃ x, (os.take k).foldl (subCO) O2 = x := ⟨_, rfl⟩
         obtain ⟨VI, hVI⟩ : ∃ x, (os.take k).foldl (subCI) I2 = x := ⟨_, rfl⟩
         rw [hVO] at hso o1 o2 ⊢
         rw [hVI] at hsi i1 i2 ⊢
         clear hVO hVI
         unfold subCO at hso
         unfold subCI at hsi
         have HSO := Lib.hid hso
         have HSI := Lib.hid hsi
         have s1 : IntKind.i64.wrap (VO - os[k].Amt) = VO - os[k].Amt := IntWalk.i64_in _ ⟨by omega, by omega⟩
         have s3 : IntKind.i64.wrap (VO - os[k].Amt - os[k].Fee) = VO - os[k].Amt - os[k].Fee := IntWalk.i64_in _ ⟨by omega, by omega⟩
         have s2 : IntKind.i64.wrap (VI - os[k].Amt) = VI - os[k].Amt := IntWalk.i64_in _ ⟨by omega, by omega⟩
         clear hso hsi x1 x2 y1 y2 o1 o2 i1 i2
         obtain ⟨bb, off, rfl, hbB, c0, c1, c2, c3, c4⟩ := Circle.rd OW_wr.out.o.rd hlt
         go_upto_region 26 with fail
         clear c0 c1 c2 c3 c4
         refine nm_ ?_
         intro w301 hw
         have HG_w301 : Hid (Below w.heap.size w w301) := Lib.hid (by rw [hw]; exact (HG_wr.out).alloc (by have := HG_wr.out.size; first | omega | (simp; omega)) _)
         have HN_w301 : Hid (w301.heap[NB]? = some (.cells #[.int .i64 bt, .int .i64 bn, .int .i64 bw, .slice C1 cs.length q1, .slice C2 hs.length q2, .slice (some ⟨bb, off, none⟩) os.length q3] 27 (0, 0))) := Lib.hid (by rw [hw]; exact zqe (by have := (gz_ HN_wr.out).1; first | omega | (simp; omega)) (HN_wr.out))
         have OW_w301 : Hid (OwB w301 w.heap.size ⟨bt, bn, bw, cs, hs, os⟩ C1 C2 (some ⟨bb, off, none⟩) q1 q2 q3) := Lib.hid (by rw [hw]; exact (OW_wr.out).alloc _)
         obtain ⟨XB, h9X⟩ : ∃ v, v = wr.heap.size := ⟨_, rfl⟩
         have HX_w301 : Hid (w301.heap[XB]? = some (.cells #[.int .i64 os[k].Key, .int .i64 os[k].From, .int .i64 os[k].To, .int .i64 os[k].Amt, .int .i64 os[k].Fee] 38 (0, 0))) := Lib.hid (by rw [hw, h9X]; exact zxe (by first | rfl | (simp; done)))
         have HLX : Hid (w.heap.size ≤ XB) := Lib.hid (by have := HG_wr.out.size; omega)
         try rw [← h9X]
         have HNXN : Hid (XB ≠ NB) := Lib.hid (by have := (gz_ HN_wr.out).1; omega)
         clear hw h9X
         clear N0 N1 N2 N3 N4 N5 Nf Nz
         obtain ⟨N0, N1, N2, N3, N4, N5, Nf, Nz⟩ := box6_ HN_w301.out
         obtain ⟨X0, X1, X2, X3, X4, Xf, Xz⟩ := box5_ HX_w301.out
         go_wp2_with fail
         go_roundw
         case rel => exact ⟨k + 1, by omega, by go_num, by unfold subCO; rw [HSO.out], by unfold subCI; rw [HSI.out], HN_w301, OW_w301, HG_w301⟩
         case measure => simp [intOf]; omega
        ·
         obtain rfl : k = os.length := by omega
         obtain ⟨N0, N1, N2, N3, N4, N5, Nf, Nz⟩ := box6_ HN_wr.out
         rw [List.take_length]
         have hz := under_law HBK.out
         unfold underEndO underEndI at hz
         rw [HO1.out, HO2.out, HI1.out, HI2.out] at hz
         rw [hz.1, hz.2]
         clear hz
         go_wp2_with fail
         go_ret
         exact ⟨rfl, HG_wr.out⟩
 ·
  clear hc
  go_enter Try.func3, Try.ntmps3
  go_wp2_with fail
  go_ret
  exact ⟨rfl, Below.refl _ _⟩
end Go.Proofs.Ytcjbjpobpefehaa
