/- What is under way through a channel: the reference's l07Busy and l07Room. -/
import Derived.Test.YtcjbjpobpefehaaRows
import Derived.Test.YtcjbjpobpefehaaVM3
import Derived.Test.YtcjbjpobpefehaaVM1
import Derived.Test.YtcjbjpobpefehaaVScS
import Derived.BigQuiet
namespace Go.Proofs.Ytcjbjpobpefehaa
open Go.RowKit Go.Deep
set_option maxRecDepth 100000 in
set_option maxHeartbeats 4000000 in
theorem s_l07Busy (bt bn bw : Int) (cs : List Chan) (hs : List Htlc) (os : List Circle) (A1 A2 A3 : Option Addr) (p1 p2 p3 : Nat) (ch : Int) (w : World) (h60 : hs.length ≤ 60) (h20 : os.length ≤ 20) (hr : RdBook w w.heap.size A1 cs A2 hs A3 os) :
  Calls Try.prog 89 #[.agg #[.int .i64 bt, .int .i64 bn, .int .i64 bw, .slice A1 cs.length p1, .slice A2 hs.length p2, .slice A3 os.length p3], .int .i64 ch] w fun e w' => e = .returned (.bool (busyB hs os ch)) ∧ Below w.heap.size w w' := by
 have HH := Lib.hid hr.h
 have HO := Lib.hid hr.o
 clear hr
 go_enter Try.func89, Try.ntmps89
 go_wp2_with fail
 go_loopw [12] (fun i wr => ∃ k : Nat, k ≤ hs.length ∧ i = .int .i64 k ∧ Hid ((hs.take k).any (usesH ch) = false) ∧ wr.heap[w.heap.size]? = some (.cells #[.int .i64 bt, .int .i64 bn, .int .i64 bw, .slice A1 cs.length p1, .slice A2 hs.length p2, .slice A3 os.length p3] 27 (0, 0)) ∧ Below w.heap.size w wr) (fun i _ => hs.length - (intOf i).toNat)
 case atStart => exact ⟨0, Nat.zero_le _, rfl, Lib.hid rfl, zxc rfl, bl_⟩
 case round =>
  obtain ⟨k, hk, rfl, HA, hbox, hbw⟩ := hrel
  have hbz := hbw.size
  obtain ⟨eh, e0, e1, e2, e3, e4, e5, ef, ezz⟩ := own6 (Below.refl wr.heap.size wr) (gz_ hbox).1 hbox
  have EH := Lib.hid eh
  clear eh hbox
  by_cases hlt : k < hs.length
  ·
   obtain ⟨b, off, rfl, hbB, c0, c1, c2, c3, c4, c5, c6⟩ := Htlc.rd (HH.out.below hbw) hlt
   clear e0 e1 e2 e3 e4 e5 ef
   have Fx := Lib.hid (zwf hs (usesH ch) hlt)
   have HT := Lib.hid (fun hp => any_true hs (usesH ch) hlt hp)
   cases t1 : (hs[k].In == ch)
   ·
    cases t2 : (hs[k].Out == ch)
    ·
     have Kx := Lib.hid (show usesH ch hs[k] = false by simp only [usesH, t1, t2]; rfl)
     go_wp2_with fail
     go_roundw
     case rel => exact ⟨k + 1, by omega, by go_num, Lib.hid (by rw [Fx.out, HA.out, Kx.out]; rfl), zqd ezz EH.out, bl_⟩
     case measure => simp [intOf]; omega
    ·
     have Kx := Lib.hid (show busyB hs os ch = true by unfold busyB; rw [HT.out (by simp only [usesH, t2, Bool.or_true])]; rfl)
     go_wp2_with fail
     go_ret
     exact ⟨zxa Kx.out.symm, bl_⟩
   ·
    have Kx := Lib.hid (show busyB hs os ch = true by unfold busyB; rw [HT.out (by simp only [usesH, t1, Bool.true_or])]; rfl)
    go_wp2_with fail
    go_ret
    exact ⟨zxa Kx.out.symm, bl_⟩
  ·
   obtain rfl : k = hs.length := by omega
   have qx := HA.out
   rw [List.take_length] at qx
   have Qx := Lib.hid qx
   clear qx
   go_wp2_with fail
   obtain ⟨wo, rfl⟩ : ∃ wo : World, wo = wr := ⟨_, rfl⟩
   go_loopw [30] (fun i wr => ∃ k : Nat, k ≤ os.length ∧ i = .int .i64 k ∧ Hid ((os.take k).any (usesC ch) = false) ∧ wr.heap[w.heap.size]? = some (.cells #[.int .i64 bt, .int .i64 bn, .int .i64 bw, .slice A1 cs.length p1, .slice A2 hs.length p2, .slice A3 os.length p3] 27 (0, 0)) ∧ Below w.heap.size w wr) (fun i _ => os.length - (intOf i).toNat)
   case atStart => exact ⟨0, Nat.zero_le _, rfl, Lib.hid rfl, EH.out, bl_⟩
   case round =>
    obtain ⟨k, hk, rfl, HA, hbox, hbw⟩ := hrel
    have hbz := hbw.size
    obtain ⟨eh, e0, e1, e2, e3, e4, e5, ef, ezz⟩ := own6 (Below.refl wr.heap.size wr) (gz_ hbox).1 hbox
    have EH := Lib.hid eh
    clear eh hbox
    by_cases hlt : k < os.length
    ·
     obtain ⟨b, off, rfl, hbB, c0, c1, c2, c3, c4⟩ := Circle.rd (HO.out.below hbw) hlt
     clear e0 e1 e2 e3 e4 e5 ef
     have Fx := Lib.hid (zwf os (usesC ch) hlt)
     have HT := Lib.hid (fun hp => any_true os (usesC ch) hlt hp)
     cases t1 : (os[k].From == ch)
     ·
      cases t2 : (os[k].To == ch)
      ·
       have Kx := Lib.hid (show usesC ch os[k] = false by simp only [usesC, t1, t2]; rfl)
       go_wp2_with fail
       go_roundw
       case rel => exact ⟨k + 1, by omega, by go_num, Lib.hid (by rw [Fx.out, HA.out, Kx.out]; rfl), zqd ezz EH.out, bl_⟩
       case measure => simp [intOf]; omega
      ·
       have Kx := Lib.hid (show busyB hs os ch = true by unfold busyB; rw [HT.out (by simp only [usesC, t2, Bool.or_true])]; simp)
       go_wp2_with fail
       go_ret
       exact ⟨zxa Kx.out.symm, bl_⟩
     ·
      have Kx := Lib.hid (show busyB hs os ch = true by unfold busyB; rw [HT.out (by simp only [usesC, t1, Bool.true_or])]; simp)
      go_wp2_with fail
      go_ret
      exact ⟨zxa Kx.out.symm, bl_⟩
    ·
     obtain rfl : k = os.length := by omega
     have qy := HA.out
     rw [List.take_length] at qy
     have Kx := Lib.hid (show busyB hs os ch = false by unfold busyB; rw [Qx.out, qy]; rfl)
     clear qy
     go_wp2_with fail
     go_ret
     exact ⟨zxa Kx.out.symm, bl_⟩
theorem Small.few_bd {hs : List Htlc} {os : List Circle} (s : Small hs os) (ch : Int) : ∀ k, k ≤ hs.length → 0 ≤ (hs.take k).foldl (fewH ch) 0 ∧ (hs.take k).foldl (fewH ch) 0 ≤ (k : Int) * 1125899906842624
 | 0, _ => by simp
 | k + 1, hk => by
  obtain ⟨h1, h2⟩ := s.few_bd ch k (by omega)
  obtain ⟨⟨a, b⟩, _⟩ := s.h k (by omega)
  rw [zxi hs _ _ (by omega)]
  unfold fewH at h1 h2 ⊢
  split
  ·
   split <;> omega
  ·
   omega
theorem slot_bd {hs : List Htlc} (ch : Int) : ∀ k, k ≤ hs.length → 0 ≤ (hs.take k).foldl (slotH ch) 0 ∧ (hs.take k).foldl (slotH ch) 0 ≤ (k : Int)
 | 0, _ => by simp
 | k + 1, hk => by
  obtain ⟨h1, h2⟩ := slot_bd (hs := hs) ch k (by omega)
  rw [zxi hs _ _ (by omega)]
  unfold slotH at h1 h2 ⊢
  split <;> omega
theorem slotFew_bd {hs : List Htlc} (ch : Int) : ∀ k, k ≤ hs.length → 0 ≤ (hs.take k).foldl (slotFewH ch) 0 ∧ (hs.take k).foldl (slotFewH ch) 0 ≤ (k : Int)
 | 0, _ => by simp
 | k + 1, hk => by
  obtain ⟨h1, h2⟩ := slotFew_bd (hs := hs) ch k (by omega)
  rw [zxi hs _ _ (by omega)]
  unfold slotFewH at h1 h2 ⊢
  split
  ·
   split <;> omega
  ·
   omega
set_option maxRecDepth 100000 in
set_option maxHeartbeats 4000000 in
theorem s_l07Room (bt bn bw : Int) (cs : List Chan) (hs : List Htlc) (os : List Circle) (A1 A2 A3 : Option Addr) (p1 p2 p3 : Nat) (ci co : Chan) (amt : Int) (yes : Bool) (w : World) (hsm : Small hs os) (hr : RdBook w w.heap.size A1 cs A2 hs A3 os) :
  Calls Try.prog 91 #[.agg #[.int .i64 bt, .int .i64 bn, .int .i64 bw, .slice A1 cs.length p1, .slice A2 hs.length p2, .slice A3 os.length p3], .agg #[.int .i64 ci.Id, .int .i64 ci.Size, .int .i64 ci.Local, .int .i64 ci.Remote, .int .i64 ci.Base, .int .i64 ci.Ppm, .int .i64 ci.Score], .agg #[.int .i64 co.Id, .int .i64 co.Size, .int .i64 co.Local, .int .i64 co.Remote, .int .i64 co.Base, .int .i64 co.Ppm, .int .i64 co.Score], .int .i64 amt, .bool yes] w fun e w' => e = .returned (.int .i64 (roomF hs co co.Id amt ci.Score yes)) ∧ Below w.heap.size w w' := by
 have HH := Lib.hid hr.h
 have HS := Lib.hid hsm
 have h60 := hsm.hl
 clear hr hsm
 obtain ⟨ch, hch⟩ : ∃ ch, co.Id = ch := ⟨_, rfl⟩
 rw [hch]
 have HCH := Lib.hid hch
 clear hch
 go_enter Try.func91, Try.ntmps91
 go_wp2_with fail
 go_loopw [11, 12, 13, 14, 20] (fun v1 v2 v3 v4 i wr => ∃ (k : Nat) (x1 x2 x3 x4 : Int), k ≤ hs.length ∧ i = .int .i64 k ∧ v1 = .int .i64 x1 ∧ v2 = .int .i64 x2 ∧ v3 = .int .i64 x3 ∧ v4 = .int .i64 x4 ∧ Hid ((hs.take k).foldl (fewH ch) 0 = x1) ∧ Hid ((hs.take k).foldl (outH ch) 0 = x2) ∧ Hid ((hs.take k).foldl (slotFewH ch) 0 = x3) ∧ Hid ((hs.take k).foldl (slotH ch) 0 = x4)
   ∧ wr.heap[w.heap.size]? = some (.cells #[.int .i64 bt, .int .i64 bn, .int .i64 bw, .slice A1 cs.length p1, .slice A2 hs.length p2, .slice A3 os.length p3] 27 (0, 0))
   ∧ wr.heap[w.heap.size + 1]? = some (.cells #[.int .i64 ci.Id, .int .i64 ci.Size, .int .i64 ci.Local, .int .i64 ci.Remote, .int .i64 ci.Base, .int .i64 ci.Ppm, .int .i64 ci.Score] 32 (0, 0))
   ∧ wr.heap[w.heap.size + 1 + 1]? = some (.cells #[.int .i64 ch, .int .i64 co.Size, .int .i64 co.Local, .int .i64 co.Remote, .int .i64 co.Base, .int .i64 co.Ppm, .int .i64 co.Score] 32 (0, 0)) ∧ Below w.heap.size w wr) (fun _ _ _ _ i _ => hs.length - (intOf i).toNat)
 case atStart => exact ⟨0, _, _, _, _, Nat.zero_le _, rfl, rfl, rfl, rfl, rfl, Lib.hid rfl, Lib.hid rfl, Lib.hid rfl, Lib.hid rfl, zqd (by simp; omega) (zqd (by simp) (zxc rfl)), zqd (by simp) (zxc (by simp)), zxc (by simp), bl_⟩
 case round =>
  obtain ⟨k, x1, x2, x3, x4, hk, rfl, rfl, rfl, rfl, rfl, H1, H2, H3, H4, hbox, hbi, hbo, hbw⟩ := hrel
  have hbz := hbw.size
  obtain ⟨eh, e0, e1, e2, e3, e4, e5, ef, ezz⟩ := own6 (Below.refl wr.heap.size wr) (gz_ hbox).1 hbox
  have EH := Lib.hid eh
  have s6 : wr.cell? ⟨w.heap.size + 1, 6, none⟩ = some (.int .i64 ci.Score) := zqb hbi 6
  have o0 : wr.cell? ⟨w.heap.size + 1 + 1, 0, none⟩ = some (.int .i64 ch) := zqb hbo 0
  have o1 : wr.cell? ⟨w.heap.size + 1 + 1, 1, none⟩ = some (.int .i64 co.Size) := zqb hbo 1
  have oz := (gz_ hbo).1
  have iz := (gz_ hbi).1
  have EI := Lib.hid hbi
  have EO := Lib.hid hbo
  clear eh hbox hbi hbo
  have bd1 := HS.out.few_bd ch k hk
  have bd2 := HS.out.outH_bd ch k hk
  have bd3 := slotFew_bd (hs := hs) ch k hk
  have bd4 := slot_bd (hs := hs) ch k hk
  rw [H1.out] at bd1
  rw [H2.out] at bd2
  rw [H3.out] at bd3
  rw [H4.out] at bd4
  obtain ⟨l1, u1⟩ := bd1
  obtain ⟨l2, u2⟩ := bd2
  obtain ⟨l3, u3⟩ := bd3
  obtain ⟨l4, u4⟩ := bd4
  by_cases hlt : k < hs.length
  ·
   obtain ⟨b, off, rfl, hbB, c0, c1, c2, c3, c4, c5, c6⟩ := Htlc.rd (HH.out.below hbw) hlt
   obtain ⟨⟨m1, m2⟩, m3, m4⟩ := HS.out.h k hlt
   clear e0 e1 e2 e3 e4 e5 ef s6 o1
   have F1 := Lib.hid (zxi hs (fewH ch) 0 hlt)
   have F2 := Lib.hid (zxi hs (outH ch) 0 hlt)
   have F3 := Lib.hid (zxi hs (slotFewH ch) 0 hlt)
   have F4 := Lib.hid (zxi hs (slotH ch) 0 hlt)
   cases tx : (hs[k].Out == ch)
   ·
    have tn : (hs[k].Out != ch) = true := by simp [bne, tx]
    have K1 := Lib.hid (show fewH ch x1 hs[k] = x1 by simp [fewH, tx])
    have K2 := Lib.hid (show outH ch x2 hs[k] = x2 by simp [outH, tx])
    have K3 := Lib.hid (show slotFewH ch x3 hs[k] = x3 by simp [slotFewH, tx])
    have K4 := Lib.hid (show slotH ch x4 hs[k] = x4 by simp [slotH, tx])
    clear tx
    go_wp2_with fail
    go_roundw
    case rel => exact ⟨k + 1, _, _, _, _, by omega, by go_num, rfl, rfl, rfl, rfl, Lib.hid (by rw [F1.out, H1.out, K1.out]), Lib.hid (by rw [F2.out, H2.out, K2.out]), Lib.hid (by rw [F3.out, H3.out, K3.out]), Lib.hid (by rw [F4.out, H4.out, K4.out]), zqd ezz EH.out, zqd iz EI.out, zqd oz EO.out, bl_⟩
    case measure => simp [intOf]; omega
   ·
    have tn : (hs[k].Out != ch) = false := by simp [bne, tx]
    cases ty : hs[k].Kept
    ·
     have K1 := Lib.hid (show fewH ch x1 hs[k] = x1 + hs[k].AmtOut by simp [fewH, tx, ty])
     have K2 := Lib.hid (show outH ch x2 hs[k] = x2 + hs[k].AmtOut by simp [outH, tx])
     have K3 := Lib.hid (show slotFewH ch x3 hs[k] = x3 + 1 by simp [slotFewH, tx, ty])
     have K4 := Lib.hid (show slotH ch x4 hs[k] = x4 + 1 by simp [slotH, tx])
     clear tx
     go_wp2_with fail
     go_roundw
     case rel => exact ⟨k + 1, _, _, _, _, by omega, by go_num, by first | rfl | go_num, by first | rfl | go_num, by first | rfl | go_num, by first | rfl | go_num, Lib.hid (by rw [F1.out, H1.out, K1.out]), Lib.hid (by rw [F2.out, H2.out, K2.out]), Lib.hid (by rw [F3.out, H3.out, K3.out]), Lib.hid (by rw [F4.out, H4.out, K4.out]), zqd ezz EH.out, zqd iz EI.out, zqd oz EO.out, bl_⟩
     case measure => simp [intOf]; omega
    ·
     have K1 := Lib.hid (show fewH ch x1 hs[k] = x1 by simp [fewH, tx, ty])
     have K2 := Lib.hid (show outH ch x2 hs[k] = x2 + hs[k].AmtOut by simp [outH, tx])
     have K3 := Lib.hid (show slotFewH ch x3 hs[k] = x3 by simp [slotFewH, tx, ty])
     have K4 := Lib.hid (show slotH ch x4 hs[k] = x4 + 1 by simp [slotH, tx])
     clear tx
     go_wp2_with fail
     go_roundw
     case rel => exact ⟨k + 1, _, _, _, _, by omega, by go_num, by first | rfl | go_num, by first | rfl | go_num, by first | rfl | go_num, by first | rfl | go_num, Lib.hid (by rw [F1.out, H1.out, K1.out]), Lib.hid (by rw [F2.out, H2.out, K2.out]), Lib.hid (by rw [F3.out, H3.out, K3.out]), Lib.hid (by rw [F4.out, H4.out, K4.out]), zqd ezz EH.out, zqd iz EI.out, zqd oz EO.out, bl_⟩
     case measure => simp [intOf]; omega
  ·
   obtain rfl : k = hs.length := by omega
   have q1 := H1.out
   have q2 := H2.out
   have q3 := H3.out
   have q4 := H4.out
   rw [List.take_length] at q1 q2 q3 q4
   have HE := Lib.hid (show roomF hs co ch amt ci.Score yes = allowF co.Size x1 x2 x3 x4 amt (standB ci.Score yes) by unfold roomF; rw [q1, q2, q3, q4])
   clear q1 q2 q3 q4 H1 H2 H3 H4
   go_wp2_with fail
   go_quiet (first | (go_at_call 112; exact zxe (s_Standing _ _ _)) | (go_at_call 111; exact zxe (s_Allow _ _ _ _ _ _ _ _ (by omega) (by omega))))
   go_wp2_with fail
   go_ret
   exact ⟨zji HE.out.symm, bl_⟩
end Go.Proofs.Ytcjbjpobpefehaa
