/- Books: what is under way: the walks, the reference's. -/
import Derived.Test.YtcjbjpobpefehaaGreatDoorRows
import Derived.Test.YtcjbjpobpefehaaGreatDoorM2
namespace Go.Proofs.YtcjbjpobpefehaaGreatDoor
open Go.RowKit

set_option maxRecDepth 100000 in
set_option maxHeartbeats 4000000 in
theorem s_l07Out (bt bn bw : Int) (cs : List Chan) (hs : List Htlc) (os : List Circle) (A1 A2 A3 : Option Addr) (p1 p2 p3 : Nat) (ch : Int) (w : World) (hsm : Small hs os) (hr : RdBook w w.heap.size A1 cs A2 hs A3 os) :
    Calls Tryz.prog 24 #[.agg #[.int .i64 bt, .int .i64 bn, .int .i64 bw, .slice A1 cs.length p1, .slice A2 hs.length p2, .slice A3 os.length p3], .int .i64 ch] w fun e w' => e = .returned (.int .i64 (outOf hs os ch)) ∧ Below w.heap.size w w' := by
  have HH := Lib.hid hr.h
  have HO := Lib.hid hr.o
  have HS := Lib.hid hsm
  have h60 := hsm.hl
  have h20 := hsm.ol
  clear hr hsm
  go_enter Tryz.func24, Tryz.ntmps24
  go_wp2_with fail
  go_loopw [5, 13] (fun vx i wr => ∃ (k : Nat) (x : Int), k ≤ hs.length ∧ i = .int .i64 k ∧ vx = .int .i64 x ∧ Hid ((hs.take k).foldl (outH ch) 0 = x) ∧ wr.heap[w.heap.size]? = some (.cells #[.int .i64 bt, .int .i64 bn, .int .i64 bw, .slice A1 cs.length p1, .slice A2 hs.length p2, .slice A3 os.length p3] 27 (0, 0)) ∧ Below w.heap.size w wr) (fun _ i _ => hs.length - (intOf i).toNat)
  case atStart => exact ⟨0, _, Nat.zero_le _, rfl, rfl, Lib.hid rfl, heap_at rfl, by (first | ((repeat' first | (with_reducible (first | exact Below.refl _ _ | assumption | refine Below.setCell ?_ ?_ _ | refine Below.alloc ?_ ?_ _ | refine Below.drew ?_ | refine below_drewN ?_ _ | refine Below.trans ?_ (Below.mono (by assumption) ?_))) | omega | (simp; omega) | (simp; done)); done) | (repeat' first | exact Below.refl _ _ | assumption | refine Below.setCell ?_ (by first | omega | (simp; omega) | (simp; done)) _ | refine Below.alloc ?_ (by first | omega | (simp; omega) | (simp; done)) _ | refine Below.drew ?_ | refine below_drewN ?_ _ | refine Below.trans ?_ (Below.mono (by assumption) (by first | omega | (simp; omega) | (simp; done)))))⟩
  case round =>
    obtain ⟨k, x, hk, rfl, rfl, Hx, hbox, hbw⟩ := hrel
    have hbz := hbw.size
    obtain ⟨eh, e0, e1, e2, e3, e4, e5, ef, ezz⟩ := own6 (Below.refl wr.heap.size wr) (Array.getElem?_eq_some_iff.1 hbox).1 hbox
    have EH := Lib.hid eh
    clear eh hbox
    have bd_x := HS.out.outH_bd ch k hk
    rw [Hx.out] at bd_x
    obtain ⟨x1, x2⟩ := bd_x
    by_cases hlt : k < hs.length
    · obtain ⟨b, off, rfl, hbB, c0, c1, c2, c3, c4, c5, c6⟩ := Htlc.rd (HH.out.below hbw) hlt
      obtain ⟨⟨m1, m2⟩, m3, m4⟩ := HS.out.h k hlt
      clear e0 e1 e2 e3 e4 e5 ef
      have Fx := Lib.hid (foldl_take_succ hs (outH ch) 0 hlt)
      cases tx : (hs[k].Out == ch)
      · have Kx := Lib.hid (show outH ch x hs[k] = x by simp [outH, tx])
        go_wp2_with fail
        go_roundw
        case rel => exact ⟨k + 1, _, by omega, by go_num, by first | rfl | go_num, Lib.hid (by first | (rw [Fx.out, Hx.out, Kx.out]; done) | (rw [Fx.out, Hx.out, Kx.out]; omega)), heap_past ezz EH.out, by (first | ((repeat' first | (with_reducible (first | exact Below.refl _ _ | assumption | refine Below.setCell ?_ ?_ _ | refine Below.alloc ?_ ?_ _ | refine Below.drew ?_ | refine below_drewN ?_ _ | refine Below.trans ?_ (Below.mono (by assumption) ?_))) | omega | (simp; omega) | (simp; done)); done) | (repeat' first | exact Below.refl _ _ | assumption | refine Below.setCell ?_ (by first | omega | (simp; omega) | (simp; done)) _ | refine Below.alloc ?_ (by first | omega | (simp; omega) | (simp; done)) _ | refine Below.drew ?_ | refine below_drewN ?_ _ | refine Below.trans ?_ (Below.mono (by assumption) (by first | omega | (simp; omega) | (simp; done)))))⟩
        case measure => simp [intOf]; omega
      · have Kx := Lib.hid (show outH ch x hs[k] = x + hs[k].AmtOut by simp [outH, tx])
        go_wp2_with fail
        go_roundw
        case rel => exact ⟨k + 1, _, by omega, by go_num, by first | rfl | go_num, Lib.hid (by first | (rw [Fx.out, Hx.out, Kx.out]; done) | (rw [Fx.out, Hx.out, Kx.out]; omega)), heap_past ezz EH.out, by (first | ((repeat' first | (with_reducible (first | exact Below.refl _ _ | assumption | refine Below.setCell ?_ ?_ _ | refine Below.alloc ?_ ?_ _ | refine Below.drew ?_ | refine below_drewN ?_ _ | refine Below.trans ?_ (Below.mono (by assumption) ?_))) | omega | (simp; omega) | (simp; done)); done) | (repeat' first | exact Below.refl _ _ | assumption | refine Below.setCell ?_ (by first | omega | (simp; omega) | (simp; done)) _ | refine Below.alloc ?_ (by first | omega | (simp; omega) | (simp; done)) _ | refine Below.drew ?_ | refine below_drewN ?_ _ | refine Below.trans ?_ (Below.mono (by assumption) (by first | omega | (simp; omega) | (simp; done)))))⟩
        case measure => simp [intOf]; omega
    · obtain rfl : k = hs.length := by omega
      have qx := Hx.out
      rw [List.take_length] at qx
      have Qx := Lib.hid qx
      clear qx
      have HZx : Hid (hs.foldl (outH ch) 0 = x) := Qx
      go_wp2_with fail
      obtain ⟨wo, rfl⟩ : ∃ wo : World, wo = wr := ⟨_, rfl⟩
      go_loopw [5, 29] (fun vu i wr => ∃ (k : Nat) (u : Int), k ≤ os.length ∧ i = .int .i64 k ∧ vu = .int .i64 u ∧ Hid ((os.take k).foldl (outC ch) x = u) ∧ wr.heap[w.heap.size]? = some (.cells #[.int .i64 bt, .int .i64 bn, .int .i64 bw, .slice A1 cs.length p1, .slice A2 hs.length p2, .slice A3 os.length p3] 27 (0, 0)) ∧ Below w.heap.size w wr) (fun _ i _ => os.length - (intOf i).toNat)
      case atStart => exact ⟨0, _, Nat.zero_le _, rfl, rfl, Lib.hid rfl, EH.out, by (first | ((repeat' first | (with_reducible (first | exact Below.refl _ _ | assumption | refine Below.setCell ?_ ?_ _ | refine Below.alloc ?_ ?_ _ | refine Below.drew ?_ | refine below_drewN ?_ _ | refine Below.trans ?_ (Below.mono (by assumption) ?_))) | omega | (simp; omega) | (simp; done)); done) | (repeat' first | exact Below.refl _ _ | assumption | refine Below.setCell ?_ (by first | omega | (simp; omega) | (simp; done)) _ | refine Below.alloc ?_ (by first | omega | (simp; omega) | (simp; done)) _ | refine Below.drew ?_ | refine below_drewN ?_ _ | refine Below.trans ?_ (Below.mono (by assumption) (by first | omega | (simp; omega) | (simp; done)))))⟩
      case round =>
        obtain ⟨k, u, hk, rfl, rfl, Hu, hbox, hbw⟩ := hrel
        have hbz := hbw.size
        obtain ⟨eh, e0, e1, e2, e3, e4, e5, ef, ezz⟩ := own6 (Below.refl wr.heap.size wr) (Array.getElem?_eq_some_iff.1 hbox).1 hbox
        have EH := Lib.hid eh
        clear eh hbox
        have bd_u := HS.out.outC_bd ch x (by omega) k hk
        rw [Hu.out] at bd_u
        obtain ⟨u1, u2⟩ := bd_u
        by_cases hlt : k < os.length
        · obtain ⟨b, off, rfl, hbB, c0, c1, c2, c3, c4⟩ := Circle.rd (HO.out.below hbw) hlt
          obtain ⟨⟨m1, m2⟩, m3, m4⟩ := HS.out.o k hlt
          clear e0 e1 e2 e3 e4 e5 ef
          have Fu := Lib.hid (foldl_take_succ os (outC ch) x hlt)
          cases tu : (os[k].From == ch)
          · have Ku := Lib.hid (show outC ch u os[k] = u by simp [outC, tu])
            go_wp2_with fail
            go_roundw
            case rel => exact ⟨k + 1, _, by omega, by go_num, by first | rfl | go_num, Lib.hid (by first | (rw [Fu.out, Hu.out, Ku.out]; done) | (rw [Fu.out, Hu.out, Ku.out]; omega)), heap_past ezz EH.out, by (first | ((repeat' first | (with_reducible (first | exact Below.refl _ _ | assumption | refine Below.setCell ?_ ?_ _ | refine Below.alloc ?_ ?_ _ | refine Below.drew ?_ | refine below_drewN ?_ _ | refine Below.trans ?_ (Below.mono (by assumption) ?_))) | omega | (simp; omega) | (simp; done)); done) | (repeat' first | exact Below.refl _ _ | assumption | refine Below.setCell ?_ (by first | omega | (simp; omega) | (simp; done)) _ | refine Below.alloc ?_ (by first | omega | (simp; omega) | (simp; done)) _ | refine Below.drew ?_ | refine below_drewN ?_ _ | refine Below.trans ?_ (Below.mono (by assumption) (by first | omega | (simp; omega) | (simp; done)))))⟩
            case measure => simp [intOf]; omega
          · have Ku := Lib.hid (show outC ch u os[k] = u + (os[k].Amt + os[k].Fee) by simp [outC, tu])
            go_wp2_with fail
            go_roundw
            case rel => exact ⟨k + 1, _, by omega, by go_num, by first | rfl | go_num, Lib.hid (by first | (rw [Fu.out, Hu.out, Ku.out]; done) | (rw [Fu.out, Hu.out, Ku.out]; omega)), heap_past ezz EH.out, by (first | ((repeat' first | (with_reducible (first | exact Below.refl _ _ | assumption | refine Below.setCell ?_ ?_ _ | refine Below.alloc ?_ ?_ _ | refine Below.drew ?_ | refine below_drewN ?_ _ | refine Below.trans ?_ (Below.mono (by assumption) ?_))) | omega | (simp; omega) | (simp; done)); done) | (repeat' first | exact Below.refl _ _ | assumption | refine Below.setCell ?_ (by first | omega | (simp; omega) | (simp; done)) _ | refine Below.alloc ?_ (by first | omega | (simp; omega) | (simp; done)) _ | refine Below.drew ?_ | refine below_drewN ?_ _ | refine Below.trans ?_ (Below.mono (by assumption) (by first | omega | (simp; omega) | (simp; done)))))⟩
            case measure => simp [intOf]; omega
        · obtain rfl : k = os.length := by omega
          have qu := Hu.out
          rw [List.take_length] at qu
          have Qu := Lib.hid qu
          clear qu
          go_wp2_with fail
          go_ret
          have Ex : outOf hs os ch = u := by unfold outOf; rw [HZx.out, Qu.out]
          refine ⟨?_, by (first | ((repeat' first | (with_reducible (first | exact Below.refl _ _ | assumption | refine Below.setCell ?_ ?_ _ | refine Below.alloc ?_ ?_ _ | refine Below.drew ?_ | refine below_drewN ?_ _ | refine Below.trans ?_ (Below.mono (by assumption) ?_))) | omega | (simp; omega) | (simp; done)); done) | (repeat' first | exact Below.refl _ _ | assumption | refine Below.setCell ?_ (by first | omega | (simp; omega) | (simp; done)) _ | refine Below.alloc ?_ (by first | omega | (simp; omega) | (simp; done)) _ | refine Below.drew ?_ | refine below_drewN ?_ _ | refine Below.trans ?_ (Below.mono (by assumption) (by first | omega | (simp; omega) | (simp; done)))))⟩
          rw [Ex]
          rfl
set_option maxRecDepth 100000 in
set_option maxHeartbeats 4000000 in
theorem s_l07In (bt bn bw : Int) (cs : List Chan) (hs : List Htlc) (os : List Circle) (A1 A2 A3 : Option Addr) (p1 p2 p3 : Nat) (ch : Int) (w : World) (hsm : Small hs os) (hr : RdBook w w.heap.size A1 cs A2 hs A3 os) :
    Calls Tryz.prog 25 #[.agg #[.int .i64 bt, .int .i64 bn, .int .i64 bw, .slice A1 cs.length p1, .slice A2 hs.length p2, .slice A3 os.length p3], .int .i64 ch] w fun e w' => e = .returned (.int .i64 (inOf hs os ch)) ∧ Below w.heap.size w w' := by
  have HH := Lib.hid hr.h
  have HO := Lib.hid hr.o
  have HS := Lib.hid hsm
  have h60 := hsm.hl
  have h20 := hsm.ol
  clear hr hsm
  go_enter Tryz.func25, Tryz.ntmps25
  go_wp2_with fail
  go_loopw [5, 13] (fun vy i wr => ∃ (k : Nat) (y : Int), k ≤ hs.length ∧ i = .int .i64 k ∧ vy = .int .i64 y ∧ Hid ((hs.take k).foldl (inH ch) 0 = y) ∧ wr.heap[w.heap.size]? = some (.cells #[.int .i64 bt, .int .i64 bn, .int .i64 bw, .slice A1 cs.length p1, .slice A2 hs.length p2, .slice A3 os.length p3] 27 (0, 0)) ∧ Below w.heap.size w wr) (fun _ i _ => hs.length - (intOf i).toNat)
  case atStart => exact ⟨0, _, Nat.zero_le _, rfl, rfl, Lib.hid rfl, heap_at rfl, by (first | ((repeat' first | (with_reducible (first | exact Below.refl _ _ | assumption | refine Below.setCell ?_ ?_ _ | refine Below.alloc ?_ ?_ _ | refine Below.drew ?_ | refine below_drewN ?_ _ | refine Below.trans ?_ (Below.mono (by assumption) ?_))) | omega | (simp; omega) | (simp; done)); done) | (repeat' first | exact Below.refl _ _ | assumption | refine Below.setCell ?_ (by first | omega | (simp; omega) | (simp; done)) _ | refine Below.alloc ?_ (by first | omega | (simp; omega) | (simp; done)) _ | refine Below.drew ?_ | refine below_drewN ?_ _ | refine Below.trans ?_ (Below.mono (by assumption) (by first | omega | (simp; omega) | (simp; done)))))⟩
  case round =>
    obtain ⟨k, y, hk, rfl, rfl, Hy, hbox, hbw⟩ := hrel
    have hbz := hbw.size
    obtain ⟨eh, e0, e1, e2, e3, e4, e5, ef, ezz⟩ := own6 (Below.refl wr.heap.size wr) (Array.getElem?_eq_some_iff.1 hbox).1 hbox
    have EH := Lib.hid eh
    clear eh hbox
    have bd_y := HS.out.inH_bd ch k hk
    rw [Hy.out] at bd_y
    obtain ⟨y1, y2⟩ := bd_y
    by_cases hlt : k < hs.length
    · obtain ⟨b, off, rfl, hbB, c0, c1, c2, c3, c4, c5, c6⟩ := Htlc.rd (HH.out.below hbw) hlt
      obtain ⟨⟨m1, m2⟩, m3, m4⟩ := HS.out.h k hlt
      clear e0 e1 e2 e3 e4 e5 ef
      have Fy := Lib.hid (foldl_take_succ hs (inH ch) 0 hlt)
      cases ty : (hs[k].In == ch)
      · have Ky := Lib.hid (show inH ch y hs[k] = y by simp [inH, ty])
        go_wp2_with fail
        go_roundw
        case rel => exact ⟨k + 1, _, by omega, by go_num, by first | rfl | go_num, Lib.hid (by first | (rw [Fy.out, Hy.out, Ky.out]; done) | (rw [Fy.out, Hy.out, Ky.out]; omega)), heap_past ezz EH.out, by (first | ((repeat' first | (with_reducible (first | exact Below.refl _ _ | assumption | refine Below.setCell ?_ ?_ _ | refine Below.alloc ?_ ?_ _ | refine Below.drew ?_ | refine below_drewN ?_ _ | refine Below.trans ?_ (Below.mono (by assumption) ?_))) | omega | (simp; omega) | (simp; done)); done) | (repeat' first | exact Below.refl _ _ | assumption | refine Below.setCell ?_ (by first | omega | (simp; omega) | (simp; done)) _ | refine Below.alloc ?_ (by first | omega | (simp; omega) | (simp; done)) _ | refine Below.drew ?_ | refine below_drewN ?_ _ | refine Below.trans ?_ (Below.mono (by assumption) (by first | omega | (simp; omega) | (simp; done)))))⟩
        case measure => simp [intOf]; omega
      · have Ky := Lib.hid (show inH ch y hs[k] = y + hs[k].AmtIn by simp [inH, ty])
        go_wp2_with fail
        go_roundw
        case rel => exact ⟨k + 1, _, by omega, by go_num, by first | rfl | go_num, Lib.hid (by first | (rw [Fy.out, Hy.out, Ky.out]; done) | (rw [Fy.out, Hy.out, Ky.out]; omega)), heap_past ezz EH.out, by (first | ((repeat' first | (with_reducible (first | exact Below.refl _ _ | assumption | refine Below.setCell ?_ ?_ _ | refine Below.alloc ?_ ?_ _ | refine Below.drew ?_ | refine below_drewN ?_ _ | refine Below.trans ?_ (Below.mono (by assumption) ?_))) | omega | (simp; omega) | (simp; done)); done) | (repeat' first | exact Below.refl _ _ | assumption | refine Below.setCell ?_ (by first | omega | (simp; omega) | (simp; done)) _ | refine Below.alloc ?_ (by first | omega | (simp; omega) | (simp; done)) _ | refine Below.drew ?_ | refine below_drewN ?_ _ | refine Below.trans ?_ (Below.mono (by assumption) (by first | omega | (simp; omega) | (simp; done)))))⟩
        case measure => simp [intOf]; omega
    · obtain rfl : k = hs.length := by omega
      have qy := Hy.out
      rw [List.take_length] at qy
      have Qy := Lib.hid qy
      clear qy
      have HZy : Hid (hs.foldl (inH ch) 0 = y) := Qy
      go_wp2_with fail
      obtain ⟨wo, rfl⟩ : ∃ wo : World, wo = wr := ⟨_, rfl⟩
      go_loopw [5, 29] (fun vq i wr => ∃ (k : Nat) (q : Int), k ≤ os.length ∧ i = .int .i64 k ∧ vq = .int .i64 q ∧ Hid ((os.take k).foldl (inC ch) y = q) ∧ wr.heap[w.heap.size]? = some (.cells #[.int .i64 bt, .int .i64 bn, .int .i64 bw, .slice A1 cs.length p1, .slice A2 hs.length p2, .slice A3 os.length p3] 27 (0, 0)) ∧ Below w.heap.size w wr) (fun _ i _ => os.length - (intOf i).toNat)
      case atStart => exact ⟨0, _, Nat.zero_le _, rfl, rfl, Lib.hid rfl, EH.out, by (first | ((repeat' first | (with_reducible (first | exact Below.refl _ _ | assumption | refine Below.setCell ?_ ?_ _ | refine Below.alloc ?_ ?_ _ | refine Below.drew ?_ | refine below_drewN ?_ _ | refine Below.trans ?_ (Below.mono (by assumption) ?_))) | omega | (simp; omega) | (simp; done)); done) | (repeat' first | exact Below.refl _ _ | assumption | refine Below.setCell ?_ (by first | omega | (simp; omega) | (simp; done)) _ | refine Below.alloc ?_ (by first | omega | (simp; omega) | (simp; done)) _ | refine Below.drew ?_ | refine below_drewN ?_ _ | refine Below.trans ?_ (Below.mono (by assumption) (by first | omega | (simp; omega) | (simp; done)))))⟩
      case round =>
        obtain ⟨k, q, hk, rfl, rfl, Hq, hbox, hbw⟩ := hrel
        have hbz := hbw.size
        obtain ⟨eh, e0, e1, e2, e3, e4, e5, ef, ezz⟩ := own6 (Below.refl wr.heap.size wr) (Array.getElem?_eq_some_iff.1 hbox).1 hbox
        have EH := Lib.hid eh
        clear eh hbox
        have bd_q := HS.out.inC_bd ch y (by omega) k hk
        rw [Hq.out] at bd_q
        obtain ⟨q1, q2⟩ := bd_q
        by_cases hlt : k < os.length
        · obtain ⟨b, off, rfl, hbB, c0, c1, c2, c3, c4⟩ := Circle.rd (HO.out.below hbw) hlt
          obtain ⟨⟨m1, m2⟩, m3, m4⟩ := HS.out.o k hlt
          clear e0 e1 e2 e3 e4 e5 ef
          have Fq := Lib.hid (foldl_take_succ os (inC ch) y hlt)
          cases tq : (os[k].To == ch)
          · have Kq := Lib.hid (show inC ch q os[k] = q by simp [inC, tq])
            go_wp2_with fail
            go_roundw
            case rel => exact ⟨k + 1, _, by omega, by go_num, by first | rfl | go_num, Lib.hid (by first | (rw [Fq.out, Hq.out, Kq.out]; done) | (rw [Fq.out, Hq.out, Kq.out]; omega)), heap_past ezz EH.out, by (first | ((repeat' first | (with_reducible (first | exact Below.refl _ _ | assumption | refine Below.setCell ?_ ?_ _ | refine Below.alloc ?_ ?_ _ | refine Below.drew ?_ | refine below_drewN ?_ _ | refine Below.trans ?_ (Below.mono (by assumption) ?_))) | omega | (simp; omega) | (simp; done)); done) | (repeat' first | exact Below.refl _ _ | assumption | refine Below.setCell ?_ (by first | omega | (simp; omega) | (simp; done)) _ | refine Below.alloc ?_ (by first | omega | (simp; omega) | (simp; done)) _ | refine Below.drew ?_ | refine below_drewN ?_ _ | refine Below.trans ?_ (Below.mono (by assumption) (by first | omega | (simp; omega) | (simp; done)))))⟩
            case measure => simp [intOf]; omega
          · have Kq := Lib.hid (show inC ch q os[k] = q + os[k].Amt by simp [inC, tq])
            go_wp2_with fail
            go_roundw
            case rel => exact ⟨k + 1, _, by omega, by go_num, by first | rfl | go_num, Lib.hid (by first | (rw [Fq.out, Hq.out, Kq.out]; done) | (rw [Fq.out, Hq.out, Kq.out]; omega)), heap_past ezz EH.out, by (first | ((repeat' first | (with_reducible (first | exact Below.refl _ _ | assumption | refine Below.setCell ?_ ?_ _ | refine Below.alloc ?_ ?_ _ | refine Below.drew ?_ | refine below_drewN ?_ _ | refine Below.trans ?_ (Below.mono (by assumption) ?_))) | omega | (simp; omega) | (simp; done)); done) | (repeat' first | exact Below.refl _ _ | assumption | refine Below.setCell ?_ (by first | omega | (simp; omega) | (simp; done)) _ | refine Below.alloc ?_ (by first | omega | (simp; omega) | (simp; done)) _ | refine Below.drew ?_ | refine below_drewN ?_ _ | refine Below.trans ?_ (Below.mono (by assumption) (by first | omega | (simp; omega) | (simp; done)))))⟩
            case measure => simp [intOf]; omega
        · obtain rfl : k = os.length := by omega
          have qq := Hq.out
          rw [List.take_length] at qq
          have Qq := Lib.hid qq
          clear qq
          go_wp2_with fail
          go_ret
          have Ey : inOf hs os ch = q := by unfold inOf; rw [HZy.out, Qq.out]
          refine ⟨?_, by (first | ((repeat' first | (with_reducible (first | exact Below.refl _ _ | assumption | refine Below.setCell ?_ ?_ _ | refine Below.alloc ?_ ?_ _ | refine Below.drew ?_ | refine below_drewN ?_ _ | refine Below.trans ?_ (Below.mono (by assumption) ?_))) | omega | (simp; omega) | (simp; done)); done) | (repeat' first | exact Below.refl _ _ | assumption | refine Below.setCell ?_ (by first | omega | (simp; omega) | (simp; done)) _ | refine Below.alloc ?_ (by first | omega | (simp; omega) | (simp; done)) _ | refine Below.drew ?_ | refine below_drewN ?_ _ | refine Below.trans ?_ (Below.mono (by assumption) (by first | omega | (simp; omega) | (simp; done)))))⟩
          rw [Ey]
          rfl
end Go.Proofs.YtcjbjpobpefehaaGreatDoor
