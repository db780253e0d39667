/- BookText: the walks. -/
import Derived.Test.YtcjbjpobpefehaaGreatDoorRows
import Derived.Test.YtcjbjpobpefehaaGreatDoorBM3
import Derived.IntWalk
import Derived.Test.YtcjbjpobpefehaaGreatDoorBBookOi
import Derived.Test.YtcjbjpobpefehaaGreatDoorBBookOs
import Derived.Test.YtcjbjpobpefehaaGreatDoorBM2
import Derived.Deep.RegionHeld3
namespace Go.Proofs.YtcjbjpobpefehaaGreatDoor
open Go.RowKit
theorem rd_ints {w : World} {b : Nat} {e : TypeId} (ns : List Int) (h : w.heap[b]? = some (.cells (ns.map (Value.int .i64)).toArray e (0, 0))) : Rd w w.heap.size 1 (some ⟨b, 0, none⟩) (ns.map intCells) := by
 refine ⟨ints_uni ns, fun _ => ⟨b, 0, rfl, (gz_ h).1, fun i r j v h1 h2 => ?_⟩⟩
 rw [List.getElem?_map] at h1
 cases hx : ns[i]? with
 | none => rw [hx] at h1; cases h1
 | some x =>
  rw [hx] at h1
  have hr : intCells x = r := by simpa using h1
  subst hr
  cases j with
  | zero =>
   rw [zqc h]
   have hv : Value.int .i64 x = v := by simpa [intCells] using h2
   subst hv
   simp [hx]
  | succ j => simp [intCells] at h2
set_option maxRecDepth 100000 in
set_option maxHeartbeats 4000000 in
theorem i_BookText (bt bn bw : Int) (cs : List Chan) (hs : List Htlc) (os : List Circle) (A1 A2 A3 : Option Addr) (p1 p2 p3 : Nat) (w : World) (hld : Ld w) (hlc : cs.length ≤ 1048576) (hlh : hs.length ≤ 1048576) (hlo : os.length ≤ 1048576) (hr : RdBook w w.heap.size A1 cs A2 hs A3 os) :
  Calls Tryz.prog 6 #[.agg #[.int .i64 bt, .int .i64 bn, .int .i64 bw, .slice A1 cs.length p1, .slice A2 hs.length p2, .slice A3 os.length p3]] w fun e w' => e = .returned (.string ⟨(bookL bt bn bw cs hs os).toArray⟩) ∧ Below w.heap.size w w' := by
 have HLD := Lib.hid hld
 clear hld
 have HR := Lib.hid hr
 clear hr
 cases hb : bookB bt bn bw cs hs os
 ·
  have HB := Lib.hid hb
  have HE := Lib.hid (show bookL bt bn bw cs hs os = [] by unfold bookL; rw [hb]; rfl)
  clear hb
  go_enter Tryz.func6, Tryz.ntmps6
  go_wp2_with fail
  refine (i_BookOk bt bn bw cs hs os _ _ _ _ _ _ _ hlc hlh hlo ((HR.out.below (bl_)).more (by first | omega | (simp; omega) | (simp; done)))).mono ?_
  rintro e w1 ⟨rfl, hb1⟩
  have z1 := hb1.size
  try simp at z1
  rw [HB.out]
  go_wp2_with fail
  go_ret
  exact ⟨by rw [HE.out]; rfl, bl_⟩
 ·
  have HB := Lib.hid hb
  have HE := Lib.hid (show bookL bt bn bw cs hs os = headC bt bn bw ++ [10] ++ rows10 chanC cs ++ rows10 htlcC hs ++ rows10 circC os ++ (overW ++ [10]) by unfold bookL; rw [hb]; rfl)
  have hf := zwj hb
  have hc20 : cs.length ≤ 20 := hf.cl
  have hh60 : hs.length ≤ 60 := hf.small.hl
  have ho20 : os.length ≤ 20 := hf.small.ol
  clear hb hf
  go_enter Tryz.func6, Tryz.ntmps6
  go_wp2_with fail
  refine (i_BookOk bt bn bw cs hs os _ _ _ _ _ _ _ hlc hlh hlo ((HR.out.below (bl_)).more (by first | omega | (simp; omega) | (simp; done)))).mono ?_
  rintro e w1 ⟨rfl, hb1⟩
  have z1 := hb1.size
  try simp at z1
  rw [HB.out]
  obtain ⟨eh, e0, e1, e2, e3, e4, e5, ef, ez⟩ := own6 (g := w.heap.size) hb1 (by first | omega | (simp; omega) | (simp; done)) (hp_)
  have hbA : Below w.heap.size w w1 := bl_
  have h_h := headC_len bt bn bw
  go_wp2_with fail
  refine (zhe [98, 111, 111, 107] _ [bt, bn, bw] _ _ _ (HLD.out.below (bl_)) rfl (by simp) (by simp) (rd_ints [bt, bn, bw] (zxa (by first | rfl | (simp; done))))).mono ?_
  rintro e w2 ⟨rfl, hb2⟩
  have z2 := hb2.size
  (try simp at z2)
  obtain ⟨s0, hs0', hs0⟩ := zhb (headC bt bn bw)
  have e0' : numsC [98, 111, 111, 107] [bt, bn, bw] = headC bt bn bw := rfl
  rw [e0', hs0']
  clear hs0' e0'
  obtain ⟨t0, ht0, hadd0⟩ := zhd hs0.out (str_lit (l := [10]) rfl) (by first | omega | (simp; omega))
  have eh2 := zqf hb2 (by simp; omega) (zqe (by omega) eh)
  have hbB : Below w.heap.size w w2 := bl_
  obtain ⟨P0, hP0⟩ : ∃ P, headC bt bn bw ++ [10] = P := ⟨_, rfl⟩
  have hPl0 : P0.length ≤ 59 := by rw [← hP0]; simp; omega
  rw [hP0] at ht0 HE
  have HS0 : Hid (Str (P0 ++ rows10 chanC (cs.take 0)) t0) := Lib.hid (by simpa [rows10] using ht0.out)
  obtain ⟨_, f0, f1, f2, f3, f4, f5, ff, fz⟩ := own6 (g := w.heap.size) (Below.refl _ w2) (by omega) eh2
  have EH2 := Lib.hid eh2
  clear eh e0 e1 e2 e3 e4 e5 ef hb1 hb2 hP0 ht0 eh2 hbA h_h
  go_wp2_with fail
  clear f0 f1 f2 f3 f4 f5 ff
  go_loopw [3, 26] (fun v i wr => ∃ (k : Nat) (S : ByteArray), k ≤ cs.length ∧ i = .int .i64 k ∧ v = .string S ∧ Hid (Str (P0 ++ rows10 chanC (cs.take k)) S) ∧ wr.heap[w.heap.size]? = some (.cells #[.int .i64 bt, .int .i64 bn, .int .i64 bw, .slice A1 cs.length p1, .slice A2 hs.length p2, .slice A3 os.length p3] 27 (0, 0)) ∧ Below w.heap.size w wr) (fun _ i _ => cs.length - (intOf i).toNat)
  case atStart => exact ⟨0, t0, Nat.zero_le _, rfl, rfl, HS0, EH2.out, hbB⟩
  case round =>
   clear HS0 EH2 hbB
   obtain ⟨k, S, hk, rfl, rfl, hS, hbox, hbw⟩ := hrel
   have hbz := hbw.size
   have hbl := (gz_ hbox).1
   have HBox := Lib.hid hbox
   clear hbox
   by_cases hlt : k < cs.length
   ·
    obtain ⟨b, off, rfl, hbB, c0, c1, c2, c3, c4, c5, c6⟩ := Chan.rd (HR.out.c.below hbw) hlt
    have HK := Lib.hid (rows10_succ chanC cs hlt)
    have hOl : (P0 ++ rows10 chanC (cs.take k)).length ≤ 20000 := by
     have h1 := zwg chanC_len (cs.take k)
     have h2 : (cs.take k).length ≤ cs.length := by rw [List.length_take]; omega
     rw [List.length_append]
     omega
    have h_e := chanC_len cs[k]
    have HK2 := Lib.hid (show P0 ++ rows10 chanC (cs.take (k + 1)) = (P0 ++ rows10 chanC (cs.take k)) ++ (chanC cs[k] ++ [10]) by rw [HK.out, List.append_assoc])
    obtain ⟨O, hO⟩ : ∃ O, P0 ++ rows10 chanC (cs.take k) = O := ⟨_, rfl⟩
    rw [hO] at HK2 hOl hS
    clear hO HK
    have HK := HK2
    clear HK2
    go_wp2_with fail
    refine (zhe [99, 104, 97, 110] _ [cs[k].Id, cs[k].Size, cs[k].Local, cs[k].Remote, cs[k].Base, cs[k].Ppm, cs[k].Score] _ _ _ (HLD.out.below (bl_)) rfl (by simp) (by simp) (rd_ints [cs[k].Id, cs[k].Size, cs[k].Local, cs[k].Remote, cs[k].Base, cs[k].Ppm, cs[k].Score] (zxa (by first | rfl | (simp; done))))).mono ?_
    rintro e w5 ⟨rfl, hb5⟩
    have z5 := hb5.size
    (try simp at z5)
    obtain ⟨s1, hs1', hs1⟩ := zhb (chanC cs[k])
    have e1' : numsC [99, 104, 97, 110] [cs[k].Id, cs[k].Size, cs[k].Local, cs[k].Remote, cs[k].Base, cs[k].Ppm, cs[k].Score] = chanC cs[k] := rfl
    rw [e1', hs1']
    clear hs1' e1'
    obtain ⟨q0, hq0, haddq0⟩ := zhd hs1.out (str_lit (l := [10]) rfl) (by first | omega | (simp; omega))
    obtain ⟨q1, hq1, haddq1⟩ := zhd hS.out hq0.out (by first | omega | (simp; omega))
    have hx5 := zqf hb5 (by simp; omega) (zqe (by simp; omega) (zqe hbl HBox.out))
    have hbC : Below w.heap.size w w5 := bl_
    clear hb5
    go_wp2_with fail
    go_roundw
    case rel => exact ⟨k + 1, _, by omega, by go_num, rfl, Lib.hid (by
       rw [HK.out]
       have h := hq1.out
       unfold Str at h ⊢
       rw [h]
       try simp), hx5, hbC⟩
    case measure => simp [intOf]; omega
   ·
    obtain rfl : k = cs.length := by omega
    rw [List.take_length] at hS
    obtain ⟨_, f0, f1, f2, f3, f4, f5, ff, fz⟩ := own6 (g := w.heap.size) (Below.refl _ wr) hbl HBox.out
    have hPl1 : (P0 ++ rows10 chanC cs).length ≤ 2679 := by
     have h1 := zwg chanC_len cs
     rw [List.length_append]
     omega
    obtain ⟨P1, hP1⟩ : ∃ P, P0 ++ rows10 chanC cs = P := ⟨_, rfl⟩
    rw [hP1] at hS HE hPl1
    have HS1 : Hid (Str (P1 ++ rows10 htlcC (hs.take 0)) S) := Lib.hid (by simpa [rows10] using hS.out)
    have EH2 := HBox
    have hbB := hbw
    obtain ⟨t1, rfl⟩ : ∃ t, t = S := ⟨_, rfl⟩
    clear hP1 hS HBox
    go_wp2_with fail
    clear f0 f1 f2 f3 f4 f5 ff
    obtain ⟨wq1, rfl⟩ : ∃ wq : World, wq = wr := ⟨_, rfl⟩
    go_loopw [3, 53] (fun v i wr => ∃ (k : Nat) (S : ByteArray), k ≤ hs.length ∧ i = .int .i64 k ∧ v = .string S ∧ Hid (Str (P1 ++ rows10 htlcC (hs.take k)) S) ∧ wr.heap[w.heap.size]? = some (.cells #[.int .i64 bt, .int .i64 bn, .int .i64 bw, .slice A1 cs.length p1, .slice A2 hs.length p2, .slice A3 os.length p3] 27 (0, 0)) ∧ Below w.heap.size w wr) (fun _ i _ => hs.length - (intOf i).toNat)
    case atStart => exact ⟨0, t1, Nat.zero_le _, rfl, rfl, HS1, EH2.out, hbB⟩
    case round =>
     clear HS1 EH2 hbB 
     obtain ⟨k, S, hk, rfl, rfl, hS, hbox, hbw⟩ := hrel
     have hbz := hbw.size
     have hbl := (gz_ hbox).1
     have HBox := Lib.hid hbox
     clear hbox
     by_cases hlt : k < hs.length
     ·
      obtain ⟨b, off, rfl, hbB, c0, c1, c2, c3, c4, c5, c6⟩ := Htlc.rd (HR.out.h.below hbw) hlt
      have HK := Lib.hid (rows10_succ htlcC hs hlt)
      have hOl : (P1 ++ rows10 htlcC (hs.take k)).length ≤ 20000 := by
       have h1 := zwg htlcC_len (hs.take k)
       have h2 : (hs.take k).length ≤ hs.length := by rw [List.length_take]; omega
       rw [List.length_append]
       omega
      have h_e := htlcC_len hs[k]
      have HK2 := Lib.hid (show P1 ++ rows10 htlcC (hs.take (k + 1)) = (P1 ++ rows10 htlcC (hs.take k)) ++ (numsC htlcW [hs[k].Key, hs[k].In, hs[k].Out, hs[k].AmtIn, hs[k].AmtOut] ++ (32 :: (keptW hs[k].Kept ++ 32 :: numL hs[k].Age)) ++ [10]) by rw [HK.out, htlcC_eq]; simp only [List.append_assoc])
      obtain ⟨O, hO⟩ : ∃ O, P1 ++ rows10 htlcC (hs.take k) = O := ⟨_, rfl⟩
      rw [hO] at HK2 hOl hS
      clear hO HK
      have HK := HK2
      clear HK2
      have h_n := numL_len hs[k].Age
      have h_w := zyn htlcW [hs[k].Key, hs[k].In, hs[k].Out, hs[k].AmtIn, hs[k].AmtOut]
      have h_w2 : (numsC htlcW [hs[k].Key, hs[k].In, hs[k].Out, hs[k].AmtIn, hs[k].AmtOut]).length ≤ 100 := Nat.le_trans h_w (by simp [htlcW])
      clear h_w
      obtain ⟨kp, hkp⟩ : ∃ kp, hs[k].Kept = kp := ⟨_, rfl⟩
      rw [hkp] at c5 HK
      obtain ⟨jh, j0, j1, j2, j3, j4, j5, j6, jf, jz⟩ := own7 (g := wr.heap.size) (Below.refl _ (wr.alloc (.cells #[.int .i64 hs[k].Key, .int .i64 hs[k].In, .int .i64 hs[k].Out, .int .i64 hs[k].AmtIn, .int .i64 hs[k].AmtOut, .bool kp, .int .i64 hs[k].Age] 46))) (by simp) (zxa rfl)
      cases kp
      ·
       skip
       go_wp2_with fail
       go_region_held3 (fun w' => w'.cell? ⟨wr.heap.size, 0, none⟩ = some (.int .i64 hs[k].Key) ∧ w'.cell? ⟨wr.heap.size, 1, none⟩ = some (.int .i64 hs[k].In) ∧ w'.cell? ⟨wr.heap.size, 2, none⟩ = some (.int .i64 hs[k].Out) ∧ w'.cell? ⟨wr.heap.size, 3, none⟩ = some (.int .i64 hs[k].AmtIn) ∧ w'.cell? ⟨wr.heap.size, 4, none⟩ = some (.int .i64 hs[k].AmtOut) ∧ w'.cell? ⟨wr.heap.size, 6, none⟩ = some (.int .i64 hs[k].Age))
        (first | exact ⟨j0, j1, j2, j3, j4, j6⟩ | exact ⟨zqj (by first | (simp; done) | (simp; omega)) j0, zqj (by first | (simp; done) | (simp; omega)) j1, zqj (by first | (simp; done) | (simp; omega)) j2, zqj (by first | (simp; done) | (simp; omega)) j3, zqj (by first | (simp; done) | (simp; omega)) j4, zqj (by first | (simp; done) | (simp; omega)) j6⟩ | exact ⟨a0, a1, a2, a3, a4, a6⟩ | exact ⟨b0, b1, b2, b3, b4, b6⟩)
        (first
         | (go_at_call 19; refine (zhe [104, 116, 108, 99] _ [hs[k].Key, hs[k].In, hs[k].Out, hs[k].AmtIn, hs[k].AmtOut] _ _ _ (HLD.out.below (bl_)) rfl (by simp) (by simp) (rd_ints [hs[k].Key, hs[k].In, hs[k].Out, hs[k].AmtIn, hs[k].AmtOut] (hp_))).mono ?_; rintro e wa ⟨rfl, hba⟩; have za := hba.size; (try simp at za); obtain ⟨sa, hsa', hsa⟩ := zhb (numsC [104, 116, 108, 99] [hs[k].Key, hs[k].In, hs[k].Out, hs[k].AmtIn, hs[k].AmtOut]); rw [hsa']; clear hsa'; obtain ⟨ah, a0, a1, a2, a3, a4, a5, a6, af, az⟩ := own7 (g := wr.heap.size) hba (by first | omega | (simp; omega) | (simp; done)) (hp_); have h_w3 : (numsC [104, 116, 108, 99] [hs[k].Key, hs[k].In, hs[k].Out, hs[k].AmtIn, hs[k].AmtOut]).length ≤ 100 := h_w2; obtain ⟨q0, hq0, haddq0⟩ := zhd hsa.out (str_lit (l := [32, 102, 101, 119, 32]) rfl) (by first | omega | (simp; omega)))
         | (go_at_call 20; refine (i_NumText _ _ (HLD.out.below (bl_))).mono ?_; rintro e wb ⟨rfl, hbb⟩; have zb := hbb.size; (try simp at zb); obtain ⟨sb, hsb', hsb⟩ := zhb (numL hs[k].Age); rw [hsb']; clear hsb'; obtain ⟨bh, b0, b1, b2, b3, b4, b5, b6, bf, bz⟩ := own7 (g := wr.heap.size) hbb (by first | omega | (simp; omega) | (simp; done)) (hp_); obtain ⟨q1, hq1, haddq1⟩ := zhd hq0.out hsb.out (by first | omega | (simp; omega)); obtain ⟨q2, hq2, haddq2⟩ := zhd hq1.out (str_lit (l := [10]) rfl) (by first | omega | (simp; omega)); obtain ⟨q3, hq3, haddq3⟩ := zhd hS.out hq2.out (by first | omega | (simp; omega))))
       all_goals
        have hx5 : wb.heap[w.heap.size]? = _ := zqf hbb (by first | omega | (simp; omega)) (zqf hba (by first | omega | (simp; omega)) (zqm (zqe (by first | omega | (simp; omega)) (zqe hbl HBox.out))))
        have hbC : Below w.heap.size w wb := bl_
        go_wp2_with fail
        go_roundw
        case rel => exact ⟨k + 1, _, by omega, by go_num, rfl, Lib.hid (by
           rw [HK.out]
           have h := hq3.out
           unfold Str at h ⊢
           rw [h]
           simp [keptW, htlcW]), hx5, hbC⟩
        case measure => simp [intOf]; omega
      ·
       skip
       go_wp2_with fail
       go_region_held3 (fun w' => w'.cell? ⟨wr.heap.size, 0, none⟩ = some (.int .i64 hs[k].Key) ∧ w'.cell? ⟨wr.heap.size, 1, none⟩ = some (.int .i64 hs[k].In) ∧ w'.cell? ⟨wr.heap.size, 2, none⟩ = some (.int .i64 hs[k].Out) ∧ w'.cell? ⟨wr.heap.size, 3, none⟩ = some (.int .i64 hs[k].AmtIn) ∧ w'.cell? ⟨wr.heap.size, 4, none⟩ = some (.int .i64 hs[k].AmtOut) ∧ w'.cell? ⟨wr.heap.size, 6, none⟩ = some (.int .i64 hs[k].Age))
        (first | exact ⟨j0, j1, j2, j3, j4, j6⟩ | exact ⟨zqj (by first | (simp; done) | (simp; omega)) j0, zqj (by first | (simp; done) | (simp; omega)) j1, zqj (by first | (simp; done) | (simp; omega)) j2, zqj (by first | (simp; done) | (simp; omega)) j3, zqj (by first | (simp; done) | (simp; omega)) j4, zqj (by first | (simp; done) | (simp; omega)) j6⟩ | exact ⟨a0, a1, a2, a3, a4, a6⟩ | exact ⟨b0, b1, b2, b3, b4, b6⟩)
        (first
         | (go_at_call 19; refine (zhe [104, 116, 108, 99] _ [hs[k].Key, hs[k].In, hs[k].Out, hs[k].AmtIn, hs[k].AmtOut] _ _ _ (HLD.out.below (bl_)) rfl (by simp) (by simp) (rd_ints [hs[k].Key, hs[k].In, hs[k].Out, hs[k].AmtIn, hs[k].AmtOut] (hp_))).mono ?_; rintro e wa ⟨rfl, hba⟩; have za := hba.size; (try simp at za); obtain ⟨sa, hsa', hsa⟩ := zhb (numsC [104, 116, 108, 99] [hs[k].Key, hs[k].In, hs[k].Out, hs[k].AmtIn, hs[k].AmtOut]); rw [hsa']; clear hsa'; obtain ⟨ah, a0, a1, a2, a3, a4, a5, a6, af, az⟩ := own7 (g := wr.heap.size) hba (by first | omega | (simp; omega) | (simp; done)) (hp_); have h_w3 : (numsC [104, 116, 108, 99] [hs[k].Key, hs[k].In, hs[k].Out, hs[k].AmtIn, hs[k].AmtOut]).length ≤ 100 := h_w2; obtain ⟨q0, hq0, haddq0⟩ := zhd hsa.out (str_lit (l := [32, 107, 101, 112, 116, 32]) rfl) (by first | omega | (simp; omega)))
         | (go_at_call 20; refine (i_NumText _ _ (HLD.out.below (bl_))).mono ?_; rintro e wb ⟨rfl, hbb⟩; have zb := hbb.size; (try simp at zb); obtain ⟨sb, hsb', hsb⟩ := zhb (numL hs[k].Age); rw [hsb']; clear hsb'; obtain ⟨bh, b0, b1, b2, b3, b4, b5, b6, bf, bz⟩ := own7 (g := wr.heap.size) hbb (by first | omega | (simp; omega) | (simp; done)) (hp_); obtain ⟨q1, hq1, haddq1⟩ := zhd hq0.out hsb.out (by first | omega | (simp; omega)); obtain ⟨q2, hq2, haddq2⟩ := zhd hq1.out (str_lit (l := [10]) rfl) (by first | omega | (simp; omega)); obtain ⟨q3, hq3, haddq3⟩ := zhd hS.out hq2.out (by first | omega | (simp; omega))))
       all_goals
        have hx5 : wb.heap[w.heap.size]? = _ := zqf hbb (by first | omega | (simp; omega)) (zqf hba (by first | omega | (simp; omega)) (zqm (zqe (by first | omega | (simp; omega)) (zqe hbl HBox.out))))
        have hbC : Below w.heap.size w wb := bl_
        go_wp2_with fail
        go_roundw
        case rel => exact ⟨k + 1, _, by omega, by go_num, rfl, Lib.hid (by
           rw [HK.out]
           have h := hq3.out
           unfold Str at h ⊢
           rw [h]
           simp [keptW, htlcW]), hx5, hbC⟩
        case measure => simp [intOf]; omega
     ·
      obtain rfl : k = hs.length := by omega
      rw [List.take_length] at hS
      obtain ⟨_, f0, f1, f2, f3, f4, f5, ff, fz⟩ := own6 (g := w.heap.size) (Below.refl _ wr) hbl HBox.out
      have hPl2 : (P1 ++ rows10 htlcC hs).length ≤ 9819 := by
       have h1 := zwg htlcC_len hs
       rw [List.length_append]
       omega
      obtain ⟨P2, hP2⟩ : ∃ P, P1 ++ rows10 htlcC hs = P := ⟨_, rfl⟩
      rw [hP2] at hS HE hPl2
      have HS2 : Hid (Str (P2 ++ rows10 circC (os.take 0)) S) := Lib.hid (by simpa [rows10] using hS.out)
      have EH2 := HBox
      have hbB := hbw
      obtain ⟨t2, rfl⟩ : ∃ t, t = S := ⟨_, rfl⟩
      clear hP2 hS HBox
      go_wp2_with fail
      clear f0 f1 f2 f3 f4 f5 ff
      obtain ⟨wq2, rfl⟩ : ∃ wq : World, wq = wr := ⟨_, rfl⟩
      go_loopw [3, 84] (fun v i wr => ∃ (k : Nat) (S : ByteArray), k ≤ os.length ∧ i = .int .i64 k ∧ v = .string S ∧ Hid (Str (P2 ++ rows10 circC (os.take k)) S) ∧ wr.heap[w.heap.size]? = some (.cells #[.int .i64 bt, .int .i64 bn, .int .i64 bw, .slice A1 cs.length p1, .slice A2 hs.length p2, .slice A3 os.length p3] 27 (0, 0)) ∧ Below w.heap.size w wr) (fun _ i _ => os.length - (intOf i).toNat)
      case atStart => exact ⟨0, t2, Nat.zero_le _, rfl, rfl, HS2, EH2.out, hbB⟩
      case round =>
       clear HS2 EH2 hbB 
       obtain ⟨k, S, hk, rfl, rfl, hS, hbox, hbw⟩ := hrel
       have hbz := hbw.size
       have hbl := (gz_ hbox).1
       have HBox := Lib.hid hbox
       clear hbox
       by_cases hlt : k < os.length
       ·
        obtain ⟨b, off, rfl, hbB, c0, c1, c2, c3, c4⟩ := Circle.rd (HR.out.o.below hbw) hlt
        have HK := Lib.hid (rows10_succ circC os hlt)
        have hOl : (P2 ++ rows10 circC (os.take k)).length ≤ 20000 := by
         have h1 := zwg circC_len (os.take k)
         have h2 : (os.take k).length ≤ os.length := by rw [List.length_take]; omega
         rw [List.length_append]
         omega
        have h_e := circC_len os[k]
        have HK2 := Lib.hid (show P2 ++ rows10 circC (os.take (k + 1)) = (P2 ++ rows10 circC (os.take k)) ++ (circC os[k] ++ [10]) by rw [HK.out, List.append_assoc])
        obtain ⟨O, hO⟩ : ∃ O, P2 ++ rows10 circC (os.take k) = O := ⟨_, rfl⟩
        rw [hO] at HK2 hOl hS
        clear hO HK
        have HK := HK2
        clear HK2
        go_wp2_with fail
        refine (zhe [99, 105, 114, 99, 108, 101] _ [os[k].Key, os[k].From, os[k].To, os[k].Amt, os[k].Fee] _ _ _ (HLD.out.below (bl_)) rfl (by simp) (by simp) (rd_ints [os[k].Key, os[k].From, os[k].To, os[k].Amt, os[k].Fee] (zxa (by first | rfl | (simp; done))))).mono ?_
        rintro e w5 ⟨rfl, hb5⟩
        have z5 := hb5.size
        (try simp at z5)
        obtain ⟨s1, hs1', hs1⟩ := zhb (circC os[k])
        have e1' : numsC [99, 105, 114, 99, 108, 101] [os[k].Key, os[k].From, os[k].To, os[k].Amt, os[k].Fee] = circC os[k] := rfl
        rw [e1', hs1']
        clear hs1' e1'
        obtain ⟨q0, hq0, haddq0⟩ := zhd hs1.out (str_lit (l := [10]) rfl) (by first | omega | (simp; omega))
        obtain ⟨q1, hq1, haddq1⟩ := zhd hS.out hq0.out (by first | omega | (simp; omega))
        have hx5 := zqf hb5 (by simp; omega) (zqe (by simp; omega) (zqe hbl HBox.out))
        have hbC : Below w.heap.size w w5 := bl_
        clear hb5
        go_wp2_with fail
        go_roundw
        case rel => exact ⟨k + 1, _, by omega, by go_num, rfl, Lib.hid (by
           rw [HK.out]
           have h := hq1.out
           unfold Str at h ⊢
           rw [h]
           try simp), hx5, hbC⟩
        case measure => simp [intOf]; omega
       ·
        obtain rfl : k = os.length := by omega
        rw [List.take_length] at hS
        obtain ⟨_, f0, f1, f2, f3, f4, f5, ff, fz⟩ := own6 (g := w.heap.size) (Below.refl _ wr) hbl HBox.out
        have hPl3 : (P2 ++ rows10 circC os).length ≤ 20000 := by
         have h1 := zwg circC_len os
         rw [List.length_append]
         omega
        obtain ⟨Pz, hPz⟩ : ∃ P, P2 ++ rows10 circC os = P := ⟨_, rfl⟩
        rw [hPz] at hS HE hPl3
        clear hPz
        obtain ⟨t3, ht3, hadd3⟩ := zhd hS.out (str_lit (l := [111, 118, 101, 114, 10]) rfl) (by first | omega | (simp; omega))
        go_wp2_with fail
        go_ret
        refine ⟨?_, hbw⟩
        show Ending.returned (.string t3) = _
        rw [ht3.out, HE.out]
        rfl
end Go.Proofs.YtcjbjpobpefehaaGreatDoor
