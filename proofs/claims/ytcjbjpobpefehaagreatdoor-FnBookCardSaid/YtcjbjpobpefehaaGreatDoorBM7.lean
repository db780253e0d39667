/- DrawBt · FnBook: each text proves what its theorems say, with no conditions but theirs. -/
import Derived.Test.YtcjbjpobpefehaaGreatDoorRows
import Derived.Test.YtcjbjpobpefehaaGreatDoorBDrawAg
import Derived.Test.YtcjbjpobpefehaaGreatDoorBBkRi
import Derived.Test.YtcjbjpobpefehaaGreatDoorBBkChk
import Derived.Test.YtcjbjpobpefehaaGreatDoorBM5
namespace Go.Proofs.YtcjbjpobpefehaaGreatDoor
open Go.RowKit Go.Deep
def DrewBt (w : World) (e : Ending) (w' : World) : Prop := ∃ (b : Bk) (C1 C2 C3 : Option Addr) (q1 q2 q3 : Nat), e = .returned (.agg #[.int .i64 b.t, .int .i64 b.n, .int .i64 b.w, .slice C1 b.cs.length q1, .slice C2 b.hs.length q2, .slice C3 b.os.length q3]) ∧ OwB w' w.heap.size b C1 C2 C3 q1 q2 q3 ∧ LenOk b ∧ Below w.heap.size w w'
set_option maxRecDepth 100000 in
set_option maxHeartbeats 1000000 in
theorem s_DrawBookText (A : Option Addr) (n cap : Nat) (w : World) (hc : Code w w.heap.size A n cap) :
  Calls Tryz.prog 5 #[.slice A n cap] w (DrewBt w) := by
 obtain ⟨R, hR⟩ : ∃ R, R = w.heap.size := ⟨_, rfl⟩
 have HSR := Lib.hid hR
 rw [← hR] at hc
 go_enter Tryz.func5, Tryz.ntmps5
 go_wp2_with fail
 refine zwf (fun v hw => ?_)
 rw [← hR]
 have r0 : v.heap[R]? = some (.cells #[.int .i64 0, .int .i64 0, .int .i64 0, .slice none 0 0, .slice none 0 0, .slice none 0 0] 27 (0, 0)) := by rw [hw, hR]; exact zxa (by first | rfl | (simp; done))
 have z0 : v.heap.size = R + 1 := by rw [hw, hR]; simp
 have b0 : Below R w v := by rw [hw, hR]; exact (Below.refl _ _).alloc (Nat.le_refl _) _
 clear hw hR
 refine (s_l01New A n cap _ ((hc.below b0).more (by omega))).mono ?_
 rintro e w1 ⟨rfl, hc1, hb1, z1⟩
 obtain ⟨g, hg⟩ : ∃ g, g = v.heap.size := ⟨_, rfl⟩
 rw [← hg] at hc1 hb1 z1 ⊢
 have r1 := zqf hb1 (by omega : R < g) r0
 have b1 : Below R w w1 := b0.trans (Below.mono hb1 (by omega))
 have hRg : R < g := by omega
 have hRw : g < w1.heap.size := by omega
 clear r0 b0 hb1 hc z0 z1 hg
 go_wp2_with fail
 refine (s_l21Aged g _ hc1).mono ?_
 rintro e w2 ⟨b, C1, C2, C3, q1, q2, q3, rfl, hob, hlen, hc2, hg2⟩
 have hs2 := hg2.size
 have HR_w2 := Lib.hid (zqg hg2 (zxi (by omega)) r1)
 have b2 : Below R w w2 := b1.grown hg2 (by omega) (fun k e => by cases e; omega)
 have OW_w2 := Lib.hid (hob.more (B' := R) (by omega))
 clear r1 b1 hob hc1 hc2 hg2
 go_upto_region 3 with fail
 refine nm_ ?_
 intro w3 hw
 obtain ⟨NB, hN⟩ : ∃ v, v = w2.heap.size := ⟨_, rfl⟩
 have HR_w3 := Lib.hid (show w3.heap[R]? = some (.cells #[.int .i64 0, .int .i64 0, .int .i64 0, .slice none 0 0, .slice none 0 0, .slice none 0 0] 27 (0, 0)) by rw [hw]; exact zqe (by have := (gz_ HR_w2.out).1; omega) HR_w2.out)
 have HN_w3 := Lib.hid (show w3.heap[NB]? = some (.cells #[.int .i64 b.t, .int .i64 b.n, .int .i64 b.w, .slice C1 b.cs.length q1, .slice C2 b.hs.length q2, .slice C3 b.os.length q3] 27 (0, 0)) by rw [hw, hN]; exact zxa (by first | rfl | (simp; done)))
 have OW_w3 : Hid (OwB w3 R b C1 C2 C3 q1 q2 q3) := Lib.hid (by rw [hw]; exact OW_w2.out.alloc _)
 have b3 : Below R w w3 := by rw [hw]; exact b2.alloc (by omega) _
 have HNR : R ≠ NB := by have := (gz_ HR_w2.out).1; omega
 have HRN : NB ≠ R := Ne.symm HNR
 try rw [← hN]
 clear hw hN b2
 obtain ⟨R0, R1, R2, R3, R4, R5, Rf, Rz⟩ := box6_ HR_w3.out
 obtain ⟨N0, N1, N2, N3, N4, N5, Nf, Nz⟩ := box6_ HN_w3.out
 go_wp2_with fail
 refine name_ret (fun w4 hw => ?_)
 have r3 : w4.heap[R]? = some (.cells #[.int .i64 b.t, .int .i64 b.n, .int .i64 b.w, .slice C1 b.cs.length q1, .slice C2 b.hs.length q2, .slice C3 b.os.length q3] 27 (0, 0)) := by rw [hw]; exact zqa (zqa (zqa (zqa (zqa (zqa (HR_w3.out))))))
 have o3 : OwB w4 R b C1 C2 C3 q1 q2 q3 := by rw [hw]; exact ((((((OW_w3.out).aside (HR_w3.out) (by decide) (by decide) (by decide) _).aside (zqa (HR_w3.out)) (by decide) (by decide) (by decide) _).aside (zqa (zqa (HR_w3.out))) (by decide) (by decide) (by decide) _).aside (zqa (zqa (zqa (HR_w3.out)))) (by decide) (by decide) (by decide) _).aside (zqa (zqa (zqa (zqa (HR_w3.out))))) (by decide) (by decide) (by decide) _).aside (zqa (zqa (zqa (zqa (zqa (HR_w3.out)))))) (by decide) (by decide) (by decide) _
 have b4 : Below R w w4 := by rw [hw]; exact ((((((b3.setCell (p := ⟨R, 0, none⟩) (Nat.le_refl _) _).setCell (p := ⟨R, 1, none⟩) (Nat.le_refl _) _).setCell (p := ⟨R, 2, none⟩) (Nat.le_refl _) _).setCell (p := ⟨R, 3, none⟩) (Nat.le_refl _) _).setCell (p := ⟨R, 4, none⟩) (Nat.le_refl _) _).setCell (p := ⟨R, 5, none⟩) (Nat.le_refl _) _)
 clear hw R0 R1 R2 R3 R4 R5 Rf Rz N0 N1 N2 N3 N4 N5 Nf Nz
 obtain ⟨R0, R1, R2, R3, R4, R5, -, -⟩ := box6_ r3
 refine bodyPost_ret (v := .agg #[.int .i64 b.t, .int .i64 b.n, .int .i64 b.w, .slice C1 b.cs.length q1, .slice C2 b.hs.length q2, .slice C3 b.os.length q3]) (by simp [results, Tryz.results5, go_sem, R0, R1, R2, R3, R4, R5]) rfl ⟨b, C1, C2, C3, q1, q2, q3, rfl, ?_, hlen, ?_⟩
 ·
  rw [← HSR.out]; exact o3
 ·
  rw [← HSR.out]; exact b4
end Go.Proofs.YtcjbjpobpefehaaGreatDoor
namespace Go.Proofs.YtcjbjpobpefehaaGreatDoor
open Go.ChangeShapes Go.WideShapes Go.ChangeAt Go.RowKit Go.Deep
theorem BookIs.eq_ {s : List UInt8} {b b' : Bk} {ok ok' : Bool} (h : BookIs s b.t b.n b.w b.cs b.hs b.os ok) (h' : BookIs s b'.t b'.n b'.w b'.cs b'.hs b'.os ok') : b = b' ∧ ok = ok' := by
 obtain ⟨h1, h2, h3, h4, h5, h6, h7⟩ := h.one h'
 refine ⟨?_, h7⟩
 cases b
 cases b'
 simp_all
theorem empty_of {s : ByteArray} {l : List UInt8} {b : Bool} (hs : Str l s) (h1 : b = true → l ≠ []) (h2 : b = false → l = []) : s.toList.isEmpty = !b := by
 cases b with
 | true =>
  have hne : s ≠ ⟨#[]⟩ := fun e => h1 rfl (by
   have := hs.data
   rw [e] at this
   rw [← this])
  have h := neq_str hne
  cases hx : s.toList with
  | nil => rw [hx] at h; simp at h
  | cons a r => rfl
 | false =>
  have : s = ⟨#[]⟩ := by
   rw [hs, h2 rfl]
  rw [this]
  simp
theorem text_small {l : List UInt8} {s : ByteArray} (h : Str l s) (hl : l.length ≤ 1048576) : s.size ≤ 1048576 := by
 rw [h.size]
 exact hl
set_option maxRecDepth 100000 in
set_option maxHeartbeats 4000000 in
theorem l_FnBook (A : Option Addr) (n cap : Nat) (w : World) (hld : Le w) (hc : CodeIn w A n cap) :
  Calls Tryz.prog 3 #[.slice A n cap] w fun e w' => e = .returned (.bool true) ∧ Below w.heap.size w w' := by
 have hnm := hc.len
 unfold maxLen at hnm
 have HLD := Lib.hid hld
 clear hld
 by_cases hn : n ≤ 1048576
 ·
  have HC := Lib.hid (hc.code hn)
  clear hc
  go_enter Tryz.func3, Tryz.ntmps3
  go_wp2_with fail
  refine (s_DrawBookText A n cap _ HC.out).mono ?_
  rintro e w1 ⟨b, A1, A2, A3, p1, p2, p3, rfl, how1, hlen, hb1⟩
  obtain ⟨hl1, hl2, hl3⟩ := hlen
  have z1 := hb1.size
  go_wp2_with fail
  obtain ⟨W, hW⟩ : ∃ W : World, w1.alloc (.cells #[.int .i64 b.t, .int .i64 b.n, .int .i64 b.w, .slice A1 b.cs.length p1, .slice A2 b.hs.length p2, .slice A3 b.os.length p3] 27) = W := ⟨_, rfl⟩
  obtain ⟨X, hX⟩ : ∃ B, w1.heap.size = B := ⟨_, rfl⟩
  have X1 := Lib.hid (show W.heap[X]? = some (.cells #[.int .i64 b.t, .int .i64 b.n, .int .i64 b.w, .slice A1 b.cs.length p1, .slice A2 b.hs.length p2, .slice A3 b.os.length p3] 27 (0, 0)) by rw [← hW, ← hX]; exact zxa rfl)
  have BW : Below w.heap.size w W := by rw [← hW]; exact hb1.alloc z1 _
  have zX : X < W.heap.size := by rw [← hW, ← hX]; simp
  have HR := Lib.hid (show RdBook W W.heap.size A1 b.cs A2 b.hs A3 b.os by rw [← hW]; exact (how1.alloc _).rd)
  rw [hW, hX]
  clear hb1 hW hX z1 how1 HC
  have HLW := Lib.hid (HLD.out.below BW)
  clear HLD
  refine (i_BookText b.t b.n b.w b.cs b.hs b.os _ _ _ _ _ _ _ HLW.out.toLd (by omega) (by omega) (by omega) HR.out).mono ?_
  rintro e w2 ⟨rfl, hb2⟩
  have z2 := hb2.size
  obtain ⟨S, hS', hS⟩ := zhb (bookL b.t b.n b.w b.cs b.hs b.os)
  have HSM := Lib.hid (text_small hS.out (Nat.le_trans (bookL_len _ _ _ _ _ _) (by decide)))
  rw [hS']
  clear hS'
  obtain ⟨_, q0, q1, q2, q3, q4, q5, qf, qz⟩ := own6 (g := X) hb2 zX X1.out
  go_wp2_with fail
  refine (s_BookOk b.t b.n b.w b.cs b.hs b.os _ _ _ _ _ _ _ (by omega) (by omega) (by omega) ((HR.out.below hb2).more z2)).mono ?_
  rintro e w3 ⟨rfl, hb3⟩
  have z3 := hb3.size
  have hc3 : Below W.heap.size W w3 := hb2.trans (hb3.mono z2)
  have hc3z := hc3.size
  clear q0 q1 q2 q3 q4 q5 qf qz hb2 hb3 z2 z3
  have eS := empty_of hS.out (b := bookB b.t b.n b.w b.cs b.hs b.os) bookL_ne (fun h => by unfold bookL; rw [h]; rfl)
  obtain ⟨ok, hok⟩ : ∃ ok, bookB b.t b.n b.w b.cs b.hs b.os = ok := ⟨_, rfl⟩
  have HOK := Lib.hid hok
  rw [hok] at eS
  rw [hok]
  clear hok
  have HE := Lib.hid (show BookIs S.data.toList (bif ok then b else bk0).t (bif ok then b else bk0).n (bif ok then b else bk0).w (bif ok then b else bk0).cs (bif ok then b else bk0).hs (bif ok then b else bk0).os ok by
   have hd := hS.out.data
   have h := HOK.out
   cases ok with
   | true => exact book_hit (by rw [hd]; exact bookL_ne h) hd.symm
   | false =>
    have : S.data.toList = [] := by rw [hd]; unfold bookL; rw [h]; rfl
    rw [this]
    exact book_empty)
  have HSUM := Lib.hid (show bookSum b.t b.n b.w b.cs b.hs b.os = bif ok then checkL S.data.toList else -1 by
   have hd := hS.out.data
   have h := HOK.out
   unfold bookSum
   rw [h, hd]
   cases ok <;> rfl)
  cases ok
  ·
   go_wp2_with fail
   refine (i_TextBook S _ (HLW.out.below hc3) HSM.out).mono ?_
   rintro e w4 ⟨b', C1, C2, C3, r1, r2, r3, f, rfl, how4, hd4, hb4⟩
   have z4 := hb4.size
   obtain ⟨rfl, rfl⟩ := BookIs.eq_ hd4 HE.out
   have hc4 : Below W.heap.size W w4 := hc3.trans (hb4.mono hc3.size)
   have hc4z := hc4.size
   unfold bkVal
   clear how4 hd4 hb4 hc3
   go_upto_region 8 with fail
   refine nm_ ?_
   intro V hV
   have hcV : Below W.heap.size W V := by rw [hV]; exact hc4.alloc hc4.size _
   clear hV hc4
   obtain ⟨_, q0, q1, q2, q3, q4, q5, qf, qz⟩ := own6 (g := X) hcV zX X1.out
   go_wp2_with fail
   refine (i_BookCheck b.t b.n b.w b.cs b.hs b.os _ _ _ _ _ _ _ (HLW.out.below hcV).toLd (by omega) (by omega) (by omega) ((HR.out.below hcV).more hcV.size)).mono ?_
   rintro e w5 ⟨rfl, hb5⟩
   rw [HSUM.out]
   have hc5 : Below W.heap.size W w5 := hcV.trans (hb5.mono hcV.size)
   clear hb5
   go_wp2_with fail
   go_ret
   exact ⟨rfl, BW.trans (hc5.mono BW.size)⟩
  ·
   go_wp2_with fail
   refine (i_TextBook S _ (HLW.out.below hc3) HSM.out).mono ?_
   rintro e w4 ⟨b', C1, C2, C3, r1, r2, r3, f, rfl, how4, hd4, hb4⟩
   have z4 := hb4.size
   have hbb := BookIs.eq_ hd4 HE.out
   simp only [cond_true] at hbb
   obtain ⟨rfl, rfl⟩ := hbb
   have hc4 : Below W.heap.size W w4 := hc3.trans (hb4.mono hc3.size)
   have hc4z := hc4.size
   unfold bkVal
   clear hd4 hb4 hc3
   go_upto_region 8 with fail
   obtain ⟨V, hV⟩ : ∃ W : World, w4.alloc (.cells #[.int .i64 b'.t, .int .i64 b'.n, .int .i64 b'.w, .slice C1 b'.cs.length r1, .slice C2 b'.hs.length r2, .slice C3 b'.os.length r3] 27) = W := ⟨_, rfl⟩
   obtain ⟨Y, hY⟩ : ∃ B, w4.heap.size = B := ⟨_, rfl⟩
   have Y1 := Lib.hid (show V.heap[Y]? = some (.cells #[.int .i64 b'.t, .int .i64 b'.n, .int .i64 b'.w, .slice C1 b'.cs.length r1, .slice C2 b'.hs.length r2, .slice C3 b'.os.length r3] 27 (0, 0)) by rw [← hV, ← hY]; exact zxa rfl)
   have hcV : Below W.heap.size W V := by rw [← hV]; exact hc4.alloc hc4.size _
   have zY : Y < V.heap.size := by rw [← hV, ← hY]; simp
   have HR4 := Lib.hid (show RdBook V V.heap.size C1 b'.cs C2 b'.hs C3 b'.os by rw [← hV]; exact (how4.alloc _).rd)
   rw [hV, hY]
   clear hV hY z4 hc4 how4
   have hcVz := hcV.size
   have X2 := Lib.hid (zqf hcV zX X1.out)
   obtain ⟨_, q0, q1, q2, q3, q4, q5, qf, qz⟩ := own6 (g := X) hcV zX X1.out
   obtain ⟨_, k0, k1, k2, k3, k4, k5, kf, kz⟩ := own6 (g := Y) (Below.refl _ V) zY Y1.out
   have zX2 : X < V.heap.size := by omega
   go_wp2_with fail
   refine (i_SameBook b'.t b'.n b'.w b'.cs b'.hs b'.os _ _ _ _ _ _ _ _ _ _ _ _ _ (by omega) (by omega) (by omega) ((HR.out.below hcV).more hcV.size) HR4.out HOK.out).mono ?_
   rintro e w5 ⟨rfl, hb5⟩
   have hc5 : Below W.heap.size W w5 := hcV.trans (hb5.mono hcV.size)
   clear q0 q1 q2 q3 q4 q5 qf qz k0 k1 k2 k3 k4 k5 kf kz
   obtain ⟨_, q0, q1, q2, q3, q4, q5, qf, qz⟩ := own6 (g := X) hb5 zX2 X2.out
   clear hb5
   go_wp2_with fail
   refine (i_BookCheck b'.t b'.n b'.w b'.cs b'.hs b'.os _ _ _ _ _ _ _ (HLW.out.below hc5).toLd (by omega) (by omega) (by omega) ((HR.out.below hc5).more hc5.size)).mono ?_
   rintro e w6 ⟨rfl, hb6⟩
   rw [HSUM.out]
   simp only [cond_true]
   have hc6 : Below W.heap.size W w6 := hc5.trans (hb6.mono hc5.size)
   clear hb6
   obtain ⟨k, hk⟩ : ∃ k, checkL S.data.toList = k := ⟨_, rfl⟩
   have HK := Lib.hid hk
   rw [hk]
   clear hk
   go_wp2_with fail
   refine (i_Check S _ HSM.out).mono ?_
   rintro e w7 ⟨rfl, rfl⟩
   rw [HK.out]
   go_wp2_with fail
   go_ret
   exact ⟨rfl, BW.trans (hc6.mono BW.size)⟩
 ·
  go_enter Tryz.func3, Tryz.ntmps3
  go_wp2_with fail
  go_ret
  exact ⟨rfl, Below.refl _ _⟩
end Go.Proofs.YtcjbjpobpefehaaGreatDoor
