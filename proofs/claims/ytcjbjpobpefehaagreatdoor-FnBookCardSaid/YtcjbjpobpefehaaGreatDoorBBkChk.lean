/- Check and BookCheck: the walks. -/
import Derived.Test.YtcjbjpobpefehaaGreatDoorRows
import Derived.Test.YtcjbjpobpefehaaGreatDoorBBkTx
import Derived.IntWalk
namespace Go.Proofs.YtcjbjpobpefehaaGreatDoor
open Go.RowKit
theorem i_Check (s : ByteArray) (w : World) (hs : s.size ≤ 1048576) : Calls Tryz.prog 11 #[.string s] w fun e w' => e = .returned (.int .i64 (checkL s.data.toList)) ∧ w = w' := by
 have hz := Lib.hid (show s.data.toList.length = s.size from Array.length_toList)
 go_enter Tryz.func11, Tryz.ntmps11
 go_wp2_with fail
 go_loop [3, 4] (fun n i => ∃ k : Nat, k ≤ s.size ∧ i = .int .i64 k ∧ n = .int .i64 (checkL (s.data.toList.take k))) (fun _ i => s.size - (intOf i).toNat)
 case atStart => exact ⟨0, Nat.zero_le _, rfl, rfl⟩
 case round =>
  obtain ⟨k, hk, rfl, rfl⟩ := hrel
  have hc := checkL_in (s.data.toList.take k)
  obtain ⟨hc0, hc1⟩ := hc
  by_cases hlt : k < s.size
  ·
   have HK := Lib.hid (show checkL (s.data.toList.take (k + 1)) = (31 * checkL (s.data.toList.take k) + (s[k].toNat : Int)) % 9973 from checkL_succ _ (by rw [hz.out]; exact hlt))
   have hb : (s[k].toNat : Int) ≤ 255 := by have := s[k].toNat_lt; omega
   go_wp2_with fail
   go_round
   case rel => exact ⟨k + 1, by omega, by go_num, by rw [HK.out]⟩
   case measure => simp [intOf]; omega
  ·
   obtain rfl : k = s.size := by omega
   have HE := Lib.hid (show s.data.toList.take s.size = s.data.toList from List.take_of_length_le (by rw [hz.out]; exact Nat.le_refl _))
   go_wp2_with fail
   go_ret
   exact ⟨by rw [HE.out]; rfl, rfl⟩
set_option maxRecDepth 100000 in
set_option maxHeartbeats 1000000 in
theorem i_BookCheck (bt bn bw : Int) (cs : List Chan) (hs : List Htlc) (os : List Circle) (A1 A2 A3 : Option Addr) (p1 p2 p3 : Nat) (w : World) (hld : Ld w) (hlc : cs.length ≤ 1048576) (hlh : hs.length ≤ 1048576) (hlo : os.length ≤ 1048576) (hr : RdBook w w.heap.size A1 cs A2 hs A3 os) :
  Calls Tryz.prog 9 #[.agg #[.int .i64 bt, .int .i64 bn, .int .i64 bw, .slice A1 cs.length p1, .slice A2 hs.length p2, .slice A3 os.length p3]] w fun e w' => e = .returned (.int .i64 (bookSum bt bn bw cs hs os)) ∧ Below w.heap.size w w' := by
 have HLD := Lib.hid hld
 clear hld
 have HR := Lib.hid hr
 clear hr
 cases hb : bookB bt bn bw cs hs os
 ·
  have HB := Lib.hid hb
  have HE := Lib.hid (show bookSum bt bn bw cs hs os = -1 by unfold bookSum; rw [hb]; rfl)
  clear hb
  go_enter Tryz.func9, Tryz.ntmps9
  go_wp2_with fail
  refine (i_BookOk bt bn bw cs hs os _ _ _ _ _ _ _ hlc hlh hlo ((HR.out.below (bl_)).more (by first | omega | (simp; omega) | (simp; done)))).mono ?_
  rintro e w1 ⟨rfl, hb1⟩
  have z1 := hb1.size
  try simp at z1
  rw [HB.out]
  go_wp2_with fail
  go_ret
  exact ⟨by rw [HE.out]; rfl, bl_⟩
 ·
  have HB := Lib.hid hb
  have HE := Lib.hid (show bookSum bt bn bw cs hs os = checkL (bookL bt bn bw cs hs os) by unfold bookSum; rw [hb]; rfl)
  have hlen := bookL_len bt bn bw cs hs os
  clear hb
  go_enter Tryz.func9, Tryz.ntmps9
  go_wp2_with fail
  refine (i_BookOk bt bn bw cs hs os _ _ _ _ _ _ _ hlc hlh hlo ((HR.out.below (bl_)).more (by first | omega | (simp; omega) | (simp; done)))).mono ?_
  rintro e w1 ⟨rfl, hb1⟩
  have z1 := hb1.size
  try simp at z1
  rw [HB.out]
  obtain ⟨eh, e0, e1, e2, e3, e4, e5, ef, ez⟩ := own6 (g := w.heap.size) hb1 (by first | omega | (simp; omega) | (simp; done)) (hp_)
  go_wp2_with fail
  refine (i_BookText bt bn bw cs hs os _ _ _ _ _ _ _ (HLD.out.below (bl_)) hlc hlh hlo ((HR.out.below (bl_)).more (by first | omega | (simp; omega) | (simp; done)))).mono ?_
  rintro e w2 ⟨rfl, hb2⟩
  have z2 := hb2.size
  obtain ⟨t, ht', ht⟩ := zhb (bookL bt bn bw cs hs os)
  rw [ht']
  clear ht'
  have hts : t.size ≤ 1048576 := by rw [ht.out.size]; omega
  go_wp2_with fail
  refine (i_Check t _ hts).mono ?_
  rintro e w3 ⟨rfl, rfl⟩
  rw [ht.out.data, ← HE.out]
  go_wp2_with fail
  go_ret
  exact ⟨rfl, bl_⟩
end Go.Proofs.YtcjbjpobpefehaaGreatDoor
