/- Draws of lines. -/
import Derived.Test.YtgpledgjpjifcaaGreatDoorRows
import Derived.Test.YtgpledgjpjifcaaGreatDoorDrawL
namespace Go.Proofs.YtgpledgjpjifcaaGreatDoor
open Go.RowKit

def DrewL (g : Nat) (m : Nat) (w : World) (e : Ending) (w' : World) : Prop := ∃ (L : List Line) (A : Option Addr) (cap : Nat), e = .returned (.slice A L.length cap) ∧ L.length ≤ m ∧ Ow w' w.heap.size 84 3 (.slice A L.length cap) (L.map Line.cells) ∧ Crs w' g ∧ w.grownBy w' (some g)
theorem s_l02AddW (l : List Line) (A : Option Addr) (cap : Nat) (xk xc xa : Int) (w : World) (hl : l.length ≤ 1048576) (hr : Rd w w.heap.size 3 A (l.map Line.cells)) :
    Calls Tryz.prog 159 #[.slice A l.length cap, .agg #[.int .i64 xk, .int .i64 xc, .int .i64 xa]] w fun e w' => ∃ (L' : List Line) (A' : Option Addr) (cap' : Nat), e = .returned (.slice A' L'.length cap') ∧ L'.length ≤ l.length + 1 ∧ Ow w' w.heap.size 84 3 (.slice A' L'.length cap') (L'.map Line.cells) ∧ Below w.heap.size w w' :=
  (s_l02Add l A cap xk xc xa w hl hr).mono fun _ _ ⟨A', cap', he, how, hb⟩ => ⟨_, A', cap', he, addF_len _ l, how, hb⟩
set_option maxRecDepth 100000 in
set_option maxHeartbeats 4000000 in
theorem s_l02Lines (g : Nat) (most : Int) (w : World) (hc : Crs w g) (h1 : 1 ≤ most) (h2 : most ≤ 14) :
    Calls Tryz.prog 129 #[.pointer (some ⟨g, 0, none⟩), .int .i64 most] w (DrewL g 15 w) := by
  have hgw := hc.lt
  have HE0 := Lib.hid (Ow.empty_ (w := w) (g := w.heap.size) (e := 84) (size := 3) (B := w.heap.size) rfl (Nat.le_refl _))
  go_enter Tryz.func129, Tryz.ntmps129
  go_wp2_with fail
  refine (s_l01Below g most _ (hc.alloc _) h1 (by omega)).mono ?_
  rintro e w1 ⟨x, x1, x2, rfl, hc1, hg1⟩
  have z1 := hg1.size
  rw [sizeUpL] at z1
  have HE1 := Lib.hid (HE0.out.pastL hg1 hgw)
  have hG1 : w.grownBy w1 (some g) := grown_trans (grown_allocL (World.grownBy.refl _ _) _) hg1
  clear hg1
  go_wp2_with fail
  go_loopw [5, 7] (fun vl vn wr => ∃ (N : Int) (L : List Line) (B : Option Addr) (cp : Nat), 0 ≤ N ∧ N ≤ most ∧ vn = .int .i64 N ∧ vl = .slice B L.length cp ∧ (L.length : Int) + N ≤ most ∧ Ow wr w.heap.size 84 3 (.slice B L.length cp) (L.map Line.cells) ∧ Crs wr g ∧ w.grownBy wr (some g)) (fun _ vn _ => (intOf vn).toNat)
  case atStart => exact ⟨1 + x, [], some ⟨w.heap.size, 0, none⟩, 0, by omega, by omega, rfl, rfl, by simp; omega, HE1.out, hc1, hG1⟩
  case round =>
    clear hc1 hG1 z1
    obtain ⟨N, L, B, cp, n1, n2, rfl, rfl, hLN, how, hcr, hG⟩ := hrel
    have hbz := hG.size
    have HW := Lib.hid how
    clear how
    by_cases hlt : 0 < N
    · go_wp2_with fail
      refine (s_l01Below g 1000 _ hcr (by decide) (by decide)).mono ?_
      rintro e w2 ⟨y, y1, y2, rfl, hc2, hg2⟩
      have z2 := hg2.size
      have HW2 := Lib.hid (HW.out.pastL hg2 hgw)
      have hG2 := grown_trans hG hg2
      clear hg2 hG hcr HW
      go_wp2_with fail
      refine (s_l01Below g 2 _ hc2 (by decide) (by decide)).mono ?_
      rintro e w3 ⟨v, v1, v2, rfl, hc3, hg3⟩
      have z3 := hg3.size
      have HW3 := Lib.hid (HW2.out.pastL hg3 hgw)
      have hG3 := grown_trans hG2 hg3
      clear hg3 hG2 hc2 HW2
      cases hv : (v == 0)
      all_goals
        go_wp2_with fail
        refine (s_l02Acc g _ hc3).mono ?_
        rintro e w4 ⟨a, b, rfl, hc4, hg4⟩
        have z4 := hg4.size
        have HW4 := Lib.hid (HW3.out.pastL hg4 hgw)
        have hG4 := grown_trans hG3 hg4
        clear hg4 hG3 hc3 HW3
        go_wp2_with fail
        refine (s_l02AddW L B cp a b _ _ (by omega) HW4.out.rd).mono ?_
        rintro e w5 ⟨L5, A5, cap5, rfl, hl5, how5, hb5⟩
        have hc5 := hc4.below hb5
        have hG5 := grown_belowL hG4 hb5
        have HW5 := Lib.hid (how5.more (B' := w.heap.size) (by omega))
        clear how5 hb5 hc4 hG4 HW4
        go_wp2_with fail
        go_roundw
        case rel => exact ⟨N - 1, L5, A5, cap5, by omega, by omega, by go_num, rfl, by omega, HW5.out, hc5, hG5⟩
        case measure => simp [intOf]; omega
    · obtain rfl : N = 0 := by omega
      obtain ⟨wo, rfl⟩ : ∃ wo : World, wo = wr := ⟨_, rfl⟩
      go_wp2_with fail
      go_loopw [6, 36] (fun vs i wr => ∃ (k : Nat) (s : Int), k ≤ L.length ∧ i = .int .i64 k ∧ vs = .int .i64 s ∧ Below wo.heap.size wo wr) (fun _ i _ => L.length - (intOf i).toNat)
      case atStart => exact ⟨0, 0, Nat.zero_le _, rfl, rfl, Below.refl _ _⟩
      case round =>
        obtain ⟨k, s, hk, rfl, rfl, hbw⟩ := hrel
        have hbz2 := hbw.size
        by_cases hlk : k < L.length
        · obtain ⟨b, off, rfl, hbB, c0, c1, c2⟩ := Line.rd (HW.out.rd.below hbw) hlk
          have hbr : b < wr.heap.size := by omega
          go_wp2_with fail
          go_roundw
          case rel => exact ⟨k + 1, _, by omega, by go_num, rfl, hbw.alloc hbz2 _⟩
          case measure => simp [intOf]; omega
        · obtain rfl : k = L.length := by omega
          have HW2 := Lib.hid (HW.out.below hbw)
          have hc2 := hcr.below hbw
          have hG2 := grown_belowL hG hbw
          clear hcr hG HW
          cases hs : (s == 0)
          · go_wp2_with fail
            refine (s_l02AddW L B cp 2 0 _ _ (by omega) HW2.out.rd).mono ?_
            rintro e w5 ⟨L5, A5, cap5, rfl, hl5, how5, hb5⟩
            have hG2z := hG2.size
            have HW5 := Lib.hid (how5.more (B' := w.heap.size) (by omega))
            clear how5
            go_wp2_with fail
            go_ret
            exact ⟨L5, A5, cap5, rfl, by omega, HW5.out, hc2.below hb5, grown_belowL hG2 hb5⟩
          · go_wp2_with fail
            go_ret
            exact ⟨L, B, cp, rfl, by omega, HW2.out, hc2, hG2⟩
end Go.Proofs.YtgpledgjpjifcaaGreatDoor
