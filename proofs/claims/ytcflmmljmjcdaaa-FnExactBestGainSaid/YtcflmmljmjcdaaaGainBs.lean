/- Gains: the best: the walk of the reference. -/
import Derived.Test.YtcflmmljmjcdaaaRows
import Derived.Test.YtcflmmljmjcdaaaGainB
namespace Go.Proofs.Ytcflmmljmjcdaaa
open Go.RowKit

set_option maxHeartbeats 2000000 in
theorem s_BestGain (l : List Gain) (A : Option Addr) (cap : Nat) (w : World) (hl : l.length ≤ 1048576) (hr : Rd w w.heap.size 4 A (l.map Gain.cells)) :
    Calls Try.prog 21 #[.slice A l.length cap] w fun e w' => e = .returned (.int .i64 (bestOf l).Ch) ∧ Below w.heap.size w w' := by
  have HR := Lib.hid hr
  clear hr
  go_enter Try.func21, Try.ntmps21
  go_wp2_with fail
  go_loopw [9] (fun i wr => ∃ (k : Nat), k ≤ l.length ∧ i = .int .i64 k ∧ wr.heap[w.heap.size]? = some (.cells #[.int .i64 (bestOf (l.take k)).Ch, .int .i64 (bestOf (l.take k)).Fees, .int .i64 (bestOf (l.take k)).Count, .int .i64 (bestOf (l.take k)).Failed] 57 (0, 0)) ∧ Below w.heap.size w wr) (fun i _ => l.length - (intOf i).toNat)
  case atStart => exact ⟨0, Nat.zero_le _, rfl, heap_at rfl, by (repeat' first | exact Below.refl _ _ | assumption | refine Below.setCell ?_ (by first | omega | (simp; omega) | (simp; done)) _ | refine Below.alloc ?_ (by first | omega | (simp; omega) | (simp; done)) _ | refine Below.drew ?_ | refine below_drewN ?_ _ | refine Below.trans ?_ (Below.mono (by assumption) (by first | omega | (simp; omega) | (simp; done))))⟩
  case round =>
    obtain ⟨k, hk, rfl, hcells, hbw⟩ := hrel
    have hbz := hbw.size
    obtain ⟨kh, k0, k1, k2, k3, kf, kz⟩ := own4 (Below.refl wr.heap.size wr) (Array.getElem?_eq_some_iff.1 hcells).1 hcells
    have KH := Lib.hid kh
    clear hcells kh
    by_cases hlt : k < l.length
    · obtain ⟨b, off, rfl, hbB, c0, c1, c2, c3⟩ := Gain.rd (HR.out.below hbw) hlt
      obtain ⟨Y, hY⟩ : ∃ Y, bestOf (l.take k) = Y := ⟨_, rfl⟩
      rw [hY] at k0 k1 k2 k3
      have HY := Lib.hid hY
      have hstore : ∀ w2 : World, w2.heap[w.heap.size]? = some (.cells #[.int .i64 Y.Ch, .int .i64 Y.Fees, .int .i64 Y.Count, .int .i64 Y.Failed] 57 (0, 0)) →
          ((((w2.setCell ⟨w.heap.size, 0, none⟩ (.int .i64 l[k].Ch)).setCell ⟨w.heap.size, 1, none⟩ (.int .i64 l[k].Fees)).setCell ⟨w.heap.size, 2, none⟩ (.int .i64 l[k].Count)).setCell ⟨w.heap.size, 3, none⟩ (.int .i64 l[k].Failed)).heap[w.heap.size]? =
            some (.cells #[.int .i64 l[k].Ch, .int .i64 l[k].Fees, .int .i64 l[k].Count, .int .i64 l[k].Failed] 57 (0, 0)) := fun w2 h2 => heap_set (heap_set (heap_set (heap_set h2)))
      have HST := Lib.hid hstore
      clear hY hstore
      by_cases hz : k = 0
      · have hz' : ((k : Int) == 0) = true := by rw [beq_iff_eq]; omega
        have hone : bestOf (l.take (k + 1)) = l[k] := by subst hz; exact bestOf_one l hlt
        have HO := Lib.hid hone
        clear hz hone
        go_wp2_with fail
        go_roundw
        case rel =>
          refine ⟨k + 1, by omega, by go_num, ?_, by (repeat' first | exact Below.refl _ _ | assumption | refine Below.setCell ?_ (by first | omega | (simp; omega) | (simp; done)) _ | refine Below.alloc ?_ (by first | omega | (simp; omega) | (simp; done)) _ | refine Below.drew ?_ | refine below_drewN ?_ _ | refine Below.trans ?_ (Below.mono (by assumption) (by first | omega | (simp; omega) | (simp; done))))⟩
          rw [HO.out]
          exact heap_past (by simp [World.setCell]; omega) (HST.out _ (by rw [← HY.out]; exact KH.out))
        case measure => simp [intOf]; omega
      · have hz' : ((k : Int) == 0) = false := by rw [beq_eq_false_iff_ne]; omega
        have HB := Lib.hid (bestOf_succ l (by omega) hlt)
        have hcase : (decide (Y.Fees < l[k].Fees) = true) ∨ (decide (Y.Fees < l[k].Fees) = false ∧ (l[k].Fees == Y.Fees) = false) ∨
            (decide (Y.Fees < l[k].Fees) = false ∧ (l[k].Fees == Y.Fees) = true ∧ decide (Y.Count < l[k].Count) = true) ∨ (decide (Y.Fees < l[k].Fees) = false ∧ (l[k].Fees == Y.Fees) = true ∧ decide (Y.Count < l[k].Count) = false) := by
          cases decide (Y.Fees < l[k].Fees) <;> cases (l[k].Fees == Y.Fees) <;> cases decide (Y.Count < l[k].Count) <;> simp
        rcases hcase with h1 | ⟨h1, h2⟩ | ⟨h1, h2, h3⟩ | ⟨h1, h2, h3⟩
        · have hD : better Y l[k] = l[k] := by unfold better; rw [if_pos (.inl (by simpa using h1))]
          have HD := Lib.hid hD
          clear hD
          go_wp2_with fail
          go_roundw
          case rel =>
            refine ⟨k + 1, by omega, by go_num, ?_, by (repeat' first | exact Below.refl _ _ | assumption | refine Below.setCell ?_ (by first | omega | (simp; omega) | (simp; done)) _ | refine Below.alloc ?_ (by first | omega | (simp; omega) | (simp; done)) _ | refine Below.drew ?_ | refine below_drewN ?_ _ | refine Below.trans ?_ (Below.mono (by assumption) (by first | omega | (simp; omega) | (simp; done))))⟩
            rw [HB.out, HY.out, HD.out]
            exact heap_past (by simp [World.setCell]; omega) (HST.out _ (by rw [← HY.out]; exact KH.out))
          case measure => simp [intOf]; omega
        · have hD : better Y l[k] = Y := by unfold better; rw [if_neg (by simp at h1 h2; omega)]
          have HD := Lib.hid hD
          clear hD
          go_wp2_with fail
          go_roundw
          case rel =>
            refine ⟨k + 1, by omega, by go_num, ?_, by (repeat' first | exact Below.refl _ _ | assumption | refine Below.setCell ?_ (by first | omega | (simp; omega) | (simp; done)) _ | refine Below.alloc ?_ (by first | omega | (simp; omega) | (simp; done)) _ | refine Below.drew ?_ | refine below_drewN ?_ _ | refine Below.trans ?_ (Below.mono (by assumption) (by first | omega | (simp; omega) | (simp; done))))⟩
            rw [HB.out, HY.out, HD.out]
            exact heap_past kz (by rw [← HY.out]; exact KH.out)
          case measure => simp [intOf]; omega
        · have hD : better Y l[k] = l[k] := by unfold better; rw [if_pos (.inr ⟨by simpa using h2, by simpa using h3⟩)]
          have HD := Lib.hid hD
          clear hD
          go_wp2_with fail
          go_roundw
          case rel =>
            refine ⟨k + 1, by omega, by go_num, ?_, by (repeat' first | exact Below.refl _ _ | assumption | refine Below.setCell ?_ (by first | omega | (simp; omega) | (simp; done)) _ | refine Below.alloc ?_ (by first | omega | (simp; omega) | (simp; done)) _ | refine Below.drew ?_ | refine below_drewN ?_ _ | refine Below.trans ?_ (Below.mono (by assumption) (by first | omega | (simp; omega) | (simp; done))))⟩
            rw [HB.out, HY.out, HD.out]
            exact heap_past (by simp [World.setCell]; omega) (HST.out _ (by rw [← HY.out]; exact KH.out))
          case measure => simp [intOf]; omega
        · have hD : better Y l[k] = Y := by unfold better; rw [if_neg (by simp at h1 h2 h3; omega)]
          have HD := Lib.hid hD
          clear hD
          go_wp2_with fail
          go_roundw
          case rel =>
            refine ⟨k + 1, by omega, by go_num, ?_, by (repeat' first | exact Below.refl _ _ | assumption | refine Below.setCell ?_ (by first | omega | (simp; omega) | (simp; done)) _ | refine Below.alloc ?_ (by first | omega | (simp; omega) | (simp; done)) _ | refine Below.drew ?_ | refine below_drewN ?_ _ | refine Below.trans ?_ (Below.mono (by assumption) (by first | omega | (simp; omega) | (simp; done))))⟩
            rw [HB.out, HY.out, HD.out]
            exact heap_past kz (by rw [← HY.out]; exact KH.out)
          case measure => simp [intOf]; omega
    · obtain rfl : k = l.length := by omega
      go_wp2
      go_ret
      exact ⟨ret_int (by first | rfl | rw [List.take_length]), hbw⟩
end Go.Proofs.Ytcflmmljmjcdaaa
