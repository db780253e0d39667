/- Slices of ints as a law's result. -/
import Derived.Test.YtplchgkppkibnaaRows
import Derived.Test.YtplchgkppkibnaaBookA
import Derived.Test.YtplchgkppkibnaaSteady
import Derived.Deep.QuietTactic
import Derived.BigQuiet
namespace Go.Proofs.Ytplchgkppkibnaa
open Go.RowKit

set_option maxRecDepth 100000 in
set_option maxHeartbeats 1000000 in
theorem l_eqIntS (l : List Int) (A1 A2 : Option Addr) (cap1 cap2 : Nat) (w : World) (hl : l.length ≤ 1048576) (hr1 : Rd w w.heap.size 1 A1 (l.map intCells)) (hr2 : Rd w w.heap.size 1 A2 (l.map intCells)) :
    Calls Try.prog 20 #[.slice A1 l.length cap1, .slice A2 l.length cap2] w fun e w' => e = .returned (.bool true) ∧ Below w.heap.size w w' := by
  go_enter Try.func20, Try.ntmps20
  go_wp2_with fail
  go_loopw [5] (fun i wr => ∃ k : Nat, k ≤ l.length ∧ i = .int .i64 k ∧ Below w.heap.size w wr) (fun i _ => l.length - (intOf i).toNat)
  case atStart => exact ⟨0, Nat.zero_le _, rfl, Below.refl _ _⟩
  case round =>
    obtain ⟨k, hk, rfl, hbw⟩ := hrel
    have hbz := hbw.size
    by_cases hlt : k < l.length
    · obtain ⟨b, off, rfl, hbB, c0⟩ := ints_rd (hr1.below hbw) hlt
      obtain ⟨b', off', rfl, hbB', d0⟩ := ints_rd (hr2.below hbw) hlt
      clear hr1 hr2
      have i1 : (0 : Int) ≤ (k : Int) := by omega
      have i2 : (k : Int) < (l.length : Int) := by omega
      go_wp2_with fail
      go_quiet (fail)
      go_wp2_with fail
      go_roundw
      case rel => exact ⟨k + 1, by omega, by go_num, by (first | ((repeat' first | (with_reducible (first | exact Below.refl _ _ | assumption | refine Below.setCell ?_ ?_ _ | refine Below.alloc ?_ ?_ _ | refine Below.drew ?_ | refine below_drewN ?_ _ | refine Below.trans ?_ (Below.mono (by assumption) ?_))) | omega | (simp; omega) | (simp; done)); done) | (repeat' first | exact Below.refl _ _ | assumption | refine Below.setCell ?_ (by first | omega | (simp; omega) | (simp; done)) _ | refine Below.alloc ?_ (by first | omega | (simp; omega) | (simp; done)) _ | refine Below.drew ?_ | refine below_drewN ?_ _ | refine Below.trans ?_ (Below.mono (by assumption) (by first | omega | (simp; omega) | (simp; done)))))⟩
      case measure => simp [intOf]; omega
    · obtain rfl : k = l.length := by omega
      clear hr1 hr2
      go_wp2
      go_ret
      exact ⟨rfl, hbw⟩
set_option maxRecDepth 100000 in
set_option maxHeartbeats 1000000 in
theorem l_markIntS (B : Nat) (v : Value) (rows : List (List Value)) (k : Int) (w : World) (h0 : 0 ≤ k) (h1 : k ≤ 1099511627776) (hl : rows.length ≤ 1048576) (how : Ow w B 3 1 v rows) :
    Calls Try.prog 23 #[v, .int .i64 k] w fun e w' => e = .returned (.int .i64 (k + (rows.length : Nat))) ∧ (∀ A n cap, v = .slice A n cap → Marked w' A (rows.length) k) ∧ w.grownBy w' v.ownBlock := by
  rcases how.open_ with ⟨rfl, rfl⟩ | ⟨g, cap, rfl, _, hcap, hgw⟩
  · clear how
    go_enter Try.func23, Try.ntmps23
    go_wp2_with fail
    go_loopw [1, 5] (fun q i wr => i = .int .i64 0 ∧ q = .int .i64 k ∧ wr = w) (fun _ i _ => 0)
    case atStart => exact ⟨rfl, rfl, rfl⟩
    case round =>
      obtain ⟨rfl, rfl, rfl⟩ := hrel
      go_wp2
      go_ret
      exact ⟨by simp, fun A n cap hv h => by simp at h, World.grownBy.refl _ _⟩
  · have hfs : Fill w g 3 (cap) 0 (markRow k (rows.length)) := by have := Fill.of_ow (xs := markRow k rows.length) how; rwa [Nat.mul_one] at this
    obtain ⟨m, hm⟩ : ∃ m, rows.length = m := ⟨_, rfl⟩
    rw [hm] at hfs hcap hl ⊢
    have hcm : m ≤ cap := hcap
    have HFS := Lib.hid hfs
    clear hfs how hm
    go_enter Try.func23, Try.ntmps23
    go_wp2_with fail
    go_loopw [1, 5] (fun q i wr => ∃ j : Nat, j ≤ m ∧ i = .int .i64 j ∧ q = .int .i64 (k + (j : Nat)) ∧ Fill wr g 3 (cap) (j) (markRow k (m)) ∧ w.grownBy wr (some g)) (fun _ i _ => m - (intOf i).toNat)
    case atStart => exact ⟨0, Nat.zero_le _, rfl, by simp, HFS.out, World.grownBy.refl _ _⟩
    case round =>
      obtain ⟨i, hi, rfl, rfl, hfill, hgr⟩ := hrel
      have hglt := hfill.lt
      have hff := hfill.frozen
      have HF := Lib.hid hfill
      have HG := Lib.hid hgr
      by_cases hlt : i < m
      · have him : i + 1 ≤ m := hlt
        obtain ⟨o0, q0⟩ := hfill.cell (j := i) (by omega)
        clear hfill hgr HFS
        go_wp2_with fail
        go_roundw
        case rel => exact ⟨i + 1, by omega, by go_num, by first | rfl | (congr 1; done) | (congr 1; omega), (Fill.set HF.out (by rw [markRow_get _ (by omega)]) (by omega)), (grown_set HG.out _ _)⟩
        case measure => simp [intOf]; omega
      · obtain rfl : i = m := by omega
        clear hfill hgr HFS
        go_wp2
        go_ret
        refine ⟨rfl, fun A n cap' hv => ?_, HG.out⟩
        injection hv with hv1
        rw [← hv1]
        exact Fill.marked HF.out
set_option maxHeartbeats 1000000 in
theorem l_heldIntS (A : Option Addr) (m cap : Nat) (k : Int) (w : World) (h0 : 0 ≤ k) (h1 : k ≤ 1099511627776) (hl : m ≤ 1048576) (hmk : Marked w A (m) k) :
    Calls Try.prog 24 #[.slice A m cap, .int .i64 k] w fun e w' => e = .returned (.int .i64 (k + (m : Nat))) ∧ w = w' := by
  have HM := Lib.hid hmk
  clear hmk
  go_enter Try.func24, Try.ntmps24
  go_wp2_with fail
  go_loop [1, 5] (fun q i => ∃ j : Nat, j ≤ m ∧ i = .int .i64 j ∧ q = .int .i64 (k + (j : Nat))) (fun _ i => m - (intOf i).toNat)
  case atStart => exact ⟨0, Nat.zero_le _, rfl, by simp⟩
  case round =>
    obtain ⟨i, hi, rfl, rfl⟩ := hrel
    by_cases hlt : i < m
    · have him : i + 1 ≤ m := hlt
      obtain ⟨g, rfl, hg, hc⟩ := HM.out (by omega)
      have q0 := hc (i) (by omega)
      clear hc
      go_wp2_with fail
      go_round
      case rel => exact ⟨i + 1, by omega, by go_num, by first | rfl | (congr 1; done) | (congr 1; omega)⟩
      case measure => simp [intOf]; omega
    · obtain rfl : i = m := by omega
      go_wp2
      go_ret
      exact ⟨rfl, rfl⟩
end Go.Proofs.Ytplchgkppkibnaa
