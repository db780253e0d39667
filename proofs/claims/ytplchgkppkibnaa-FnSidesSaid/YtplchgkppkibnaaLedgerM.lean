/- Lines, postings, ledgers: the laws' helpers that mark. -/
import Derived.Test.YtplchgkppkibnaaRows
import Derived.Test.YtplchgkppkibnaaLedgerF
namespace Go.Proofs.Ytplchgkppkibnaa
open Go.RowKit

theorem sizeUp (w : World) (o : Obj) : (w.alloc o).heap.size = w.heap.size + 1 := by simp
set_option maxRecDepth 100000 in
set_option maxHeartbeats 1000000 in
theorem l_markLineS (B : Nat) (v : Value) (rows : List (List Value)) (k : Int) (w : World) (h0 : 0 ≤ k) (h1 : k ≤ 1099511627776) (hl : rows.length ≤ 1048576) (how : Ow w B 97 3 v rows) :
    Calls Try.prog 67 #[v, .int .i64 k] w fun e w' => e = .returned (.int .i64 (k + (rows.length * 3 : Nat))) ∧ (∀ A n cap, v = .slice A n cap → Marked w' A (rows.length * 3) k) ∧ w.grownBy w' v.ownBlock := by
  rcases how.open_ with ⟨rfl, rfl⟩ | ⟨g, cap, rfl, _, hcap, hgw⟩
  · clear how
    go_enter Try.func67, Try.ntmps67
    go_wp2_with fail
    go_loopw [1, 5] (fun q i wr => i = .int .i64 0 ∧ q = .int .i64 k ∧ wr = w) (fun _ i _ => 0)
    case atStart => exact ⟨rfl, rfl, rfl⟩
    case round =>
      obtain ⟨rfl, rfl, rfl⟩ := hrel
      go_wp2
      go_ret
      exact ⟨by simp, fun A n cap hv h => by simp at h, World.grownBy.refl _ _⟩
  · have hfs : Fill w g 97 (cap * 3) 0 (markRow k (rows.length * 3)) := Fill.of_ow how
    obtain ⟨m, hm⟩ : ∃ m, rows.length = m := ⟨_, rfl⟩
    rw [hm] at hfs hcap hl ⊢
    have hcm : m * 3 ≤ cap * 3 := Nat.mul_le_mul_right _ hcap
    have HFS := Lib.hid hfs
    clear hfs how hm
    go_enter Try.func67, Try.ntmps67
    go_wp2_with fail
    go_loopw [1, 5] (fun q i wr => ∃ j : Nat, j ≤ m ∧ i = .int .i64 j ∧ q = .int .i64 (k + (j * 3 : Nat)) ∧ Fill wr g 97 (cap * 3) (j * 3) (markRow k (m * 3)) ∧ w.grownBy wr (some g)) (fun _ i _ => m - (intOf i).toNat)
    case atStart => exact ⟨0, Nat.zero_le _, rfl, by simp, by rw [Nat.zero_mul]; exact HFS.out, World.grownBy.refl _ _⟩
    case round =>
      obtain ⟨i, hi, rfl, rfl, hfill, hgr⟩ := hrel
      have hglt := hfill.lt
      have hff := hfill.frozen
      have HF := Lib.hid hfill
      have HG := Lib.hid hgr
      by_cases hlt : i < m
      · have him : i * 3 + 3 ≤ m * 3 := by
          have := Nat.mul_le_mul_right 3 hlt
          rw [Nat.succ_mul] at this
          exact this
        obtain ⟨o0, q0⟩ := hfill.cell (j := i * 3) (by omega)
        obtain ⟨o1, q1⟩ := hfill.cell (j := i * 3 + 1) (by omega)
        obtain ⟨o2, q2⟩ := hfill.cell (j := i * 3 + 2) (by omega)
        clear hfill hgr HFS
        go_wp2_with fail
        go_roundw
        case rel => exact ⟨i + 1, by omega, by go_num, by congr 1; omega, by rw [Nat.succ_mul]; exact (Fill.set (Fill.set (Fill.set HF.out (by rw [markRow_get _ (by omega)]; congr 2 <;> omega) (by omega)) (by rw [markRow_get _ (by omega)]; congr 2 <;> omega) (by omega)) (by rw [markRow_get _ (by omega)]; congr 2 <;> omega) (by omega)), (grown_set (grown_set (grown_set HG.out _ _) _ _) _ _)⟩
        case measure => simp [intOf]; omega
      · obtain rfl : i = m := by omega
        clear hfill hgr HFS
        go_wp2
        go_ret
        refine ⟨rfl, fun A n cap' hv => ?_, HG.out⟩
        injection hv with hv1
        rw [← hv1]
        exact Fill.marked HF.out
end Go.Proofs.Ytplchgkppkibnaa
