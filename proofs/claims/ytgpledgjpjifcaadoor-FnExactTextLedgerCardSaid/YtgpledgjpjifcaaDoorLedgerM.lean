/- Lines, postings, ledgers: the laws' helpers that mark. -/
import Derived.Test.YtgpledgjpjifcaaDoorRows
import Derived.Test.YtgpledgjpjifcaaDoorLedgerF
namespace Go.Proofs.YtgpledgjpjifcaaDoor
open Go.RowKit

theorem sizeUp (w : World) (o : Obj) : (w.alloc o).heap.size = w.heap.size + 1 := by simp
set_option maxRecDepth 100000 in
set_option maxHeartbeats 1000000 in
theorem l_markLineS (B : Nat) (v : Value) (rows : List (List Value)) (k : Int) (w : World) (h0 : 0 ≤ k) (h1 : k ≤ 1099511627776) (hl : rows.length ≤ 1048576) (how : Ow w B 82 3 v rows) :
    Calls Tryd.prog 78 #[v, .int .i64 k] w fun e w' => e = .returned (.int .i64 (k + (rows.length * 3 : Nat))) ∧ (∀ A n cap, v = .slice A n cap → Marked w' A (rows.length * 3) k) ∧ w.grownBy w' v.ownBlock := by
  rcases how.open_ with ⟨rfl, rfl⟩ | ⟨g, cap, rfl, _, hcap, hgw⟩
  · clear how
    go_enter Tryd.func78, Tryd.ntmps78
    go_wp2_with fail
    go_loopw [1, 5] (fun q i wr => i = .int .i64 0 ∧ q = .int .i64 k ∧ wr = w) (fun _ i _ => 0)
    case atStart => exact ⟨rfl, rfl, rfl⟩
    case round =>
      obtain ⟨rfl, rfl, rfl⟩ := hrel
      go_wp2
      go_ret
      exact ⟨by simp, fun A n cap hv h => by simp at h, World.grownBy.refl _ _⟩
  · have hfs : Fill w g 82 (cap * 3) 0 (markRow k (rows.length * 3)) := Fill.of_ow how
    obtain ⟨m, hm⟩ : ∃ m, rows.length = m := ⟨_, rfl⟩
    rw [hm] at hfs hcap hl ⊢
    have hcm : m * 3 ≤ cap * 3 := Nat.mul_le_mul_right _ hcap
    have HFS := Lib.hid hfs
    clear hfs how hm
    go_enter Tryd.func78, Tryd.ntmps78
    go_wp2_with fail
    go_loopw [1, 5] (fun q i wr => ∃ j : Nat, j ≤ m ∧ i = .int .i64 j ∧ q = .int .i64 (k + (j * 3 : Nat)) ∧ Fill wr g 82 (cap * 3) (j * 3) (markRow k (m * 3)) ∧ w.grownBy wr (some g)) (fun _ i _ => m - (intOf i).toNat)
    case atStart => exact ⟨0, Nat.zero_le _, rfl, by simp, by rw [Nat.zero_mul]; exact HFS.out, World.grownBy.refl _ _⟩
    case round =>
      obtain ⟨i, hi, rfl, rfl, hfill, hgr⟩ := hrel
      have hglt := hfill.lt
      have hff := hfill.frozen
      have HF := Lib.hid hfill
      have HG := Lib.hid hgr
      by_cases hlt : i < m
      · have him : i * 3 + 3 ≤ m * 3 := by
          have := Nat.mul_le_mul_right 3 hlt
          rw [Nat.succ_mul] at this
          exact this
        obtain ⟨o0, q0⟩ := hfill.cell (j := i * 3) (by omega)
        obtain ⟨o1, q1⟩ := hfill.cell (j := i * 3 + 1) (by omega)
        obtain ⟨o2, q2⟩ := hfill.cell (j := i * 3 + 2) (by omega)
        clear hfill hgr HFS
        go_wp2_with fail
        go_roundw
        case rel => exact ⟨i + 1, by omega, by go_num, by congr 1; omega, by rw [Nat.succ_mul]; exact (Fill.set (Fill.set (Fill.set HF.out (by rw [markRow_get _ (by omega)]; congr 2 <;> omega) (by omega)) (by rw [markRow_get _ (by omega)]; congr 2 <;> omega) (by omega)) (by rw [markRow_get _ (by omega)]; congr 2 <;> omega) (by omega)), (grown_set (grown_set (grown_set HG.out _ _) _ _) _ _)⟩
        case measure => simp [intOf]; omega
      · obtain rfl : i = m := by omega
        clear hfill hgr HFS
        go_wp2
        go_ret
        refine ⟨rfl, fun A n cap' hv => ?_, HG.out⟩
        injection hv with hv1
        rw [← hv1]
        exact Fill.marked HF.out
set_option maxHeartbeats 1000000 in
theorem l_heldLineS (A : Option Addr) (m cap : Nat) (k : Int) (w : World) (h0 : 0 ≤ k) (h1 : k ≤ 1099511627776) (hl : m ≤ 1048576) (hmk : Marked w A (m * 3) k) :
    Calls Tryd.prog 79 #[.slice A m cap, .int .i64 k] w fun e w' => e = .returned (.int .i64 (k + (m * 3 : Nat))) ∧ w = w' := by
  have HM := Lib.hid hmk
  clear hmk
  go_enter Tryd.func79, Tryd.ntmps79
  go_wp2_with fail
  go_loop [1, 5] (fun q i => ∃ j : Nat, j ≤ m ∧ i = .int .i64 j ∧ q = .int .i64 (k + (j * 3 : Nat))) (fun _ i => m - (intOf i).toNat)
  case atStart => exact ⟨0, Nat.zero_le _, rfl, by simp⟩
  case round =>
    obtain ⟨i, hi, rfl, rfl⟩ := hrel
    by_cases hlt : i < m
    · have him : i * 3 + 3 ≤ m * 3 := by
        have := Nat.mul_le_mul_right 3 hlt
        rw [Nat.succ_mul] at this
        exact this
      obtain ⟨g, rfl, hg, hc⟩ := HM.out (by omega)
      have q0 := hc (i * 3) (by omega)
      have q1 := hc (i * 3 + 1) (by omega)
      have q2 := hc (i * 3 + 2) (by omega)
      clear hc
      go_wp2_with fail
      go_round
      case rel => exact ⟨i + 1, by omega, by go_num, by congr 1; omega⟩
      case measure => simp [intOf]; omega
    · obtain rfl : i = m := by omega
      go_wp2
      go_ret
      exact ⟨rfl, rfl⟩
theorem l_markPosting (B : Nat) (x0 : Int) (v : Value) (rows : List (List Value)) (k : Int) (w : World) (h0 : 0 ≤ k) (h1 : k ≤ 1099511627776) (hl : rows.length ≤ 1048576) (how : Ow w B 82 3 v rows) :
    Calls Tryd.prog 36 #[.agg #[.int .i64 x0, v], .int .i64 k] w fun e w' => e = .returned (.int .i64 (k + (rows.length * 3 : Nat))) ∧ (∀ A n cap, v = .slice A n cap → Marked w' A (rows.length * 3) k) ∧ w.grownBy w' v.ownBlock := by
  have HO := Lib.hid how
  rcases how.open_ with ⟨e1, rfl⟩ | ⟨g, cap, rfl, _, _, _⟩
  · clear how
    go_enter Tryd.func36, Tryd.ntmps36
    go_wp2_with fail
    refine (l_markLineS B _ rows k _ h0 h1 hl (HO.out.alloc _)).mono ?_
    rintro e w1 ⟨rfl, hmk, hgr⟩
    have z1 := hgr.size
    have HM := Lib.hid hmk
    have HG := Lib.hid hgr
    clear hmk hgr
    go_wp2_with fail
    go_ret
    refine ⟨by first | rfl | (change Ending.returned (.int .i64 k) = _; simp [e1]) | (change Ending.returned (.int .i64 k) = _; simp), fun A n cap hv => ?_, grown_trans (grown_of_below ((Below.refl _ _).alloc (Nat.le_refl _) _)) HG.out⟩
    exact HM.out A n cap hv
  · clear how
    go_enter Tryd.func36, Tryd.ntmps36
    go_wp2_with fail
    refine (l_markLineS B _ rows k _ h0 h1 hl (HO.out.alloc _)).mono ?_
    rintro e w1 ⟨rfl, hmk, hgr⟩
    have z1 := hgr.size
    have HM := Lib.hid hmk
    have HG := Lib.hid hgr
    clear hmk hgr
    go_wp2_with fail
    go_ret
    refine ⟨by first | rfl | (change Ending.returned (.int .i64 k) = _; simp [e1]) | (change Ending.returned (.int .i64 k) = _; simp), fun A n cap hv => ?_, grown_trans (grown_of_below ((Below.refl _ _).alloc (Nat.le_refl _) _)) HG.out⟩
    exact HM.out A n cap hv
theorem l_heldPosting (x0 : Int) (A : Option Addr) (len cap : Nat) (k : Int) (w : World) (h0 : 0 ≤ k) (h1 : k ≤ 1099511627776) (hl : len ≤ 1048576) (hmk : Marked w A (len * 3) k) :
    Calls Tryd.prog 37 #[.agg #[.int .i64 x0, .slice A len cap], .int .i64 k] w fun e w' => e = .returned (.int .i64 (k + (len * 3 : Nat))) ∧ Below w.heap.size w w' := by
  have HM := Lib.hid hmk
  clear hmk
  have hpos : 0 ≤ k + ((len * 3 : Nat) : Int) := by omega
  go_enter Tryd.func37, Tryd.ntmps37
  go_wp2_with fail
  refine (l_heldLineS A len cap k _ h0 h1 hl (HM.out.below (by (first | ((repeat' first | (with_reducible (first | exact Below.refl _ _ | assumption | refine Below.setCell ?_ ?_ _ | refine Below.alloc ?_ ?_ _ | refine Below.drew ?_ | refine below_drewN ?_ _ | refine Below.trans ?_ (Below.mono (by assumption) ?_))) | omega | (simp; omega) | (simp; done)); done) | (repeat' first | exact Below.refl _ _ | assumption | refine Below.setCell ?_ (by first | omega | (simp; omega) | (simp; done)) _ | refine Below.alloc ?_ (by first | omega | (simp; omega) | (simp; done)) _ | refine Below.drew ?_ | refine below_drewN ?_ _ | refine Below.trans ?_ (Below.mono (by assumption) (by first | omega | (simp; omega) | (simp; done)))))))).mono ?_
  rintro e w1 ⟨rfl, rfl⟩
  go_wp2_with fail
  go_ret
  refine ⟨rfl, ?_⟩
  (first | ((repeat' first | (with_reducible (first | exact Below.refl _ _ | assumption | refine Below.setCell ?_ ?_ _ | refine Below.alloc ?_ ?_ _ | refine Below.drew ?_ | refine below_drewN ?_ _ | refine Below.trans ?_ (Below.mono (by assumption) ?_))) | omega | (simp; omega) | (simp; done)); done) | (repeat' first | exact Below.refl _ _ | assumption | refine Below.setCell ?_ (by first | omega | (simp; omega) | (simp; done)) _ | refine Below.alloc ?_ (by first | omega | (simp; omega) | (simp; done)) _ | refine Below.drew ?_ | refine below_drewN ?_ _ | refine Below.trans ?_ (Below.mono (by assumption) (by first | omega | (simp; omega) | (simp; done)))))
theorem l_markLedger (B : Nat) (x0 : Int) (v : Value) (rows : List (List Value)) (k : Int) (w : World) (h0 : 0 ≤ k) (h1 : k ≤ 1099511627776) (hl : rows.length ≤ 1048576) (how : Ow w B 82 3 v rows) :
    Calls Tryd.prog 40 #[.agg #[.int .i64 x0, v], .int .i64 k] w fun e w' => e = .returned (.int .i64 (k + (rows.length * 3 : Nat))) ∧ (∀ A n cap, v = .slice A n cap → Marked w' A (rows.length * 3) k) ∧ w.grownBy w' v.ownBlock := by
  have HO := Lib.hid how
  rcases how.open_ with ⟨e1, rfl⟩ | ⟨g, cap, rfl, _, _, _⟩
  · clear how
    go_enter Tryd.func40, Tryd.ntmps40
    go_wp2_with fail
    refine (l_markLineS B _ rows k _ h0 h1 hl (HO.out.alloc _)).mono ?_
    rintro e w1 ⟨rfl, hmk, hgr⟩
    have z1 := hgr.size
    have HM := Lib.hid hmk
    have HG := Lib.hid hgr
    clear hmk hgr
    go_wp2_with fail
    go_ret
    refine ⟨by first | rfl | (change Ending.returned (.int .i64 k) = _; simp [e1]) | (change Ending.returned (.int .i64 k) = _; simp), fun A n cap hv => ?_, grown_trans (grown_of_below ((Below.refl _ _).alloc (Nat.le_refl _) _)) HG.out⟩
    exact HM.out A n cap hv
  · clear how
    go_enter Tryd.func40, Tryd.ntmps40
    go_wp2_with fail
    refine (l_markLineS B _ rows k _ h0 h1 hl (HO.out.alloc _)).mono ?_
    rintro e w1 ⟨rfl, hmk, hgr⟩
    have z1 := hgr.size
    have HM := Lib.hid hmk
    have HG := Lib.hid hgr
    clear hmk hgr
    go_wp2_with fail
    go_ret
    refine ⟨by first | rfl | (change Ending.returned (.int .i64 k) = _; simp [e1]) | (change Ending.returned (.int .i64 k) = _; simp), fun A n cap hv => ?_, grown_trans (grown_of_below ((Below.refl _ _).alloc (Nat.le_refl _) _)) HG.out⟩
    exact HM.out A n cap hv
theorem l_heldLedger (x0 : Int) (A : Option Addr) (len cap : Nat) (k : Int) (w : World) (h0 : 0 ≤ k) (h1 : k ≤ 1099511627776) (hl : len ≤ 1048576) (hmk : Marked w A (len * 3) k) :
    Calls Tryd.prog 41 #[.agg #[.int .i64 x0, .slice A len cap], .int .i64 k] w fun e w' => e = .returned (.int .i64 (k + (len * 3 : Nat))) ∧ Below w.heap.size w w' := by
  have HM := Lib.hid hmk
  clear hmk
  have hpos : 0 ≤ k + ((len * 3 : Nat) : Int) := by omega
  go_enter Tryd.func41, Tryd.ntmps41
  go_wp2_with fail
  refine (l_heldLineS A len cap k _ h0 h1 hl (HM.out.below (by (first | ((repeat' first | (with_reducible (first | exact Below.refl _ _ | assumption | refine Below.setCell ?_ ?_ _ | refine Below.alloc ?_ ?_ _ | refine Below.drew ?_ | refine below_drewN ?_ _ | refine Below.trans ?_ (Below.mono (by assumption) ?_))) | omega | (simp; omega) | (simp; done)); done) | (repeat' first | exact Below.refl _ _ | assumption | refine Below.setCell ?_ (by first | omega | (simp; omega) | (simp; done)) _ | refine Below.alloc ?_ (by first | omega | (simp; omega) | (simp; done)) _ | refine Below.drew ?_ | refine below_drewN ?_ _ | refine Below.trans ?_ (Below.mono (by assumption) (by first | omega | (simp; omega) | (simp; done)))))))).mono ?_
  rintro e w1 ⟨rfl, rfl⟩
  go_wp2_with fail
  go_ret
  refine ⟨rfl, ?_⟩
  (first | ((repeat' first | (with_reducible (first | exact Below.refl _ _ | assumption | refine Below.setCell ?_ ?_ _ | refine Below.alloc ?_ ?_ _ | refine Below.drew ?_ | refine below_drewN ?_ _ | refine Below.trans ?_ (Below.mono (by assumption) ?_))) | omega | (simp; omega) | (simp; done)); done) | (repeat' first | exact Below.refl _ _ | assumption | refine Below.setCell ?_ (by first | omega | (simp; omega) | (simp; done)) _ | refine Below.alloc ?_ (by first | omega | (simp; omega) | (simp; done)) _ | refine Below.drew ?_ | refine below_drewN ?_ _ | refine Below.trans ?_ (Below.mono (by assumption) (by first | omega | (simp; omega) | (simp; done)))))
end Go.Proofs.YtgpledgjpjifcaaDoor
