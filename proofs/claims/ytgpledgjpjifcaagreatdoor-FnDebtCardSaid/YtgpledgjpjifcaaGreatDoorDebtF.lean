/- Debts: DebtsOk, Owed: the walks. -/
import Derived.Test.YtgpledgjpjifcaaGreatDoorRows
import Derived.Test.YtgpledgjpjifcaaGreatDoorDebt
namespace Go.Proofs.YtgpledgjpjifcaaGreatDoor
open Go.RowKit

def debtOk (d : Debt) : Bool := isChanB d.From && isChanB d.To && !(d.From == d.To) && inB d.Amt 1 1000000000
theorem debtOk_cases (d : Debt) : (isChanB d.From = false ∧ debtOk d = false) ∨ (isChanB d.From = true ∧ isChanB d.To = false ∧ debtOk d = false) ∨ (isChanB d.From = true ∧ isChanB d.To = true ∧ (d.From == d.To) = true ∧ debtOk d = false) ∨
    (isChanB d.From = true ∧ isChanB d.To = true ∧ (d.From == d.To) = false ∧ inB d.Amt 1 1000000000 = false ∧ debtOk d = false) ∨ (isChanB d.From = true ∧ isChanB d.To = true ∧ (d.From == d.To) = false ∧ inB d.Amt 1 1000000000 = true ∧ debtOk d = true) := by
  unfold debtOk
  cases isChanB d.From <;> cases isChanB d.To <;> cases d.From == d.To <;> cases inB d.Amt 1 1000000000 <;> simp
def debtsOk (l : List Debt) : Bool := l.all debtOk && decide (l.length ≤ 60)
theorem debtOk_iff {d : Debt} : debtOk d = true ↔ (1 ≤ d.From ∧ d.From ≤ 99) ∧ (1 ≤ d.To ∧ d.To ≤ 99) ∧ d.From ≠ d.To ∧ 1 ≤ d.Amt ∧ d.Amt ≤ 1000000000 := by
  simp [debtOk, isChanB_iff, inB_iff, and_assoc]
set_option maxHeartbeats 2000000 in
theorem i_DebtsOk (l : List Debt) (A : Option Addr) (cap : Nat) (w : World) (hl : l.length ≤ 1048576) (hr : Rd w w.heap.size 3 A (l.map Debt.cells)) :
    Calls Tryz.prog 46 #[.slice A l.length cap] w fun e w' => e = .returned (.bool (debtsOk l)) ∧ Below w.heap.size w w' := by
  go_enter Tryz.func46, Tryz.ntmps46
  go_wp2_with fail
  go_loopw [7] (fun i wr => ∃ k : Nat, k ≤ l.length ∧ i = .int .i64 k ∧ (l.take k).all debtOk = true ∧ Below w.heap.size w wr) (fun i _ => l.length - (intOf i).toNat)
  case atStart => exact ⟨0, Nat.zero_le _, rfl, rfl, Below.refl _ _⟩
  case round =>
    obtain ⟨k, hk, rfl, hall, hbw⟩ := hrel
    have hbz := hbw.size
    have HA := Lib.hid hall
    clear hall
    by_cases hlt : k < l.length
    · obtain ⟨b, off, rfl, hbB, c0, c1, c2⟩ := Debt.rd (hr.below hbw) hlt
      clear hr
      rcases debtOk_cases l[k] with ⟨h1, ho⟩ | ⟨h1, h2, ho⟩ | ⟨h1, h2, h3, ho⟩ | ⟨h1, h2, h3, h4, ho⟩ | ⟨h1, h2, h3, h4, ho⟩
      case inr.inr.inr.inr =>
        have HO := Lib.hid ho
        clear ho
        go_wp2_with (first | (go_at_call 81; refine (i_isChan _ _).mono ?_; rintro e w' ⟨rfl, rfl⟩) | (go_at_call 79; refine (i_in _ _ _ _).mono ?_; rintro e w' ⟨rfl, rfl⟩))
        go_roundw
        case rel => exact ⟨k + 1, by omega, by go_num, by rw [all_take_succ l debtOk hlt, HA.out, HO.out]; rfl, by (first | ((repeat' first | (with_reducible (first | exact Below.refl _ _ | assumption | refine Below.setCell ?_ ?_ _ | refine Below.alloc ?_ ?_ _ | refine Below.drew ?_ | refine below_drewN ?_ _ | refine Below.trans ?_ (Below.mono (by assumption) ?_))) | omega | (simp; omega) | (simp; done)); done) | (repeat' first | exact Below.refl _ _ | assumption | refine Below.setCell ?_ (by first | omega | (simp; omega) | (simp; done)) _ | refine Below.alloc ?_ (by first | omega | (simp; omega) | (simp; done)) _ | refine Below.drew ?_ | refine below_drewN ?_ _ | refine Below.trans ?_ (Below.mono (by assumption) (by first | omega | (simp; omega) | (simp; done)))))⟩
        case measure => simp [intOf]; omega
      all_goals
        have HO := Lib.hid ho
        clear ho
        go_wp2_with (first | (go_at_call 81; refine (i_isChan _ _).mono ?_; rintro e w' ⟨rfl, rfl⟩) | (go_at_call 79; refine (i_in _ _ _ _).mono ?_; rintro e w' ⟨rfl, rfl⟩))
        go_ret
        exact ⟨ret_bool (by rw [debtsOk, all_false l debtOk hlt HO.out]; rfl), by (first | ((repeat' first | (with_reducible (first | exact Below.refl _ _ | assumption | refine Below.setCell ?_ ?_ _ | refine Below.alloc ?_ ?_ _ | refine Below.drew ?_ | refine below_drewN ?_ _ | refine Below.trans ?_ (Below.mono (by assumption) ?_))) | omega | (simp; omega) | (simp; done)); done) | (repeat' first | exact Below.refl _ _ | assumption | refine Below.setCell ?_ (by first | omega | (simp; omega) | (simp; done)) _ | refine Below.alloc ?_ (by first | omega | (simp; omega) | (simp; done)) _ | refine Below.drew ?_ | refine below_drewN ?_ _ | refine Below.trans ?_ (Below.mono (by assumption) (by first | omega | (simp; omega) | (simp; done)))))⟩
    · obtain rfl : k = l.length := by omega
      clear hr
      by_cases h60 : l.length ≤ 60
      all_goals
        go_wp2
        go_ret
        exact ⟨ret_bool (by have := HA.out; rw [List.take_length] at this; simp [debtsOk, this] <;> omega), hbw⟩
set_option maxHeartbeats 2000000 in
theorem s_DebtsOk (l : List Debt) (A : Option Addr) (cap : Nat) (w : World) (hl : l.length ≤ 1048576) (hr : Rd w w.heap.size 3 A (l.map Debt.cells)) :
    Calls Tryz.prog 50 #[.slice A l.length cap] w fun e w' => e = .returned (.bool (debtsOk l)) ∧ Below w.heap.size w w' := by
  go_enter Tryz.func50, Tryz.ntmps50
  go_wp2_with fail
  go_loopw [7] (fun i wr => ∃ k : Nat, k ≤ l.length ∧ i = .int .i64 k ∧ (l.take k).all debtOk = true ∧ Below w.heap.size w wr) (fun i _ => l.length - (intOf i).toNat)
  case atStart => exact ⟨0, Nat.zero_le _, rfl, rfl, Below.refl _ _⟩
  case round =>
    obtain ⟨k, hk, rfl, hall, hbw⟩ := hrel
    have hbz := hbw.size
    have HA := Lib.hid hall
    clear hall
    by_cases hlt : k < l.length
    · obtain ⟨b, off, rfl, hbB, c0, c1, c2⟩ := Debt.rd (hr.below hbw) hlt
      clear hr
      rcases debtOk_cases l[k] with ⟨h1, ho⟩ | ⟨h1, h2, ho⟩ | ⟨h1, h2, h3, ho⟩ | ⟨h1, h2, h3, h4, ho⟩ | ⟨h1, h2, h3, h4, ho⟩
      case inr.inr.inr.inl =>
        have HO := Lib.hid ho
        clear ho
        by_cases h5 : l[k].Amt < 1
        all_goals
          have h6 : ¬ l[k].Amt < 1 → 1000000000 < l[k].Amt := by intro _; simp [inB] at h4; omega
          clear h4
        · clear h6
          go_wp2_with (go_at_call 96; refine (s_l14Peer _ _).mono ?_; rintro e w' ⟨rfl, rfl⟩)
          go_ret
          exact ⟨ret_bool (by rw [debtsOk, all_false l debtOk hlt HO.out]; rfl), by (first | ((repeat' first | (with_reducible (first | exact Below.refl _ _ | assumption | refine Below.setCell ?_ ?_ _ | refine Below.alloc ?_ ?_ _ | refine Below.drew ?_ | refine below_drewN ?_ _ | refine Below.trans ?_ (Below.mono (by assumption) ?_))) | omega | (simp; omega) | (simp; done)); done) | (repeat' first | exact Below.refl _ _ | assumption | refine Below.setCell ?_ (by first | omega | (simp; omega) | (simp; done)) _ | refine Below.alloc ?_ (by first | omega | (simp; omega) | (simp; done)) _ | refine Below.drew ?_ | refine below_drewN ?_ _ | refine Below.trans ?_ (Below.mono (by assumption) (by first | omega | (simp; omega) | (simp; done)))))⟩
        · have h7 := h6 h5
          clear h6
          go_wp2_with (go_at_call 96; refine (s_l14Peer _ _).mono ?_; rintro e w' ⟨rfl, rfl⟩)
          go_ret
          exact ⟨ret_bool (by rw [debtsOk, all_false l debtOk hlt HO.out]; rfl), by (first | ((repeat' first | (with_reducible (first | exact Below.refl _ _ | assumption | refine Below.setCell ?_ ?_ _ | refine Below.alloc ?_ ?_ _ | refine Below.drew ?_ | refine below_drewN ?_ _ | refine Below.trans ?_ (Below.mono (by assumption) ?_))) | omega | (simp; omega) | (simp; done)); done) | (repeat' first | exact Below.refl _ _ | assumption | refine Below.setCell ?_ (by first | omega | (simp; omega) | (simp; done)) _ | refine Below.alloc ?_ (by first | omega | (simp; omega) | (simp; done)) _ | refine Below.drew ?_ | refine below_drewN ?_ _ | refine Below.trans ?_ (Below.mono (by assumption) (by first | omega | (simp; omega) | (simp; done)))))⟩
      case inr.inr.inr.inr =>
        have HO := Lib.hid ho
        clear ho
        obtain ⟨h5, h6⟩ := inB_iff.1 h4
        clear h4
        go_wp2_with (go_at_call 96; refine (s_l14Peer _ _).mono ?_; rintro e w' ⟨rfl, rfl⟩)
        go_roundw
        case rel => exact ⟨k + 1, by omega, by go_num, by rw [all_take_succ l debtOk hlt, HA.out, HO.out]; rfl, by (first | ((repeat' first | (with_reducible (first | exact Below.refl _ _ | assumption | refine Below.setCell ?_ ?_ _ | refine Below.alloc ?_ ?_ _ | refine Below.drew ?_ | refine below_drewN ?_ _ | refine Below.trans ?_ (Below.mono (by assumption) ?_))) | omega | (simp; omega) | (simp; done)); done) | (repeat' first | exact Below.refl _ _ | assumption | refine Below.setCell ?_ (by first | omega | (simp; omega) | (simp; done)) _ | refine Below.alloc ?_ (by first | omega | (simp; omega) | (simp; done)) _ | refine Below.drew ?_ | refine below_drewN ?_ _ | refine Below.trans ?_ (Below.mono (by assumption) (by first | omega | (simp; omega) | (simp; done)))))⟩
        case measure => simp [intOf]; omega
      all_goals
        have HO := Lib.hid ho
        clear ho
        go_wp2_with (go_at_call 96; refine (s_l14Peer _ _).mono ?_; rintro e w' ⟨rfl, rfl⟩)
        go_ret
        exact ⟨ret_bool (by rw [debtsOk, all_false l debtOk hlt HO.out]; rfl), by (first | ((repeat' first | (with_reducible (first | exact Below.refl _ _ | assumption | refine Below.setCell ?_ ?_ _ | refine Below.alloc ?_ ?_ _ | refine Below.drew ?_ | refine below_drewN ?_ _ | refine Below.trans ?_ (Below.mono (by assumption) ?_))) | omega | (simp; omega) | (simp; done)); done) | (repeat' first | exact Below.refl _ _ | assumption | refine Below.setCell ?_ (by first | omega | (simp; omega) | (simp; done)) _ | refine Below.alloc ?_ (by first | omega | (simp; omega) | (simp; done)) _ | refine Below.drew ?_ | refine below_drewN ?_ _ | refine Below.trans ?_ (Below.mono (by assumption) (by first | omega | (simp; omega) | (simp; done)))))⟩
    · obtain rfl : k = l.length := by omega
      clear hr
      by_cases h60 : l.length ≤ 60
      all_goals
        go_wp2
        go_ret
        exact ⟨ret_bool (by have := HA.out; rw [List.take_length] at this; simp [debtsOk, this] <;> omega), hbw⟩
end Go.Proofs.YtgpledgjpjifcaaGreatDoor
