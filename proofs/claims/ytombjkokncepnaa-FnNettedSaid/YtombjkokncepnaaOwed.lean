/- Debts: what a peer is owed: the walks. -/
import Derived.Test.YtombjkokncepnaaRows
import Derived.Test.YtombjkokncepnaaDebtF
namespace Go.Proofs.Ytombjkokncepnaa
open Go.RowKit

def owedF (peer : Int) (n : Int) (d : Debt) : Int :=
  let m := if (d.To == peer) = true then n + d.Amt else n
  if (d.From == peer) = true then m - d.Amt else m
def owedL (l : List Debt) (peer : Int) : Int := l.foldl (owedF peer) 0
def owedR (l : List Debt) (peer : Int) : Int := if debtsOk l = true then owedL l peer else 0
theorem owedL_succ (l : List Debt) (peer : Int) {k : Nat} (hk : k < l.length) : owedL (l.take (k + 1)) peer = owedF peer (owedL (l.take k) peer) l[k] := foldl_take_succ l _ _ hk
theorem debtsOk_at {l : List Debt} (h : debtsOk l = true) {k : Nat} (hk : k < l.length) : debtOk l[k] = true := by
  simp only [debtsOk, Bool.and_eq_true, List.all_eq_true] at h
  exact h.1 _ (List.getElem_mem hk)
theorem debtsOk_le {l : List Debt} (h : debtsOk l = true) : l.length ≤ 60 := by
  simp only [debtsOk, Bool.and_eq_true, decide_eq_true_eq] at h
  exact h.2
theorem owedL_bd (l : List Debt) (peer : Int) (h : debtsOk l = true) {k : Nat} : -((k : Int) * 1000000000) ≤ owedL (l.take k) peer ∧ owedL (l.take k) peer ≤ (k : Int) * 1000000000 := by
  induction k with
  | zero => simp [owedL]
  | succ k ih =>
    by_cases hk : k < l.length
    · rw [owedL_succ l peer hk]
      obtain ⟨_, _, _, m1, m2⟩ := debtOk_iff.1 (debtsOk_at h hk)
      unfold owedF
      simp only
      split <;> split <;> constructor <;> omega
    · rw [List.take_of_length_le (by omega)] at ih ⊢
      constructor <;> omega
set_option maxHeartbeats 2000000 in
theorem i_owed (l : List Debt) (peer : Int) (A : Option Addr) (cap : Nat) (w : World) (hl : l.length ≤ 1048576) (hr : Rd w w.heap.size 3 A (l.map Debt.cells)) (hok : debtsOk l = true) :
    Calls Try.prog 47 #[.slice A l.length cap, .int .i64 peer] w fun e w' => e = .returned (.int .i64 (owedL l peer)) ∧ Below w.heap.size w w' := by
  have HR := Lib.hid hr
  have HOK := Lib.hid hok
  clear hr hok
  go_enter Try.func47, Try.ntmps47
  go_wp2_with fail
  go_loopw [5, 10] (fun n i wr => ∃ k : Nat, k ≤ l.length ∧ i = .int .i64 k ∧ n = .int .i64 (owedL (l.take k) peer) ∧ Below w.heap.size w wr) (fun _ i _ => l.length - (intOf i).toNat)
  case atStart => exact ⟨0, Nat.zero_le _, rfl, rfl, by (first | ((repeat' first | (with_reducible (first | exact Below.refl _ _ | assumption | refine Below.setCell ?_ ?_ _ | refine Below.alloc ?_ ?_ _ | refine Below.drew ?_ | refine below_drewN ?_ _ | refine Below.trans ?_ (Below.mono (by assumption) ?_))) | omega | (simp; omega) | (simp; done)); done) | (repeat' first | exact Below.refl _ _ | assumption | refine Below.setCell ?_ (by first | omega | (simp; omega) | (simp; done)) _ | refine Below.alloc ?_ (by first | omega | (simp; omega) | (simp; done)) _ | refine Below.drew ?_ | refine below_drewN ?_ _ | refine Below.trans ?_ (Below.mono (by assumption) (by first | omega | (simp; omega) | (simp; done)))))⟩
  case round =>
    obtain ⟨k, hk, rfl, rfl, hbw⟩ := hrel
    have hbz := hbw.size
    obtain ⟨g1, g2⟩ := owedL_bd l peer HOK.out (k := k)
    have h60 := debtsOk_le HOK.out
    by_cases hlt : k < l.length
    · obtain ⟨b, off, rfl, hbB, c0, c1, c2⟩ := Debt.rd (HR.out.below hbw) hlt
      obtain ⟨_, _, _, m1, m2⟩ := debtOk_iff.1 (debtsOk_at HOK.out hlt)
      have HS := Lib.hid (owedL_succ l peer hlt)
      cases h1 : (l[k].To == peer) <;> cases h2 : (l[k].From == peer)
      all_goals
        go_wp2_with fail
        go_roundw
        case rel => exact ⟨k + 1, by omega, by go_num, by rw [HS.out]; simp [owedF, h1, h2], by (first | ((repeat' first | (with_reducible (first | exact Below.refl _ _ | assumption | refine Below.setCell ?_ ?_ _ | refine Below.alloc ?_ ?_ _ | refine Below.drew ?_ | refine below_drewN ?_ _ | refine Below.trans ?_ (Below.mono (by assumption) ?_))) | omega | (simp; omega) | (simp; done)); done) | (repeat' first | exact Below.refl _ _ | assumption | refine Below.setCell ?_ (by first | omega | (simp; omega) | (simp; done)) _ | refine Below.alloc ?_ (by first | omega | (simp; omega) | (simp; done)) _ | refine Below.drew ?_ | refine below_drewN ?_ _ | refine Below.trans ?_ (Below.mono (by assumption) (by first | omega | (simp; omega) | (simp; done)))))⟩
        case measure => simp [intOf]; omega
    · obtain rfl : k = l.length := by omega
      go_wp2
      go_ret
      exact ⟨ret_int (by rw [List.take_length]), by (first | ((repeat' first | (with_reducible (first | exact Below.refl _ _ | assumption | refine Below.setCell ?_ ?_ _ | refine Below.alloc ?_ ?_ _ | refine Below.drew ?_ | refine below_drewN ?_ _ | refine Below.trans ?_ (Below.mono (by assumption) ?_))) | omega | (simp; omega) | (simp; done)); done) | (repeat' first | exact Below.refl _ _ | assumption | refine Below.setCell ?_ (by first | omega | (simp; omega) | (simp; done)) _ | refine Below.alloc ?_ (by first | omega | (simp; omega) | (simp; done)) _ | refine Below.drew ?_ | refine below_drewN ?_ _ | refine Below.trans ?_ (Below.mono (by assumption) (by first | omega | (simp; omega) | (simp; done)))))⟩
theorem i_Owed (l : List Debt) (peer : Int) (A : Option Addr) (cap : Nat) (w : World) (hl : l.length ≤ 1048576) (hr : Rd w w.heap.size 3 A (l.map Debt.cells)) :
    Calls Try.prog 18 #[.slice A l.length cap, .int .i64 peer] w fun e w' => e = .returned (.int .i64 (owedR l peer)) ∧ Below w.heap.size w w' := by
  have HR := Lib.hid hr
  clear hr
  cases hok : debtsOk l
  all_goals
    go_enter Try.func18, Try.ntmps18
    go_wp2_with fail
    refine (i_DebtsOk l _ _ _ hl HR.out).mono ?_
    rintro e w1 ⟨rfl, hb1⟩
    have z1 := hb1.size
    rw [hok]
    have HOK := Lib.hid hok
    clear hok
    go_wp2_with fail
  · go_ret
    exact ⟨ret_int (by simp [owedR, HOK.out]), hb1⟩
  · refine (i_owed l peer _ _ _ hl ((HR.out.below hb1).more z1) HOK.out).mono ?_
    rintro e w2 ⟨rfl, hb2⟩
    go_wp2_with fail
    go_ret
    exact ⟨ret_int (by simp [owedR, HOK.out]), by (first | ((repeat' first | (with_reducible (first | exact Below.refl _ _ | assumption | refine Below.setCell ?_ ?_ _ | refine Below.alloc ?_ ?_ _ | refine Below.drew ?_ | refine below_drewN ?_ _ | refine Below.trans ?_ (Below.mono (by assumption) ?_))) | omega | (simp; omega) | (simp; done)); done) | (repeat' first | exact Below.refl _ _ | assumption | refine Below.setCell ?_ (by first | omega | (simp; omega) | (simp; done)) _ | refine Below.alloc ?_ (by first | omega | (simp; omega) | (simp; done)) _ | refine Below.drew ?_ | refine below_drewN ?_ _ | refine Below.trans ?_ (Below.mono (by assumption) (by first | omega | (simp; omega) | (simp; done)))))⟩
set_option maxHeartbeats 2000000 in
theorem s_Owed (l : List Debt) (peer : Int) (A : Option Addr) (cap : Nat) (w : World) (hl : l.length ≤ 1048576) (hr : Rd w w.heap.size 3 A (l.map Debt.cells)) :
    Calls Try.prog 48 #[.slice A l.length cap, .int .i64 peer] w fun e w' => e = .returned (.int .i64 (owedR l peer)) ∧ Below w.heap.size w w' := by
  have HR := Lib.hid hr
  clear hr
  cases hok : debtsOk l
  all_goals
    go_enter Try.func48, Try.ntmps48
    go_wp2_with fail
    refine (s_DebtsOk l _ _ _ hl HR.out).mono ?_
    rintro e w1 ⟨rfl, hb1⟩
    have z1 := hb1.size
    rw [hok]
    have HOK := Lib.hid hok
    clear hok
    go_wp2_with fail
  · go_ret
    exact ⟨ret_int (by simp [owedR, HOK.out]), hb1⟩
  go_loopw [5, 14] (fun n i wr => ∃ k : Nat, k ≤ l.length ∧ i = .int .i64 k ∧ n = .int .i64 (owedL (l.take k) peer) ∧ Below w.heap.size w wr) (fun _ i _ => l.length - (intOf i).toNat)
  case atStart => exact ⟨0, Nat.zero_le _, rfl, rfl, by (first | ((repeat' first | (with_reducible (first | exact Below.refl _ _ | assumption | refine Below.setCell ?_ ?_ _ | refine Below.alloc ?_ ?_ _ | refine Below.drew ?_ | refine below_drewN ?_ _ | refine Below.trans ?_ (Below.mono (by assumption) ?_))) | omega | (simp; omega) | (simp; done)); done) | (repeat' first | exact Below.refl _ _ | assumption | refine Below.setCell ?_ (by first | omega | (simp; omega) | (simp; done)) _ | refine Below.alloc ?_ (by first | omega | (simp; omega) | (simp; done)) _ | refine Below.drew ?_ | refine below_drewN ?_ _ | refine Below.trans ?_ (Below.mono (by assumption) (by first | omega | (simp; omega) | (simp; done)))))⟩
  case round =>
    obtain ⟨k, hk, rfl, rfl, hbw⟩ := hrel
    have hbz := hbw.size
    obtain ⟨g1, g2⟩ := owedL_bd l peer HOK.out (k := k)
    have h60 := debtsOk_le HOK.out
    by_cases hlt : k < l.length
    · obtain ⟨b, off, rfl, hbB, c0, c1, c2⟩ := Debt.rd (HR.out.below hbw) hlt
      obtain ⟨_, _, _, m1, m2⟩ := debtOk_iff.1 (debtsOk_at HOK.out hlt)
      have HS := Lib.hid (owedL_succ l peer hlt)
      cases h1 : (l[k].To == peer) <;> cases h2 : (l[k].From == peer)
      all_goals
        go_wp2_with fail
        go_roundw
        case rel => exact ⟨k + 1, by omega, by go_num, by rw [HS.out]; simp [owedF, h1, h2], by (first | ((repeat' first | (with_reducible (first | exact Below.refl _ _ | assumption | refine Below.setCell ?_ ?_ _ | refine Below.alloc ?_ ?_ _ | refine Below.drew ?_ | refine below_drewN ?_ _ | refine Below.trans ?_ (Below.mono (by assumption) ?_))) | omega | (simp; omega) | (simp; done)); done) | (repeat' first | exact Below.refl _ _ | assumption | refine Below.setCell ?_ (by first | omega | (simp; omega) | (simp; done)) _ | refine Below.alloc ?_ (by first | omega | (simp; omega) | (simp; done)) _ | refine Below.drew ?_ | refine below_drewN ?_ _ | refine Below.trans ?_ (Below.mono (by assumption) (by first | omega | (simp; omega) | (simp; done)))))⟩
        case measure => simp [intOf]; omega
    · obtain rfl : k = l.length := by omega
      go_wp2
      go_ret
      exact ⟨ret_int (by rw [List.take_length]; simp [owedR, HOK.out]), by (first | ((repeat' first | (with_reducible (first | exact Below.refl _ _ | assumption | refine Below.setCell ?_ ?_ _ | refine Below.alloc ?_ ?_ _ | refine Below.drew ?_ | refine below_drewN ?_ _ | refine Below.trans ?_ (Below.mono (by assumption) ?_))) | omega | (simp; omega) | (simp; done)); done) | (repeat' first | exact Below.refl _ _ | assumption | refine Below.setCell ?_ (by first | omega | (simp; omega) | (simp; done)) _ | refine Below.alloc ?_ (by first | omega | (simp; omega) | (simp; done)) _ | refine Below.drew ?_ | refine below_drewN ?_ _ | refine Below.trans ?_ (Below.mono (by assumption) (by first | omega | (simp; omega) | (simp; done)))))⟩
end Go.Proofs.Ytombjkokncepnaa
