/- Rings: the walks. -/
import Derived.Test.YtmafdoloidlfeaaRows
import Derived.Test.YtmafdoloidlfeaaNetI
import Derived.Test.YtmafdoloidlfeaaNetS
namespace Go.Proofs.Ytmafdoloidlfeaa
open Go.RowKit

set_option maxHeartbeats 2000000 in
theorem i_Rings (l : List Debt) (A : Option Addr) (cap : Nat) (w : World) (hl : l.length ≤ 1048576) (hr : Rd w w.heap.size 3 A (l.map Debt.cells)) :
    Calls Try.prog 42 #[.slice A l.length cap] w fun e w' => e = .returned (.int .i64 (ringsR l)) ∧ Below w.heap.size w w' := by
  have HR := Lib.hid hr
  clear hr
  cases hok : debtsOk l
  · have H1 := Lib.hid (show ringsR l = 0 by simp [ringsR, hok])
    have HOK := Lib.hid hok
    clear hok
    go_enter Try.func42, Try.ntmps42
    go_wp2_with fail
    refine (i_DebtsOk l _ _ _ hl HR.out).mono ?_
    rintro e w1 ⟨rfl, hb1⟩
    rw [HOK.out]
    go_wp2_with fail
    go_ret
    exact ⟨ret_int H1.out.symm, hb1⟩
  · have H1 := Lib.hid (show ringsR l = dsum l - dsum (netR l) by simp [ringsR, hok])
    have h60 := debtsOk_le hok
    have HB1 := Lib.hid (debts_amt hok)
    have HB2 := Lib.hid (netR_amt l)
    have h100 := netR_len l
    have b1 := dsum_bd (debts_amt hok) l.length
    have b2 := dsum_bd (netR_amt l) (netR l).length
    rw [List.take_length] at b1 b2
    have HOK := Lib.hid hok
    clear hok
    go_enter Try.func42, Try.ntmps42
    go_wp2_with fail
    refine (i_DebtsOk l _ _ _ hl HR.out).mono ?_
    rintro e w1 ⟨rfl, hb1⟩
    have z1 := hb1.size
    rw [HOK.out]
    go_wp2_with fail
    refine (i_debtSum l _ _ _ (by omega) HB1.out ((HR.out.below (by (first | ((repeat' first | (with_reducible (first | exact Below.refl _ _ | assumption | refine Below.setCell ?_ ?_ _ | refine Below.alloc ?_ ?_ _ | refine Below.drew ?_ | refine below_drewN ?_ _ | refine Below.trans ?_ (Below.mono (by assumption) ?_))) | omega | (simp; omega) | (simp; done)); done) | (repeat' first | exact Below.refl _ _ | assumption | refine Below.setCell ?_ (by first | omega | (simp; omega) | (simp; done)) _ | refine Below.alloc ?_ (by first | omega | (simp; omega) | (simp; done)) _ | refine Below.drew ?_ | refine below_drewN ?_ _ | refine Below.trans ?_ (Below.mono (by assumption) (by first | omega | (simp; omega) | (simp; done))))))).more (by omega))).mono ?_
    rintro e w2 ⟨rfl, hb2⟩
    have z2 := hb2.size
    go_wp2_with fail
    refine (i_Net l _ _ _ hl ((HR.out.below (by (first | ((repeat' first | (with_reducible (first | exact Below.refl _ _ | assumption | refine Below.setCell ?_ ?_ _ | refine Below.alloc ?_ ?_ _ | refine Below.drew ?_ | refine below_drewN ?_ _ | refine Below.trans ?_ (Below.mono (by assumption) ?_))) | omega | (simp; omega) | (simp; done)); done) | (repeat' first | exact Below.refl _ _ | assumption | refine Below.setCell ?_ (by first | omega | (simp; omega) | (simp; done)) _ | refine Below.alloc ?_ (by first | omega | (simp; omega) | (simp; done)) _ | refine Below.drew ?_ | refine below_drewN ?_ _ | refine Below.trans ?_ (Below.mono (by assumption) (by first | omega | (simp; omega) | (simp; done))))))).more (by omega))).mono ?_
    rintro e w3 ⟨A3, cap3, rfl, how3, hb3⟩
    have z3 := hb3.size
    have HW := Lib.hid how3.rd
    clear how3
    go_wp2_with fail
    refine (i_debtSum (netR l) _ _ _ (by omega) HB2.out HW.out).mono ?_
    rintro e w4 ⟨rfl, hb4⟩
    obtain ⟨b1a, b1b⟩ := b1
    obtain ⟨b2a, b2b⟩ := b2
    obtain ⟨X, hX⟩ : ∃ X, dsum l = X := ⟨_, rfl⟩
    obtain ⟨Y, hY⟩ : ∃ Y, dsum (netR l) = Y := ⟨_, rfl⟩
    rw [hX, hY] at H1
    rw [hX] at b1a b1b
    rw [hY] at b2a b2b
    simp only [hX, hY]
    clear hX hY
    go_wp2_with fail
    go_ret
    exact ⟨ret_int H1.out.symm, by (first | ((repeat' first | (with_reducible (first | exact Below.refl _ _ | assumption | refine Below.setCell ?_ ?_ _ | refine Below.alloc ?_ ?_ _ | refine Below.drew ?_ | refine below_drewN ?_ _ | refine Below.trans ?_ (Below.mono (by assumption) ?_))) | omega | (simp; omega) | (simp; done)); done) | (repeat' first | exact Below.refl _ _ | assumption | refine Below.setCell ?_ (by first | omega | (simp; omega) | (simp; done)) _ | refine Below.alloc ?_ (by first | omega | (simp; omega) | (simp; done)) _ | refine Below.drew ?_ | refine below_drewN ?_ _ | refine Below.trans ?_ (Below.mono (by assumption) (by first | omega | (simp; omega) | (simp; done)))))⟩
def ringF (n : Int) (d : Debt) : Int := n - d.Amt
theorem ring_fold : ∀ (l : List Debt) (n : Int), l.foldl ringF n = n - dsum l
  | [], n => by simp [dsum]
  | d :: l, n => by
    have h : dsum (d :: l) = d.Amt + dsum l := by
      have key : ∀ (l : List Debt) (a b : Int), l.foldl (fun n d => n + d.Amt) (a + b) = a + l.foldl (fun n d => n + d.Amt) b := by
        intro l
        induction l with
        | nil => intro a b; rfl
        | cons x l ih => intro a b; simp only [List.foldl_cons]; rw [Int.add_assoc, ih]
      have := key l d.Amt 0
      simp only [dsum, List.foldl_cons]
      rw [Int.zero_add, ← this, Int.add_zero]
    rw [List.foldl_cons, ring_fold l, ringF, h]
    omega
theorem ring_succ (l : List Debt) (n : Int) {k : Nat} (hk : k < l.length) : (l.take (k + 1)).foldl ringF n = (l.take k).foldl ringF n - l[k].Amt := foldl_take_succ l _ _ hk
set_option maxHeartbeats 2000000 in
theorem s_Rings (l : List Debt) (A : Option Addr) (cap : Nat) (w : World) (hl : l.length ≤ 1048576) (hr : Rd w w.heap.size 3 A (l.map Debt.cells)) :
    Calls Try.prog 41 #[.slice A l.length cap] w fun e w' => e = .returned (.int .i64 (ringsR l)) ∧ Below w.heap.size w w' := by
  have HR := Lib.hid hr
  clear hr
  cases hok : debtsOk l
  · have H1 := Lib.hid (show ringsR l = 0 by simp [ringsR, hok])
    have HOK := Lib.hid hok
    clear hok
    go_enter Try.func41, Try.ntmps41
    go_wp2_with fail
    refine (s_DebtsOk l _ _ _ hl HR.out).mono ?_
    rintro e w1 ⟨rfl, hb1⟩
    rw [HOK.out]
    go_wp2_with fail
    go_ret
    exact ⟨ret_int H1.out.symm, hb1⟩
  · have H1 := Lib.hid (show ringsR l = dsum l - dsum (netR l) by simp [ringsR, hok])
    have h60 := debtsOk_le hok
    have HB1 := Lib.hid (debts_amt hok)
    have HB2 := Lib.hid (netR_amt l)
    have h100 := netR_len l
    have HOK := Lib.hid hok
    clear hok
    have HC := Lib.hid (fun W q => s_Net l A cap W hl q)
    obtain ⟨NR, hNR⟩ : ∃ R, netR l = R := ⟨_, rfl⟩
    rw [hNR] at H1 HB2 h100 HC
    clear hNR
    go_enter Try.func41, Try.ntmps41
    go_wp2_with fail
    refine (s_DebtsOk l _ _ _ hl HR.out).mono ?_
    rintro e w1 ⟨rfl, hb1⟩
    have z1 := hb1.size
    rw [HOK.out]
    go_wp2_with fail
    go_loopw [3, 14] (fun n i wr => ∃ k : Nat, k ≤ l.length ∧ i = .int .i64 k ∧ n = .int .i64 (dsum (l.take k)) ∧ Below w.heap.size w wr) (fun _ i _ => l.length - (intOf i).toNat)
    case atStart => exact ⟨0, Nat.zero_le _, rfl, rfl, hb1⟩
    case round =>
      obtain ⟨k, hk, rfl, rfl, hbw⟩ := hrel
      have hbz := hbw.size
      obtain ⟨g1, g2⟩ := dsum_bd HB1.out k
      by_cases hlt : k < l.length
      · obtain ⟨b, off, rfl, hbB, c0, c1, c2⟩ := Debt.rd (HR.out.below hbw) hlt
        obtain ⟨m1, m2⟩ := HB1.out _ (List.getElem_mem hlt)
        have HS := Lib.hid (dsum_succ l hlt)
        go_wp2_with fail
        go_roundw
        case rel => exact ⟨k + 1, by omega, by go_num, by rw [HS.out], by (first | ((repeat' first | (with_reducible (first | exact Below.refl _ _ | assumption | refine Below.setCell ?_ ?_ _ | refine Below.alloc ?_ ?_ _ | refine Below.drew ?_ | refine below_drewN ?_ _ | refine Below.trans ?_ (Below.mono (by assumption) ?_))) | omega | (simp; omega) | (simp; done)); done) | (repeat' first | exact Below.refl _ _ | assumption | refine Below.setCell ?_ (by first | omega | (simp; omega) | (simp; done)) _ | refine Below.alloc ?_ (by first | omega | (simp; omega) | (simp; done)) _ | refine Below.drew ?_ | refine below_drewN ?_ _ | refine Below.trans ?_ (Below.mono (by assumption) (by first | omega | (simp; omega) | (simp; done)))))⟩
        case measure => simp [intOf]; omega
      · obtain rfl : k = l.length := by omega
        rw [List.take_length] at g1 g2 ⊢
        obtain ⟨X, hX⟩ : ∃ X, dsum l = X := ⟨_, rfl⟩
        rw [hX] at g1 g2 H1 ⊢
        clear hX
        go_wp2_with fail
        refine (HC.out _ ((HR.out.below (by (first | ((repeat' first | (with_reducible (first | exact Below.refl _ _ | assumption | refine Below.setCell ?_ ?_ _ | refine Below.alloc ?_ ?_ _ | refine Below.drew ?_ | refine below_drewN ?_ _ | refine Below.trans ?_ (Below.mono (by assumption) ?_))) | omega | (simp; omega) | (simp; done)); done) | (repeat' first | exact Below.refl _ _ | assumption | refine Below.setCell ?_ (by first | omega | (simp; omega) | (simp; done)) _ | refine Below.alloc ?_ (by first | omega | (simp; omega) | (simp; done)) _ | refine Below.drew ?_ | refine below_drewN ?_ _ | refine Below.trans ?_ (Below.mono (by assumption) (by first | omega | (simp; omega) | (simp; done))))))).more (by omega))).mono ?_
        rintro e w3 ⟨A3, cap3, rfl, how3, hb3⟩
        have z3 := hb3.size
        have HW := Lib.hid how3.rd
        have hbw3 : Below w.heap.size w w3 := by (first | ((repeat' first | (with_reducible (first | exact Below.refl _ _ | assumption | refine Below.setCell ?_ ?_ _ | refine Below.alloc ?_ ?_ _ | refine Below.drew ?_ | refine below_drewN ?_ _ | refine Below.trans ?_ (Below.mono (by assumption) ?_))) | omega | (simp; omega) | (simp; done)); done) | (repeat' first | exact Below.refl _ _ | assumption | refine Below.setCell ?_ (by first | omega | (simp; omega) | (simp; done)) _ | refine Below.alloc ?_ (by first | omega | (simp; omega) | (simp; done)) _ | refine Below.drew ?_ | refine below_drewN ?_ _ | refine Below.trans ?_ (Below.mono (by assumption) (by first | omega | (simp; omega) | (simp; done)))))
        clear how3 hb3
        go_wp2_with fail
        obtain ⟨wo, rfl⟩ : ∃ wo : World, wo = wr := ⟨_, rfl⟩
        go_loopw [3, 26] (fun n i wr => ∃ k : Nat, k ≤ NR.length ∧ i = .int .i64 k ∧ n = .int .i64 ((NR.take k).foldl ringF X) ∧ Below w3.heap.size w3 wr) (fun _ i _ => NR.length - (intOf i).toNat)
        case atStart => exact ⟨0, Nat.zero_le _, rfl, rfl, Below.refl _ _⟩
        case round =>
          obtain ⟨k, hk, rfl, rfl, hbw⟩ := hrel
          have hbz := hbw.size
          have HF := Lib.hid (ring_fold (NR.take k) X)
          obtain ⟨g3, g4⟩ := dsum_bd HB2.out k
          have g5 : -6000000000000 ≤ (NR.take k).foldl ringF X := by rw [HF.out]; omega
          have g6 : (NR.take k).foldl ringF X ≤ 60000000000000000 := by rw [HF.out]; omega
          by_cases hlt : k < NR.length
          · obtain ⟨b, off, rfl, hbB, c0, c1, c2⟩ := Debt.rd (HW.out.below hbw) hlt
            obtain ⟨m1, m2⟩ := HB2.out _ (List.getElem_mem hlt)
            have HS := Lib.hid (ring_succ NR X hlt)
            go_wp2_with fail
            go_roundw
            case rel => exact ⟨k + 1, by omega, by go_num, by rw [HS.out], by (first | ((repeat' first | (with_reducible (first | exact Below.refl _ _ | assumption | refine Below.setCell ?_ ?_ _ | refine Below.alloc ?_ ?_ _ | refine Below.drew ?_ | refine below_drewN ?_ _ | refine Below.trans ?_ (Below.mono (by assumption) ?_))) | omega | (simp; omega) | (simp; done)); done) | (repeat' first | exact Below.refl _ _ | assumption | refine Below.setCell ?_ (by first | omega | (simp; omega) | (simp; done)) _ | refine Below.alloc ?_ (by first | omega | (simp; omega) | (simp; done)) _ | refine Below.drew ?_ | refine below_drewN ?_ _ | refine Below.trans ?_ (Below.mono (by assumption) (by first | omega | (simp; omega) | (simp; done)))))⟩
            case measure => simp [intOf]; omega
          · obtain rfl : k = NR.length := by omega
            go_wp2_with fail
            go_ret
            exact ⟨ret_int (by rw [HF.out, List.take_length, H1.out]), by (first | ((repeat' first | (with_reducible (first | exact Below.refl _ _ | assumption | refine Below.setCell ?_ ?_ _ | refine Below.alloc ?_ ?_ _ | refine Below.drew ?_ | refine below_drewN ?_ _ | refine Below.trans ?_ (Below.mono (by assumption) ?_))) | omega | (simp; omega) | (simp; done)); done) | (repeat' first | exact Below.refl _ _ | assumption | refine Below.setCell ?_ (by first | omega | (simp; omega) | (simp; done)) _ | refine Below.alloc ?_ (by first | omega | (simp; omega) | (simp; done)) _ | refine Below.drew ?_ | refine below_drewN ?_ _ | refine Below.trans ?_ (Below.mono (by assumption) (by first | omega | (simp; omega) | (simp; done)))))⟩
end Go.Proofs.Ytmafdoloidlfeaa
