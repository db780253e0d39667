/- Netting: the greatest balance; sums. -/
import Derived.Test.YtombjkokncepnaaRows
import Derived.Test.YtombjkokncepnaaNetp
import Derived.Test.YtombjkokncepnaaBookA
import Derived.Deep.QuietTactic
import Derived.BigQuiet
namespace Go.Proofs.Ytombjkokncepnaa
open Go.RowKit

theorem ints_at {l : List Int} {i : Nat} (h : i < l.length) : (l.map intCells)[i]? = some [.int .i64 l[i]] := by rw [List.getElem?_map, List.getElem?_eq_getElem h]; rfl
theorem Ow.cellI {w : World} {B g n cap : Nat} {e : TypeId} {l : List Int} (h : Ow w B e 1 (.slice (some ⟨g, 0, none⟩) n cap) (l.map intCells)) {i : Nat} (hi : i < l.length) : w.cell? ⟨g, i, none⟩ = some (.int .i64 l[i]) := by
  have := h.cellAt (i := i) (j := 0) (ints_at hi) (by omega)
  rw [Nat.mul_one, Nat.add_zero] at this
  exact this
theorem Ow.setI {w : World} {B g n cap : Nat} {e : TypeId} {l : List Int} (h : Ow w B e 1 (.slice (some ⟨g, 0, none⟩) n cap) (l.map intCells)) {i : Nat} (hi : i < l.length) (x : Int) :
    Ow (w.setCell ⟨g, i, none⟩ (.int .i64 x)) B e 1 (.slice (some ⟨g, 0, none⟩) n cap) ((l.set i x).map intCells) := by
  have := h.stored (i := i) (j := 0) (ints_at hi) (by omega) (.int .i64 x)
  rw [Nat.mul_one, Nat.add_zero] at this
  rw [List.map_set]
  exact this
set_option maxRecDepth 100000 in
set_option maxHeartbeats 2000000 in
theorem s_l19Most (o : List Int) (t : Int) (ht : t = 1 ∨ t = -1) (hb : Bd o) (A : Option Addr) (cap : Nat) (w : World) (hl : o.length ≤ 1048576) (hn : 1 ≤ o.length) (hr : Rd w w.heap.size 1 A (o.map intCells)) :
    Calls Try.prog 49 #[.slice A o.length cap, .int .i64 t] w fun e w' => e = .returned (.int .i64 (mostN t o o.length : Nat)) ∧ Below w.heap.size w w' := by
  have HR := Lib.hid hr
  have HB := Lib.hid hb
  have HT := Lib.hid ht
  clear hr hb ht
  go_enter Try.func49, Try.ntmps49
  go_wp2_with fail
  go_loopw [5, 6] (fun n i wr => ∃ (p m : Nat), 1 ≤ p ∧ p ≤ o.length ∧ i = .int .i64 p ∧ n = .int .i64 m ∧ Hid (mostN t o p = m) ∧ m < p ∧ Below w.heap.size w wr) (fun _ i _ => o.length - (intOf i).toNat)
  case atStart => exact ⟨1, 0, Nat.le_refl _, hn, rfl, rfl, Lib.hid (mostN_one t o), by decide, by (first | ((repeat' first | (with_reducible (first | exact Below.refl _ _ | assumption | refine Below.setCell ?_ ?_ _ | refine Below.alloc ?_ ?_ _ | refine Below.drew ?_ | refine below_drewN ?_ _ | refine Below.trans ?_ (Below.mono (by assumption) ?_))) | omega | (simp; omega) | (simp; done)); done) | (repeat' first | exact Below.refl _ _ | assumption | refine Below.setCell ?_ (by first | omega | (simp; omega) | (simp; done)) _ | refine Below.alloc ?_ (by first | omega | (simp; omega) | (simp; done)) _ | refine Below.drew ?_ | refine below_drewN ?_ _ | refine Below.trans ?_ (Below.mono (by assumption) (by first | omega | (simp; omega) | (simp; done)))))⟩
  case round =>
    obtain ⟨p, m, hp1, hp, rfl, rfl, HM, hmp, hbw⟩ := hrel
    have hbz := hbw.size
    by_cases hlt : p < o.length
    · have hm : m < o.length := by omega
      obtain ⟨b, off, rfl, hbB, c0⟩ := ints_rd (HR.out.below hbw) hlt
      obtain ⟨b', off', e', _, d0⟩ := ints_rd (HR.out.below hbw) hm
      simp only [Option.some.injEq, Addr.mk.injEq, and_true] at e'
      obtain ⟨rfl, rfl⟩ := e'
      have HS := Lib.hid (show mostN t o (p + 1) = if t * o[m] < t * o[p] then p else m by rw [mostN, HM.out, at_lt hlt, at_lt hm])
      obtain ⟨x1, x2⟩ := HB.out p
      obtain ⟨y1, y2⟩ := HB.out m
      rw [at_lt hlt] at x1 x2
      rw [at_lt hm] at y1 y2
      have bx : -60000000000 ≤ t * o[p] ∧ t * o[p] ≤ 60000000000 := by rcases HT.out with h | h <;> rw [h] <;> omega
      have by_ : -60000000000 ≤ t * o[m] ∧ t * o[m] ≤ 60000000000 := by rcases HT.out with h | h <;> rw [h] <;> omega
      have i1 : (0 : Int) ≤ (p : Int) := by omega
      have i2 : (p : Int) < (o.length : Int) := by omega
      have i3 : (0 : Int) ≤ (m : Int) := by omega
      have i4 : (m : Int) < (o.length : Int) := by omega
      have f1 : IntKind.i64.wrap (t * o[p]) = t * o[p] := IntWalk.i64_in _ ⟨by omega, by omega⟩
      have f2 : IntKind.i64.wrap (t * o[m]) = t * o[m] := IntWalk.i64_in _ ⟨by omega, by omega⟩
      obtain ⟨XP, hXP⟩ : ∃ X, t * o[p] = X := ⟨_, rfl⟩
      obtain ⟨XM, hXM⟩ : ∃ X, t * o[m] = X := ⟨_, rfl⟩
      have F1 := Lib.hid (f1.trans hXP)
      have F2 := Lib.hid (f2.trans hXM)
      rw [hXP, hXM] at HS
      clear f1 f2 hXP hXM bx by_ x1 x2 y1 y2
      cases hD : decide (XM < XP)
      · have HK := Lib.hid (show mostN t o (p + 1) = m by rw [HS.out, if_neg (of_decide_eq_false hD)])
        clear HS
        go_wp2_with fail
        have f1 := F1.out
        have f2 := F2.out
        go_quiet (fail)
        clear f1 f2
        go_wp2_with fail
        go_roundw
        case rel => exact ⟨p + 1, m, by omega, by omega, by go_num, rfl, HK, by omega, by (first | ((repeat' first | (with_reducible (first | exact Below.refl _ _ | assumption | refine Below.setCell ?_ ?_ _ | refine Below.alloc ?_ ?_ _ | refine Below.drew ?_ | refine below_drewN ?_ _ | refine Below.trans ?_ (Below.mono (by assumption) ?_))) | omega | (simp; omega) | (simp; done)); done) | (repeat' first | exact Below.refl _ _ | assumption | refine Below.setCell ?_ (by first | omega | (simp; omega) | (simp; done)) _ | refine Below.alloc ?_ (by first | omega | (simp; omega) | (simp; done)) _ | refine Below.drew ?_ | refine below_drewN ?_ _ | refine Below.trans ?_ (Below.mono (by assumption) (by first | omega | (simp; omega) | (simp; done)))))⟩
        case measure => simp [intOf]; omega
      · have HK := Lib.hid (show mostN t o (p + 1) = p by rw [HS.out, if_pos (of_decide_eq_true hD)])
        clear HS
        go_wp2_with fail
        have f1 := F1.out
        have f2 := F2.out
        go_quiet (fail)
        clear f1 f2
        go_wp2_with fail
        go_roundw
        case rel => exact ⟨p + 1, p, by omega, by omega, by go_num, rfl, HK, by omega, by (first | ((repeat' first | (with_reducible (first | exact Below.refl _ _ | assumption | refine Below.setCell ?_ ?_ _ | refine Below.alloc ?_ ?_ _ | refine Below.drew ?_ | refine below_drewN ?_ _ | refine Below.trans ?_ (Below.mono (by assumption) ?_))) | omega | (simp; omega) | (simp; done)); done) | (repeat' first | exact Below.refl _ _ | assumption | refine Below.setCell ?_ (by first | omega | (simp; omega) | (simp; done)) _ | refine Below.alloc ?_ (by first | omega | (simp; omega) | (simp; done)) _ | refine Below.drew ?_ | refine below_drewN ?_ _ | refine Below.trans ?_ (Below.mono (by assumption) (by first | omega | (simp; omega) | (simp; done)))))⟩
        case measure => simp [intOf]; omega
    · obtain rfl : p = o.length := by omega
      go_wp2_with fail
      go_ret
      exact ⟨ret_int (by rw [HM.out]), hbw⟩
set_option maxRecDepth 100000 in
set_option maxHeartbeats 1000000 in
theorem i_debtSum (l : List Debt) (A : Option Addr) (cap : Nat) (w : World) (hl : l.length ≤ 1000) (hb : ∀ d ∈ l, 0 ≤ d.Amt ∧ d.Amt ≤ 60000000000) (hr : Rd w w.heap.size 3 A (l.map Debt.cells)) :
    Calls Try.prog 53 #[.slice A l.length cap] w fun e w' => e = .returned (.int .i64 (dsum l)) ∧ Below w.heap.size w w' := by
  have HR := Lib.hid hr
  have HB := Lib.hid hb
  clear hr hb
  go_enter Try.func53, Try.ntmps53
  go_wp2_with fail
  go_loopw [3, 8] (fun n i wr => ∃ k : Nat, k ≤ l.length ∧ i = .int .i64 k ∧ n = .int .i64 (dsum (l.take k)) ∧ Below w.heap.size w wr) (fun _ i _ => l.length - (intOf i).toNat)
  case atStart => exact ⟨0, Nat.zero_le _, rfl, rfl, by (first | ((repeat' first | (with_reducible (first | exact Below.refl _ _ | assumption | refine Below.setCell ?_ ?_ _ | refine Below.alloc ?_ ?_ _ | refine Below.drew ?_ | refine below_drewN ?_ _ | refine Below.trans ?_ (Below.mono (by assumption) ?_))) | omega | (simp; omega) | (simp; done)); done) | (repeat' first | exact Below.refl _ _ | assumption | refine Below.setCell ?_ (by first | omega | (simp; omega) | (simp; done)) _ | refine Below.alloc ?_ (by first | omega | (simp; omega) | (simp; done)) _ | refine Below.drew ?_ | refine below_drewN ?_ _ | refine Below.trans ?_ (Below.mono (by assumption) (by first | omega | (simp; omega) | (simp; done)))))⟩
  case round =>
    obtain ⟨k, hk, rfl, rfl, hbw⟩ := hrel
    have hbz := hbw.size
    obtain ⟨g1, g2⟩ := dsum_bd HB.out k
    by_cases hlt : k < l.length
    · obtain ⟨b, off, rfl, hbB, c0, c1, c2⟩ := Debt.rd (HR.out.below hbw) hlt
      obtain ⟨m1, m2⟩ := HB.out _ (List.getElem_mem hlt)
      have HS := Lib.hid (dsum_succ l hlt)
      go_wp2_with fail
      go_roundw
      case rel => exact ⟨k + 1, by omega, by go_num, by rw [HS.out], by (first | ((repeat' first | (with_reducible (first | exact Below.refl _ _ | assumption | refine Below.setCell ?_ ?_ _ | refine Below.alloc ?_ ?_ _ | refine Below.drew ?_ | refine below_drewN ?_ _ | refine Below.trans ?_ (Below.mono (by assumption) ?_))) | omega | (simp; omega) | (simp; done)); done) | (repeat' first | exact Below.refl _ _ | assumption | refine Below.setCell ?_ (by first | omega | (simp; omega) | (simp; done)) _ | refine Below.alloc ?_ (by first | omega | (simp; omega) | (simp; done)) _ | refine Below.drew ?_ | refine below_drewN ?_ _ | refine Below.trans ?_ (Below.mono (by assumption) (by first | omega | (simp; omega) | (simp; done)))))⟩
      case measure => simp [intOf]; omega
    · obtain rfl : k = l.length := by omega
      go_wp2_with fail
      go_ret
      exact ⟨ret_int (by rw [List.take_length]), hbw⟩
end Go.Proofs.Ytombjkokncepnaa
