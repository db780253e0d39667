/- Purses: the walks of the reference. -/
import Derived.Test.YtplchgkppkibnaaRows
import Derived.Test.YtplchgkppkibnaaPurse
namespace Go.Proofs.Ytplchgkppkibnaa
open Go.RowKit

theorem form_cases (c s : Int) (l : List Coin) : (amtB c = false ∧ purseForm c s l = false) ∨ (amtB c = true ∧ s < 1 ∧ purseForm c s l = false) ∨ (amtB c = true ∧ 1 ≤ s ∧ 1000000000 < s ∧ purseForm c s l = false) ∨
    (amtB c = true ∧ 1 ≤ s ∧ s ≤ 1000000000 ∧ 40 < l.length ∧ purseForm c s l = false) ∨ (amtB c = true ∧ 1 ≤ s ∧ s ≤ 1000000000 ∧ l.length ≤ 40 ∧ purseForm c s l = upTo l.length (coinAt l)) := by
  unfold purseForm
  cases amtB c
  · exact .inl ⟨rfl, by simp⟩
  · by_cases h1 : s < 1
    · exact .inr (.inl ⟨rfl, h1, by simp [inB]; omega⟩)
    · by_cases h2 : 1000000000 < s
      · exact .inr (.inr (.inl ⟨rfl, by omega, h2, by simp [inB]; omega⟩))
      · by_cases h3 : 40 < l.length
        · exact .inr (.inr (.inr (.inl ⟨rfl, by omega, by omega, h3, by simp [inB]; omega⟩)))
        · refine .inr (.inr (.inr (.inr ⟨rfl, by omega, by omega, by omega, ?_⟩)))
          have e : inB s 1 1000000000 = true := inB_iff.2 ⟨by omega, by omega⟩
          have e2 : decide (l.length ≤ 40) = true := by simp; omega
          rw [e, e2]
          simp
set_option maxRecDepth 100000 in
set_option maxHeartbeats 4000000 in
theorem s_l23Form (c s : Int) (l : List Coin) (A : Option Addr) (cap : Nat) (w : World) (hl : l.length ≤ 1048576) (hr : Rd w w.heap.size 2 A (l.map Coin.cells)) :
    Calls Try.prog 112 #[.agg #[.int .i64 c, .int .i64 s, .slice A l.length cap]] w fun e w' => e = .returned (.bool (purseForm c s l)) ∧ Below w.heap.size w w' := by
  have HR := Lib.hid hr
  clear hr
  rcases form_cases c s l with ⟨f1, f5⟩ | ⟨f1, f2, f5⟩ | ⟨f1, f2, f3, f5⟩ | ⟨f1, f2, f3, f4, f5⟩ | ⟨f1, f2, f3, f4, f5⟩
  case inr.inr.inr.inr =>
    have HF := Lib.hid f5
    clear f5
    go_enter Try.func112, Try.ntmps112
    go_wp2_with (go_at_call 54; refine (s_AmtOk _ _).mono ?_; rintro e w' ⟨rfl, rfl⟩)
    go_loopw [28] (fun i wr => ∃ k : Nat, k ≤ l.length ∧ i = .int .i64 k ∧ upTo k (coinAt l) = true ∧ wr.heap[w.heap.size]? = some (.cells #[.int .i64 c, .int .i64 s, .slice A l.length cap] 59 (0, 0)) ∧ Below w.heap.size w wr) (fun i _ => l.length - (intOf i).toNat)
    case atStart => exact ⟨0, Nat.zero_le _, rfl, rfl, heap_at rfl, by (first | ((repeat' first | (with_reducible (first | exact Below.refl _ _ | assumption | refine Below.setCell ?_ ?_ _ | refine Below.alloc ?_ ?_ _ | refine Below.drew ?_ | refine below_drewN ?_ _ | refine Below.trans ?_ (Below.mono (by assumption) ?_))) | omega | (simp; omega) | (simp; done)); done) | (repeat' first | exact Below.refl _ _ | assumption | refine Below.setCell ?_ (by first | omega | (simp; omega) | (simp; done)) _ | refine Below.alloc ?_ (by first | omega | (simp; omega) | (simp; done)) _ | refine Below.drew ?_ | refine below_drewN ?_ _ | refine Below.trans ?_ (Below.mono (by assumption) (by first | omega | (simp; omega) | (simp; done)))))⟩
    case round =>
      obtain ⟨k, hk, rfl, hall, hcells, hbw⟩ := hrel
      have hbz := hbw.size
      obtain ⟨kh, k0, k1, k2, kf, kz⟩ := own3 (Below.refl wr.heap.size wr) (Array.getElem?_eq_some_iff.1 hcells).1 hcells
      have KH := Lib.hid kh
      have HA := Lib.hid hall
      clear hcells kh hall
      by_cases hlt : k < l.length
      · obtain ⟨b, off, rfl, hbB, c0, c1⟩ := Coin.rd (HR.out.below hbw) hlt
        have hbr : b < wr.heap.size := by omega
        rcases coinAt_cases l hlt with ⟨h1, ho⟩ | ⟨h1, h2, ho⟩ | ⟨h1, h2, h3, ho⟩ | ⟨j, hj, h3, h1, h2, h4, ho⟩ | ⟨j, hj, h3, h1, h2, h4, ho⟩
        · have HO := Lib.hid ho
          clear ho
          go_wp2_with fail
          go_quiet ((first | (go_at_call 56; exact quiet_left (s_l15Time _ _)) | (go_at_call 54; exact quiet_left (s_AmtOk _ _))))
          go_wp2
          go_ret
          exact ⟨ret_bool (by rw [HF.out, upTo_false hlt HO.out]), by (first | ((repeat' first | (with_reducible (first | exact Below.refl _ _ | assumption | refine Below.setCell ?_ ?_ _ | refine Below.alloc ?_ ?_ _ | refine Below.drew ?_ | refine below_drewN ?_ _ | refine Below.trans ?_ (Below.mono (by assumption) ?_))) | omega | (simp; omega) | (simp; done)); done) | (repeat' first | exact Below.refl _ _ | assumption | refine Below.setCell ?_ (by first | omega | (simp; omega) | (simp; done)) _ | refine Below.alloc ?_ (by first | omega | (simp; omega) | (simp; done)) _ | refine Below.drew ?_ | refine below_drewN ?_ _ | refine Below.trans ?_ (Below.mono (by assumption) (by first | omega | (simp; omega) | (simp; done)))))⟩
        · have HO := Lib.hid ho
          clear ho
          cases h5 : amtB l[k].Amt
          · clear h2
            go_wp2_with fail
            go_quiet ((first | (go_at_call 56; exact quiet_left (s_l15Time _ _)) | (go_at_call 54; exact quiet_left (s_AmtOk _ _))))
            go_wp2
            go_ret
            exact ⟨ret_bool (by rw [HF.out, upTo_false hlt HO.out]), by (first | ((repeat' first | (with_reducible (first | exact Below.refl _ _ | assumption | refine Below.setCell ?_ ?_ _ | refine Below.alloc ?_ ?_ _ | refine Below.drew ?_ | refine below_drewN ?_ _ | refine Below.trans ?_ (Below.mono (by assumption) ?_))) | omega | (simp; omega) | (simp; done)); done) | (repeat' first | exact Below.refl _ _ | assumption | refine Below.setCell ?_ (by first | omega | (simp; omega) | (simp; done)) _ | refine Below.alloc ?_ (by first | omega | (simp; omega) | (simp; done)) _ | refine Below.drew ?_ | refine below_drewN ?_ _ | refine Below.trans ?_ (Below.mono (by assumption) (by first | omega | (simp; omega) | (simp; done)))))⟩
          · have h6 : decide (l[k].Amt < 1) = true := by
              have := amtB_iff.1 h5
              have h7 : ¬ (1 ≤ l[k].Amt ∧ l[k].Amt ≤ 1125899906842624) := fun hh => by rw [inB_iff.2 hh] at h2; cases h2
              simp; omega
            clear h2
            go_wp2_with fail
            go_quiet ((first | (go_at_call 56; exact quiet_left (s_l15Time _ _)) | (go_at_call 54; exact quiet_left (s_AmtOk _ _))))
            go_wp2
            go_ret
            exact ⟨ret_bool (by rw [HF.out, upTo_false hlt HO.out]), by (first | ((repeat' first | (with_reducible (first | exact Below.refl _ _ | assumption | refine Below.setCell ?_ ?_ _ | refine Below.alloc ?_ ?_ _ | refine Below.drew ?_ | refine below_drewN ?_ _ | refine Below.trans ?_ (Below.mono (by assumption) ?_))) | omega | (simp; omega) | (simp; done)); done) | (repeat' first | exact Below.refl _ _ | assumption | refine Below.setCell ?_ (by first | omega | (simp; omega) | (simp; done)) _ | refine Below.alloc ?_ (by first | omega | (simp; omega) | (simp; done)) _ | refine Below.drew ?_ | refine below_drewN ?_ _ | refine Below.trans ?_ (Below.mono (by assumption) (by first | omega | (simp; omega) | (simp; done)))))⟩
        · have HO := Lib.hid ho
          have h3' : decide (0 < k) = false := by simp; omega
          obtain ⟨m1, m2⟩ := inB_iff.1 h2
          have h5 : amtB l[k].Amt = true := amtB_iff.2 ⟨by omega, m2⟩
          have h6 : decide (l[k].Amt < 1) = false := by simp; omega
          clear ho h3 h2 m1 m2
          go_wp2_with fail
          go_quiet ((first | (go_at_call 56; exact quiet_left (s_l15Time _ _)) | (go_at_call 54; exact quiet_left (s_AmtOk _ _))))
          go_wp2
          go_roundw
          case rel => exact ⟨k + 1, by omega, by go_num, by rw [upTo_succ, HA.out, HO.out]; rfl, heap_past kz KH.out, by (first | ((repeat' first | (with_reducible (first | exact Below.refl _ _ | assumption | refine Below.setCell ?_ ?_ _ | refine Below.alloc ?_ ?_ _ | refine Below.drew ?_ | refine below_drewN ?_ _ | refine Below.trans ?_ (Below.mono (by assumption) ?_))) | omega | (simp; omega) | (simp; done)); done) | (repeat' first | exact Below.refl _ _ | assumption | refine Below.setCell ?_ (by first | omega | (simp; omega) | (simp; done)) _ | refine Below.alloc ?_ (by first | omega | (simp; omega) | (simp; done)) _ | refine Below.drew ?_ | refine below_drewN ?_ _ | refine Below.trans ?_ (Below.mono (by assumption) (by first | omega | (simp; omega) | (simp; done)))))⟩
          case measure => simp [intOf]; omega
        · obtain ⟨b', off', e', _, d0, d1⟩ := Coin.rd (HR.out.below hbw) hj
          simp only [Option.some.injEq, Addr.mk.injEq, and_true] at e'
          obtain ⟨rfl, rfl⟩ := e'
          have HO := Lib.hid ho
          have h3' : decide (0 < k) = true := by simp; omega
          have h4' : decide (l[k].At < l[j].At) = true := by simpa using h4
          obtain ⟨m1, m2⟩ := inB_iff.1 h2
          have h5 : amtB l[k].Amt = true := amtB_iff.2 ⟨by omega, m2⟩
          have h6 : decide (l[k].Amt < 1) = false := by simp; omega
          have i1 : (0 : Int) ≤ (j : Int) := by omega
          have i2 : (j : Int) < (l.length : Int) := by omega
          have e1 : IntKind.i64.wrap ((k : Int) - 1) = (j : Int) := by rw [h3]; exact (IntWalk.i64_in _ ⟨by omega, by omega⟩).trans (by omega)
          clear ho h3 h4 h2 m1 m2
          go_wp2_with fail
          go_quiet ((first | (go_at_call 56; exact quiet_left (s_l15Time _ _)) | (go_at_call 54; exact quiet_left (s_AmtOk _ _))))
          clear e1
          go_wp2
          go_ret
          exact ⟨ret_bool (by rw [HF.out, upTo_false hlt HO.out]), by (first | ((repeat' first | (with_reducible (first | exact Below.refl _ _ | assumption | refine Below.setCell ?_ ?_ _ | refine Below.alloc ?_ ?_ _ | refine Below.drew ?_ | refine below_drewN ?_ _ | refine Below.trans ?_ (Below.mono (by assumption) ?_))) | omega | (simp; omega) | (simp; done)); done) | (repeat' first | exact Below.refl _ _ | assumption | refine Below.setCell ?_ (by first | omega | (simp; omega) | (simp; done)) _ | refine Below.alloc ?_ (by first | omega | (simp; omega) | (simp; done)) _ | refine Below.drew ?_ | refine below_drewN ?_ _ | refine Below.trans ?_ (Below.mono (by assumption) (by first | omega | (simp; omega) | (simp; done)))))⟩
        · obtain ⟨b', off', e', _, d0, d1⟩ := Coin.rd (HR.out.below hbw) hj
          simp only [Option.some.injEq, Addr.mk.injEq, and_true] at e'
          obtain ⟨rfl, rfl⟩ := e'
          have HO := Lib.hid ho
          have h3' : decide (0 < k) = true := by simp; omega
          have h4' : decide (l[k].At < l[j].At) = false := by simp; omega
          obtain ⟨m1, m2⟩ := inB_iff.1 h2
          have h5 : amtB l[k].Amt = true := amtB_iff.2 ⟨by omega, m2⟩
          have h6 : decide (l[k].Amt < 1) = false := by simp; omega
          have i1 : (0 : Int) ≤ (j : Int) := by omega
          have i2 : (j : Int) < (l.length : Int) := by omega
          have e1 : IntKind.i64.wrap ((k : Int) - 1) = (j : Int) := by rw [h3]; exact (IntWalk.i64_in _ ⟨by omega, by omega⟩).trans (by omega)
          clear ho h3 h4 h2 m1 m2
          go_wp2_with fail
          go_quiet ((first | (go_at_call 56; exact quiet_left (s_l15Time _ _)) | (go_at_call 54; exact quiet_left (s_AmtOk _ _))))
          clear e1
          go_wp2
          go_roundw
          case rel => exact ⟨k + 1, by omega, by go_num, by rw [upTo_succ, HA.out, HO.out]; rfl, heap_past kz KH.out, by (first | ((repeat' first | (with_reducible (first | exact Below.refl _ _ | assumption | refine Below.setCell ?_ ?_ _ | refine Below.alloc ?_ ?_ _ | refine Below.drew ?_ | refine below_drewN ?_ _ | refine Below.trans ?_ (Below.mono (by assumption) ?_))) | omega | (simp; omega) | (simp; done)); done) | (repeat' first | exact Below.refl _ _ | assumption | refine Below.setCell ?_ (by first | omega | (simp; omega) | (simp; done)) _ | refine Below.alloc ?_ (by first | omega | (simp; omega) | (simp; done)) _ | refine Below.drew ?_ | refine below_drewN ?_ _ | refine Below.trans ?_ (Below.mono (by assumption) (by first | omega | (simp; omega) | (simp; done)))))⟩
          case measure => simp [intOf]; omega
      · obtain rfl : k = l.length := by omega
        go_wp2
        go_ret
        exact ⟨ret_bool (by rw [HF.out, HA.out]), by (first | ((repeat' first | (with_reducible (first | exact Below.refl _ _ | assumption | refine Below.setCell ?_ ?_ _ | refine Below.alloc ?_ ?_ _ | refine Below.drew ?_ | refine below_drewN ?_ _ | refine Below.trans ?_ (Below.mono (by assumption) ?_))) | omega | (simp; omega) | (simp; done)); done) | (repeat' first | exact Below.refl _ _ | assumption | refine Below.setCell ?_ (by first | omega | (simp; omega) | (simp; done)) _ | refine Below.alloc ?_ (by first | omega | (simp; omega) | (simp; done)) _ | refine Below.drew ?_ | refine below_drewN ?_ _ | refine Below.trans ?_ (Below.mono (by assumption) (by first | omega | (simp; omega) | (simp; done)))))⟩
  all_goals
    have HF := Lib.hid f5
    clear f5
    go_enter Try.func112, Try.ntmps112
    go_wp2_with (go_at_call 54; refine (s_AmtOk _ _).mono ?_; rintro e w' ⟨rfl, rfl⟩)
    go_ret
    exact ⟨ret_bool HF.out.symm, by (first | ((repeat' first | (with_reducible (first | exact Below.refl _ _ | assumption | refine Below.setCell ?_ ?_ _ | refine Below.alloc ?_ ?_ _ | refine Below.drew ?_ | refine below_drewN ?_ _ | refine Below.trans ?_ (Below.mono (by assumption) ?_))) | omega | (simp; omega) | (simp; done)); done) | (repeat' first | exact Below.refl _ _ | assumption | refine Below.setCell ?_ (by first | omega | (simp; omega) | (simp; done)) _ | refine Below.alloc ?_ (by first | omega | (simp; omega) | (simp; done)) _ | refine Below.drew ?_ | refine below_drewN ?_ _ | refine Below.trans ?_ (Below.mono (by assumption) (by first | omega | (simp; omega) | (simp; done)))))⟩
def counts (s at_ : Int) (x : Coin) : Bool := decide (x.At ≤ at_) && decide (at_ - x.At < s)
theorem s_l23Counts (c s u v at_ : Int) (A : Option Addr) (n cap : Nat) (w : World) (hs : 1 ≤ s ∧ s ≤ 1000000000) (hu : 0 ≤ u ∧ u ≤ 1000000000) :
    Calls Try.prog 110 #[.agg #[.int .i64 c, .int .i64 s, .slice A n cap], .agg #[.int .i64 u, .int .i64 v], .int .i64 at_] w fun e w' => e = .returned (.bool (counts s at_ ⟨u, v⟩)) ∧ Below w.heap.size w w' := by
  obtain ⟨s1, s2⟩ := hs
  obtain ⟨u1, u2⟩ := hu
  have hcase : at_ < u ∨ (u ≤ at_ ∧ at_ < u + s) ∨ (u ≤ at_ ∧ u + s ≤ at_) := by omega
  rcases hcase with h1 | ⟨h1, h2⟩ | ⟨h1, h2⟩
  · go_enter Try.func110, Try.ntmps110
    go_wp2
    go_ret
    exact ⟨ret_bool (by simp [counts, show ¬ u ≤ at_ from by omega]), by (first | ((repeat' first | (with_reducible (first | exact Below.refl _ _ | assumption | refine Below.setCell ?_ ?_ _ | refine Below.alloc ?_ ?_ _ | refine Below.drew ?_ | refine below_drewN ?_ _ | refine Below.trans ?_ (Below.mono (by assumption) ?_))) | omega | (simp; omega) | (simp; done)); done) | (repeat' first | exact Below.refl _ _ | assumption | refine Below.setCell ?_ (by first | omega | (simp; omega) | (simp; done)) _ | refine Below.alloc ?_ (by first | omega | (simp; omega) | (simp; done)) _ | refine Below.drew ?_ | refine below_drewN ?_ _ | refine Below.trans ?_ (Below.mono (by assumption) (by first | omega | (simp; omega) | (simp; done)))))⟩
  · go_enter Try.func110, Try.ntmps110
    go_wp2
    go_ret
    exact ⟨ret_bool (by simp [counts, show u ≤ at_ from by omega, show at_ - u < s from by omega]), by (first | ((repeat' first | (with_reducible (first | exact Below.refl _ _ | assumption | refine Below.setCell ?_ ?_ _ | refine Below.alloc ?_ ?_ _ | refine Below.drew ?_ | refine below_drewN ?_ _ | refine Below.trans ?_ (Below.mono (by assumption) ?_))) | omega | (simp; omega) | (simp; done)); done) | (repeat' first | exact Below.refl _ _ | assumption | refine Below.setCell ?_ (by first | omega | (simp; omega) | (simp; done)) _ | refine Below.alloc ?_ (by first | omega | (simp; omega) | (simp; done)) _ | refine Below.drew ?_ | refine below_drewN ?_ _ | refine Below.trans ?_ (Below.mono (by assumption) (by first | omega | (simp; omega) | (simp; done)))))⟩
  · go_enter Try.func110, Try.ntmps110
    go_wp2
    go_ret
    exact ⟨ret_bool (by simp [counts, show u ≤ at_ from by omega, show ¬ (at_ - u < s) from by omega]; omega), by (first | ((repeat' first | (with_reducible (first | exact Below.refl _ _ | assumption | refine Below.setCell ?_ ?_ _ | refine Below.alloc ?_ ?_ _ | refine Below.drew ?_ | refine below_drewN ?_ _ | refine Below.trans ?_ (Below.mono (by assumption) ?_))) | omega | (simp; omega) | (simp; done)); done) | (repeat' first | exact Below.refl _ _ | assumption | refine Below.setCell ?_ (by first | omega | (simp; omega) | (simp; done)) _ | refine Below.alloc ?_ (by first | omega | (simp; omega) | (simp; done)) _ | refine Below.drew ?_ | refine below_drewN ?_ _ | refine Below.trans ?_ (Below.mono (by assumption) (by first | omega | (simp; omega) | (simp; done)))))⟩
def usedR (c s at_ : Int) (l : List Coin) : Int := if purseForm c s l = true then (if amtB (counted s at_ l) = true then counted s at_ l else 0) else 0
theorem countedF_counts (s at_ n : Int) (x : Coin) : countedF s at_ n x = if counts s at_ x = true then n + x.Amt else n := rfl
set_option maxHeartbeats 4000000 in
theorem s_Used (c s at_ : Int) (l : List Coin) (A : Option Addr) (cap : Nat) (w : World) (hl : l.length ≤ 1048576) (hr : Rd w w.heap.size 2 A (l.map Coin.cells)) :
    Calls Try.prog 100 #[.agg #[.int .i64 c, .int .i64 s, .slice A l.length cap], .int .i64 at_] w fun e w' => e = .returned (.int .i64 (usedR c s at_ l)) ∧ Below w.heap.size w w' := by
  have HR := Lib.hid hr
  clear hr
  cases hform : purseForm c s l
  · go_enter Try.func100, Try.ntmps100
    go_wp2_with fail
    refine (s_l23Form c s l A cap _ hl ((HR.out.below (by (first | ((repeat' first | (with_reducible (first | exact Below.refl _ _ | assumption | refine Below.setCell ?_ ?_ _ | refine Below.alloc ?_ ?_ _ | refine Below.drew ?_ | refine below_drewN ?_ _ | refine Below.trans ?_ (Below.mono (by assumption) ?_))) | omega | (simp; omega) | (simp; done)); done) | (repeat' first | exact Below.refl _ _ | assumption | refine Below.setCell ?_ (by first | omega | (simp; omega) | (simp; done)) _ | refine Below.alloc ?_ (by first | omega | (simp; omega) | (simp; done)) _ | refine Below.drew ?_ | refine below_drewN ?_ _ | refine Below.trans ?_ (Below.mono (by assumption) (by first | omega | (simp; omega) | (simp; done))))))).more (by simp))).mono ?_
    rintro e w1 ⟨rfl, hb1⟩
    have z1 := hb1.size
    try simp at z1
    rw [hform]
    go_wp2_with fail
    go_ret
    exact ⟨ret_int (by simp [usedR, hform]), by (first | ((repeat' first | (with_reducible (first | exact Below.refl _ _ | assumption | refine Below.setCell ?_ ?_ _ | refine Below.alloc ?_ ?_ _ | refine Below.drew ?_ | refine below_drewN ?_ _ | refine Below.trans ?_ (Below.mono (by assumption) ?_))) | omega | (simp; omega) | (simp; done)); done) | (repeat' first | exact Below.refl _ _ | assumption | refine Below.setCell ?_ (by first | omega | (simp; omega) | (simp; done)) _ | refine Below.alloc ?_ (by first | omega | (simp; omega) | (simp; done)) _ | refine Below.drew ?_ | refine below_drewN ?_ _ | refine Below.trans ?_ (Below.mono (by assumption) (by first | omega | (simp; omega) | (simp; done)))))⟩
  · obtain ⟨hok, ⟨q1, q2⟩, q3, q4⟩ := purseForm_iff.1 hform
    have h40 := hok.2
    have HOK := Lib.hid hok
    have HF := Lib.hid hform
    clear hok hform
    go_enter Try.func100, Try.ntmps100
    go_wp2_with fail
    refine (s_l23Form c s l A cap _ hl ((HR.out.below (by (first | ((repeat' first | (with_reducible (first | exact Below.refl _ _ | assumption | refine Below.setCell ?_ ?_ _ | refine Below.alloc ?_ ?_ _ | refine Below.drew ?_ | refine below_drewN ?_ _ | refine Below.trans ?_ (Below.mono (by assumption) ?_))) | omega | (simp; omega) | (simp; done)); done) | (repeat' first | exact Below.refl _ _ | assumption | refine Below.setCell ?_ (by first | omega | (simp; omega) | (simp; done)) _ | refine Below.alloc ?_ (by first | omega | (simp; omega) | (simp; done)) _ | refine Below.drew ?_ | refine below_drewN ?_ _ | refine Below.trans ?_ (Below.mono (by assumption) (by first | omega | (simp; omega) | (simp; done))))))).more (by simp))).mono ?_
    rintro e w1 ⟨rfl, hb1⟩
    have z1 := hb1.size
    try simp at z1
    rw [HF.out]
    obtain ⟨kh, k0, k1, k2, kf, kz⟩ := own3 (g := w.heap.size) hb1 (by first | omega | (simp; omega) | (simp; done)) (by (first | ((repeat' first | (with_reducible (first | assumption | (refine heap_at ?_; (first | rfl | (simp; done))) | refine heap_drew ?_ | refine heap_drewN ?_ | refine heap_past ?_ ?_ | refine heap_far ?_ ?_)) | (simp; done) | (simp; omega)); done) | (repeat' first | assumption | (refine heap_at ?_; (simp; done)) | refine heap_drew ?_ | refine heap_drewN ?_ | (refine heap_past ?_ ?_ <;> try (simp; done)) | (refine heap_far ?_ ?_ <;> try (simp; done)))))
    have KH0 := Lib.hid kh
    clear kh
    go_wp2_with fail
    go_loopw [5, 15] (fun n i wr => ∃ k : Nat, k ≤ l.length ∧ i = .int .i64 k ∧ n = .int .i64 (counted s at_ (l.take k)) ∧ wr.heap[w.heap.size]? = some (.cells #[.int .i64 c, .int .i64 s, .slice A l.length cap] 59 (0, 0)) ∧ Below w.heap.size w wr) (fun _ i _ => l.length - (intOf i).toNat)
    case atStart => exact ⟨0, Nat.zero_le _, rfl, rfl, KH0.out, by (first | ((repeat' first | (with_reducible (first | exact Below.refl _ _ | assumption | refine Below.setCell ?_ ?_ _ | refine Below.alloc ?_ ?_ _ | refine Below.drew ?_ | refine below_drewN ?_ _ | refine Below.trans ?_ (Below.mono (by assumption) ?_))) | omega | (simp; omega) | (simp; done)); done) | (repeat' first | exact Below.refl _ _ | assumption | refine Below.setCell ?_ (by first | omega | (simp; omega) | (simp; done)) _ | refine Below.alloc ?_ (by first | omega | (simp; omega) | (simp; done)) _ | refine Below.drew ?_ | refine below_drewN ?_ _ | refine Below.trans ?_ (Below.mono (by assumption) (by first | omega | (simp; omega) | (simp; done)))))⟩
    case round =>
      clear k0 k1 k2 kf kz
      obtain ⟨k, hk, rfl, rfl, hcells, hbw⟩ := hrel
      have hbz := hbw.size
      obtain ⟨kh, k0, k1, k2, kf, kz⟩ := own3 (Below.refl wr.heap.size wr) (Array.getElem?_eq_some_iff.1 hcells).1 hcells
      obtain ⟨g1, g2⟩ := counted_bd s at_ HOK.out k
      clear hcells
      by_cases hlt : k < l.length
      · obtain ⟨b, off, rfl, hbB, c0, c1⟩ := Coin.rd (HR.out.below hbw) hlt
        have hbr : b < wr.heap.size := by omega
        obtain ⟨⟨m1, m2⟩, m3, m4⟩ := HOK.out.at_ hlt
        have HS := Lib.hid (counted_succ s at_ l hlt)
        cases hD : counts s at_ ⟨l[k].At, l[k].Amt⟩
        all_goals
          go_wp2_with fail
          refine (s_l23Counts c s l[k].At l[k].Amt at_ _ _ _ _ ⟨q3, q4⟩ ⟨m1, m2⟩).mono ?_
          rintro e w2 ⟨rfl, hb2⟩
          have z2 := hb2.size
          try simp at z2
          rw [hD]
          obtain ⟨ph, p0, p1, p2, pf, pz⟩ := own3 (g := w.heap.size) hb2 (by first | omega | (simp; omega) | (simp; done)) (by (first | ((repeat' first | (with_reducible (first | assumption | (refine heap_at ?_; (first | rfl | (simp; done))) | refine heap_drew ?_ | refine heap_drewN ?_ | refine heap_past ?_ ?_ | refine heap_far ?_ ?_)) | (simp; done) | (simp; omega)); done) | (repeat' first | assumption | (refine heap_at ?_; (simp; done)) | refine heap_drew ?_ | refine heap_drewN ?_ | (refine heap_past ?_ ?_ <;> try (simp; done)) | (refine heap_far ?_ ?_ <;> try (simp; done)))))
          obtain ⟨qh, q0, q1, qf, qz⟩ := own2 (g := wr.heap.size) hb2 (by first | omega | (simp; omega) | (simp; done)) (by (first | ((repeat' first | (with_reducible (first | assumption | (refine heap_at ?_; (first | rfl | (simp; done))) | refine heap_drew ?_ | refine heap_drewN ?_ | refine heap_past ?_ ?_ | refine heap_far ?_ ?_)) | (simp; done) | (simp; omega)); done) | (repeat' first | assumption | (refine heap_at ?_; (simp; done)) | refine heap_drew ?_ | refine heap_drewN ?_ | (refine heap_past ?_ ?_ <;> try (simp; done)) | (refine heap_far ?_ ?_ <;> try (simp; done)))))
          go_wp2_with fail
          go_roundw
          case rel => exact ⟨k + 1, by omega, by go_num, by rw [HS.out, countedF_counts, show counts s at_ l[k] = _ from hD]; simp, ph, by (first | ((repeat' first | (with_reducible (first | exact Below.refl _ _ | assumption | refine Below.setCell ?_ ?_ _ | refine Below.alloc ?_ ?_ _ | refine Below.drew ?_ | refine below_drewN ?_ _ | refine Below.trans ?_ (Below.mono (by assumption) ?_))) | omega | (simp; omega) | (simp; done)); done) | (repeat' first | exact Below.refl _ _ | assumption | refine Below.setCell ?_ (by first | omega | (simp; omega) | (simp; done)) _ | refine Below.alloc ?_ (by first | omega | (simp; omega) | (simp; done)) _ | refine Below.drew ?_ | refine below_drewN ?_ _ | refine Below.trans ?_ (Below.mono (by assumption) (by first | omega | (simp; omega) | (simp; done)))))⟩
          case measure => simp [intOf]; omega
      · obtain rfl : k = l.length := by omega
        have e : counted s at_ (l.take l.length) = counted s at_ l := by rw [List.take_length]
        rw [e] at g1 g2
        have E := Lib.hid e
        clear e
        cases hA : amtB (counted s at_ l)
        all_goals
          go_wp2_with (go_at_call 54; refine (s_AmtOk _ _).mono ?_; rintro e w' ⟨rfl, rfl⟩)
          go_ret
          exact ⟨ret_int (by simp [usedR, HF.out, hA]), by (first | ((repeat' first | (with_reducible (first | exact Below.refl _ _ | assumption | refine Below.setCell ?_ ?_ _ | refine Below.alloc ?_ ?_ _ | refine Below.drew ?_ | refine below_drewN ?_ _ | refine Below.trans ?_ (Below.mono (by assumption) ?_))) | omega | (simp; omega) | (simp; done)); done) | (repeat' first | exact Below.refl _ _ | assumption | refine Below.setCell ?_ (by first | omega | (simp; omega) | (simp; done)) _ | refine Below.alloc ?_ (by first | omega | (simp; omega) | (simp; done)) _ | refine Below.drew ?_ | refine below_drewN ?_ _ | refine Below.trans ?_ (Below.mono (by assumption) (by first | omega | (simp; omega) | (simp; done)))))⟩
end Go.Proofs.Ytplchgkppkibnaa
