/- Gains: the sum of the fees: plain, and the walks. -/
import Derived.Test.YtkgnipaponfbkaaRows
import Derived.Test.YtkgnipaponfbkaaGain
namespace Go.Proofs.Ytkgnipaponfbkaa
open Go.RowKit

def feeOk (g : Gain) : Bool := amtB g.Fees
def feesTo (l : List Gain) : Int := l.foldl (fun s g => s + g.Fees) 0
def gainSum (l : List Gain) : Int := if l.all feeOk = true ∧ feesTo l ≤ 1125899906842624 then feesTo l else 0
theorem feesTo_succ (l : List Gain) {k : Nat} (hk : k < l.length) : feesTo (l.take (k + 1)) = feesTo (l.take k) + l[k].Fees := foldl_take_succ l _ _ hk
theorem fees_foldl (l : List Gain) (c : Int) : l.foldl (fun s g => s + g.Fees) c = c + feesTo l := by
  induction l generalizing c with
  | nil => simp [feesTo]
  | cons g l ih => simp only [feesTo, List.foldl_cons]; rw [ih, ih (0 + g.Fees)]; omega
theorem feesTo_append (a b : List Gain) : feesTo (a ++ b) = feesTo a + feesTo b := by
  unfold feesTo
  rw [List.foldl_append, fees_foldl]
  rfl
theorem feesTo_nonneg {l : List Gain} (h : l.all feeOk = true) : 0 ≤ feesTo l := by
  induction l with
  | nil => simp [feesTo]
  | cons g l ih =>
    simp only [List.all_cons, Bool.and_eq_true] at h
    have := ih h.2
    have h1 := (amtB_iff.1 h.1).1
    have e : feesTo (g :: l) = g.Fees + feesTo l := by
      show (g :: l).foldl _ _ = _
      rw [List.foldl_cons, fees_foldl]; omega
    omega
theorem feesTo_take {l : List Gain} (h : l.all feeOk = true) (k : Nat) : feesTo (l.take k) ≤ feesTo l := by
  have e := feesTo_append (l.take k) (l.drop k)
  rw [List.take_append_drop] at e
  have := feesTo_nonneg (l := l.drop k) (by
    rw [List.all_eq_true] at h ⊢
    exact fun x hx => h x (List.mem_of_mem_drop hx))
  omega
def GsRel (l : List Gain) (k : Nat) (s : Int) : Prop := (l.take k).all feeOk = true ∧ 0 ≤ s ∧ s ≤ 2251799813685248 ∧ (s = feesTo (l.take k) ∨ (1125899906842624 < s ∧ 1125899906842624 < feesTo (l.take k)))
theorem GsRel.small {l : List Gain} {k : Nat} {s : Int} (h : GsRel l k s) (hk : k < l.length) (ho : feeOk l[k] = true) (hs : s ≤ 1125899906842624) : GsRel l (k + 1) (s + l[k].Fees) := by
  obtain ⟨h1, h2, h3, h4⟩ := h
  obtain ⟨o1, o2⟩ := amtB_iff.1 ho
  refine ⟨by rw [all_take_succ l feeOk hk, h1, ho]; rfl, by omega, by omega, ?_⟩
  rw [feesTo_succ l hk]
  left
  omega
theorem GsRel.great {l : List Gain} {k : Nat} {s : Int} (h : GsRel l k s) (hk : k < l.length) (ho : feeOk l[k] = true) (hs : 1125899906842624 < s) : GsRel l (k + 1) s := by
  obtain ⟨h1, h2, h3, h4⟩ := h
  obtain ⟨o1, o2⟩ := amtB_iff.1 ho
  refine ⟨by rw [all_take_succ l feeOk hk, h1, ho]; rfl, h2, h3, ?_⟩
  rw [feesTo_succ l hk]
  right
  omega
theorem GsRel.yes {l : List Gain} {s : Int} (h : GsRel l l.length s) (hs : amtB s = true) : s = gainSum l := by
  obtain ⟨h1, h2, h3, h4⟩ := h
  obtain ⟨o1, o2⟩ := amtB_iff.1 hs
  rw [List.take_length] at h1 h4
  unfold gainSum
  rw [if_pos ⟨h1, by omega⟩]
  omega
theorem GsRel.no {l : List Gain} {s : Int} (h : GsRel l l.length s) (hs : amtB s = false) : 0 = gainSum l := by
  obtain ⟨h1, h2, h3, h4⟩ := h
  have o : ¬ (0 ≤ s ∧ s ≤ 1125899906842624) := fun hh => by rw [amtB_iff.2 hh] at hs; cases hs
  rw [List.take_length] at h1 h4
  unfold gainSum
  rw [if_neg (by omega)]
theorem gainSum_bad {l : List Gain} {k : Nat} (hk : k < l.length) (h : feeOk l[k] = false) : 0 = gainSum l := by
  unfold gainSum
  rw [if_neg (fun hh => by rw [all_false l feeOk hk h] at hh; cases hh.1)]
theorem gainSum_over {l : List Gain} {k : Nat} (hk : k < l.length) (h : 1125899906842624 < feesTo (l.take k) + l[k].Fees) : 0 = gainSum l := by
  unfold gainSum
  rw [if_neg (fun hh => by have := feesTo_take hh.1 (k + 1); rw [feesTo_succ l hk] at this; omega)]
set_option maxHeartbeats 1000000 in
theorem i_GainSum (l : List Gain) (A : Option Addr) (cap : Nat) (w : World) (hl : l.length ≤ 1048576) (hr : Rd w w.heap.size 4 A (l.map Gain.cells)) :
    Calls Try.prog 102 #[.slice A l.length cap] w fun e w' => e = .returned (.int .i64 (gainSum l)) ∧ Below w.heap.size w w' := by
  have HR := Lib.hid hr
  clear hr
  go_enter Try.func102, Try.ntmps102
  go_wp2_with fail
  go_loopw [3, 10] (fun n i wr => ∃ (k : Nat) (s : Int), k ≤ l.length ∧ i = .int .i64 k ∧ n = .int .i64 s ∧ GsRel l k s ∧ Below w.heap.size w wr) (fun _ i _ => l.length - (intOf i).toNat)
  case atStart => exact ⟨0, 0, Nat.zero_le _, rfl, rfl, ⟨rfl, by omega, by omega, .inl rfl⟩, Below.refl _ _⟩
  case round =>
    obtain ⟨k, s, hk, rfl, rfl, hrel, hbw⟩ := hrel
    have hbz := hbw.size
    have s1 := hrel.2.1
    have s2 := hrel.2.2.1
    have HG := Lib.hid hrel
    clear hrel
    by_cases hlt : k < l.length
    · obtain ⟨b, off, rfl, hbB, c0, c1, c2, c3⟩ := Gain.rd (HR.out.below hbw) hlt
      cases ho : feeOk l[k]
      · have h1 : amtB l[k].Fees = false := ho
        have HO := Lib.hid ho
        clear ho
        go_wp2_with (go_at_call 97; refine (i_AmtOk _ _).mono ?_; rintro e w' ⟨rfl, rfl⟩)
        go_ret
        exact ⟨ret_int (gainSum_bad hlt HO.out), by (first | ((repeat' first | (with_reducible (first | exact Below.refl _ _ | assumption | refine Below.setCell ?_ ?_ _ | refine Below.alloc ?_ ?_ _ | refine Below.drew ?_ | refine below_drewN ?_ _ | refine Below.trans ?_ (Below.mono (by assumption) ?_))) | omega | (simp; omega) | (simp; done)); done) | (repeat' first | exact Below.refl _ _ | assumption | refine Below.setCell ?_ (by first | omega | (simp; omega) | (simp; done)) _ | refine Below.alloc ?_ (by first | omega | (simp; omega) | (simp; done)) _ | refine Below.drew ?_ | refine below_drewN ?_ _ | refine Below.trans ?_ (Below.mono (by assumption) (by first | omega | (simp; omega) | (simp; done)))))⟩
      · have h1 : amtB l[k].Fees = true := ho
        obtain ⟨o1, o2⟩ := amtB_iff.1 h1
        have HO := Lib.hid ho
        clear ho
        by_cases hs : s ≤ 1125899906842624
        · go_wp2_with (go_at_call 97; refine (i_AmtOk _ _).mono ?_; rintro e w' ⟨rfl, rfl⟩)
          go_roundw
          case rel => exact ⟨k + 1, _, by omega, by go_num, rfl, HG.out.small hlt HO.out hs, by (first | ((repeat' first | (with_reducible (first | exact Below.refl _ _ | assumption | refine Below.setCell ?_ ?_ _ | refine Below.alloc ?_ ?_ _ | refine Below.drew ?_ | refine below_drewN ?_ _ | refine Below.trans ?_ (Below.mono (by assumption) ?_))) | omega | (simp; omega) | (simp; done)); done) | (repeat' first | exact Below.refl _ _ | assumption | refine Below.setCell ?_ (by first | omega | (simp; omega) | (simp; done)) _ | refine Below.alloc ?_ (by first | omega | (simp; omega) | (simp; done)) _ | refine Below.drew ?_ | refine below_drewN ?_ _ | refine Below.trans ?_ (Below.mono (by assumption) (by first | omega | (simp; omega) | (simp; done)))))⟩
          case measure => simp [intOf]; omega
        · go_wp2_with (go_at_call 97; refine (i_AmtOk _ _).mono ?_; rintro e w' ⟨rfl, rfl⟩)
          go_roundw
          case rel => exact ⟨k + 1, _, by omega, by go_num, rfl, HG.out.great hlt HO.out (by omega), by (first | ((repeat' first | (with_reducible (first | exact Below.refl _ _ | assumption | refine Below.setCell ?_ ?_ _ | refine Below.alloc ?_ ?_ _ | refine Below.drew ?_ | refine below_drewN ?_ _ | refine Below.trans ?_ (Below.mono (by assumption) ?_))) | omega | (simp; omega) | (simp; done)); done) | (repeat' first | exact Below.refl _ _ | assumption | refine Below.setCell ?_ (by first | omega | (simp; omega) | (simp; done)) _ | refine Below.alloc ?_ (by first | omega | (simp; omega) | (simp; done)) _ | refine Below.drew ?_ | refine below_drewN ?_ _ | refine Below.trans ?_ (Below.mono (by assumption) (by first | omega | (simp; omega) | (simp; done)))))⟩
          case measure => simp [intOf]; omega
    · obtain rfl : k = l.length := by omega
      cases hs : amtB s
      · go_wp2_with fail
        refine (i_amt_no _ _ hs).mono ?_
        rintro e w1 ⟨rfl, rfl⟩
        go_wp2_with fail
        go_ret
        exact ⟨ret_int (HG.out.no hs), hbw⟩
      · go_wp2_with fail
        refine (i_amt_yes _ _ hs).mono ?_
        rintro e w1 ⟨rfl, rfl⟩
        go_wp2_with fail
        go_ret
        exact ⟨ret_int (HG.out.yes hs), hbw⟩
set_option maxHeartbeats 1000000 in
theorem s_GainSum (l : List Gain) (A : Option Addr) (cap : Nat) (w : World) (hl : l.length ≤ 1048576) (hr : Rd w w.heap.size 4 A (l.map Gain.cells)) :
    Calls Try.prog 101 #[.slice A l.length cap] w fun e w' => e = .returned (.int .i64 (gainSum l)) ∧ Below w.heap.size w w' := by
  have HR := Lib.hid hr
  clear hr
  go_enter Try.func101, Try.ntmps101
  go_wp2_with fail
  go_loopw [3, 10] (fun n i wr => ∃ (k : Nat), k ≤ l.length ∧ i = .int .i64 k ∧ n = .int .i64 (feesTo (l.take k)) ∧ (l.take k).all feeOk = true ∧ feesTo (l.take k) ≤ 1125899906842624 ∧ Below w.heap.size w wr) (fun _ i _ => l.length - (intOf i).toNat)
  case atStart => exact ⟨0, Nat.zero_le _, rfl, rfl, rfl, by simp [feesTo], Below.refl _ _⟩
  case round =>
    obtain ⟨k, hk, rfl, rfl, hall, hle, hbw⟩ := hrel
    have hbz := hbw.size
    have hge := feesTo_nonneg hall
    have HA := Lib.hid hall
    clear hall
    by_cases hlt : k < l.length
    · obtain ⟨b, off, rfl, hbB, c0, c1, c2, c3⟩ := Gain.rd (HR.out.below hbw) hlt
      have h0 : amtB (feesTo (l.take k)) = true := amtB_iff.2 ⟨hge, hle⟩
      cases hc : (amtB (feesTo (l.take k)) && amtB l[k].Fees && amtB (feesTo (l.take k) + l[k].Fees))
      · have HC := Lib.hid hc
        have H0 := Lib.hid h0
        clear hc h0
        go_wp2_with fail
        refine (s_AddAmt_no _ _ _ HC.out).mono ?_
        rintro e w1 ⟨rfl, rfl⟩
        go_wp2_with fail
        go_ret
        refine ⟨ret_int ?_, by (first | ((repeat' first | (with_reducible (first | exact Below.refl _ _ | assumption | refine Below.setCell ?_ ?_ _ | refine Below.alloc ?_ ?_ _ | refine Below.drew ?_ | refine below_drewN ?_ _ | refine Below.trans ?_ (Below.mono (by assumption) ?_))) | omega | (simp; omega) | (simp; done)); done) | (repeat' first | exact Below.refl _ _ | assumption | refine Below.setCell ?_ (by first | omega | (simp; omega) | (simp; done)) _ | refine Below.alloc ?_ (by first | omega | (simp; omega) | (simp; done)) _ | refine Below.drew ?_ | refine below_drewN ?_ _ | refine Below.trans ?_ (Below.mono (by assumption) (by first | omega | (simp; omega) | (simp; done)))))⟩
        cases h1 : amtB l[k].Fees
        · exact gainSum_bad hlt h1
        · have h2 := HC.out
          rw [H0.out, h1, Bool.and_self, Bool.true_and] at h2
          obtain ⟨o1, o2⟩ := amtB_iff.1 h1
          refine gainSum_over hlt ?_
          have o : ¬ (0 ≤ feesTo (l.take k) + l[k].Fees ∧ feesTo (l.take k) + l[k].Fees ≤ 1125899906842624) := fun hh => by rw [amtB_iff.2 hh] at h2; cases h2
          omega
      · simp only [Bool.and_eq_true] at hc
        obtain ⟨⟨_, h1⟩, h2⟩ := hc
        have H0 := Lib.hid h0
        have H1 := Lib.hid h1
        have H2 := Lib.hid h2
        clear h0 h1 h2
        go_wp2_with fail
        refine (s_AddAmt_yes _ _ _ H0.out H1.out H2.out).mono ?_
        rintro e w1 ⟨rfl, rfl⟩
        go_wp2_with fail
        go_roundw
        case rel => exact ⟨k + 1, by omega, by go_num, by rw [feesTo_succ l hlt], by rw [all_take_succ l feeOk hlt, HA.out, feeOk, H1.out]; rfl, by rw [feesTo_succ l hlt]; exact (amtB_iff.1 H2.out).2, by (first | ((repeat' first | (with_reducible (first | exact Below.refl _ _ | assumption | refine Below.setCell ?_ ?_ _ | refine Below.alloc ?_ ?_ _ | refine Below.drew ?_ | refine below_drewN ?_ _ | refine Below.trans ?_ (Below.mono (by assumption) ?_))) | omega | (simp; omega) | (simp; done)); done) | (repeat' first | exact Below.refl _ _ | assumption | refine Below.setCell ?_ (by first | omega | (simp; omega) | (simp; done)) _ | refine Below.alloc ?_ (by first | omega | (simp; omega) | (simp; done)) _ | refine Below.drew ?_ | refine below_drewN ?_ _ | refine Below.trans ?_ (Below.mono (by assumption) (by first | omega | (simp; omega) | (simp; done)))))⟩
        case measure => simp [intOf]; omega
    · obtain rfl : k = l.length := by omega
      go_wp2
      go_ret
      exact ⟨ret_int (by have := HA.out; rw [List.take_length] at this hle ⊢; unfold gainSum; rw [if_pos ⟨this, hle⟩]), hbw⟩
end Go.Proofs.Ytkgnipaponfbkaa
