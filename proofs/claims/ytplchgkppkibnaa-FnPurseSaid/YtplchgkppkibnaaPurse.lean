/- Purses: the walks of the program and of the reference. -/
import Derived.Test.YtplchgkppkibnaaRows
import Derived.Test.YtplchgkppkibnaaCoin
import Derived.Deep.QuietTactic
import Derived.BigQuiet
import Derived.Deep.RegionHeld3
import Derived.IntWalk
namespace Go.Proofs.Ytplchgkppkibnaa
open Go.RowKit

/-! ### Plain: a coin at its place; the form of a purse -/
def coinAt (l : List Coin) (i : Nat) : Bool :=
  match l[i]? with
  | some c => timeB c.At && inB c.Amt 1 1125899906842624 && (decide (i = 0) || match l[i - 1]? with | some p => decide (p.At ≤ c.At) | none => false)
  | none => true
def upTo (k : Nat) (p : Nat → Bool) : Bool := (List.range k).all p
theorem upTo_succ (k : Nat) (p : Nat → Bool) : upTo (k + 1) p = (upTo k p && p k) := by
  unfold upTo
  rw [List.range_succ, List.all_append]
  simp
theorem upTo_iff {k : Nat} {p : Nat → Bool} : upTo k p = true ↔ ∀ i, i < k → p i = true := by
  simp [upTo, List.all_eq_true]
theorem upTo_false {k i : Nat} {p : Nat → Bool} (hi : i < k) (h : p i = false) : upTo k p = false := by
  cases hu : upTo k p
  · rfl
  · rw [upTo_iff.1 hu i hi] at h
    cases h
def purseForm (c s : Int) (l : List Coin) : Bool := upTo l.length (coinAt l) && (amtB c && inB s 1 1000000000 && decide (l.length ≤ 40))
theorem coinAt_cases (l : List Coin) {k : Nat} (hk : k < l.length) :
    (timeB l[k].At = false ∧ coinAt l k = false) ∨ (timeB l[k].At = true ∧ inB l[k].Amt 1 1125899906842624 = false ∧ coinAt l k = false) ∨
    (timeB l[k].At = true ∧ inB l[k].Amt 1 1125899906842624 = true ∧ k = 0 ∧ coinAt l k = true) ∨
    (∃ j, ∃ h : j < l.length, k = j + 1 ∧ timeB l[k].At = true ∧ inB l[k].Amt 1 1125899906842624 = true ∧ l[k].At < l[j].At ∧ coinAt l k = false) ∨
    (∃ j, ∃ h : j < l.length, k = j + 1 ∧ timeB l[k].At = true ∧ inB l[k].Amt 1 1125899906842624 = true ∧ l[j].At ≤ l[k].At ∧ coinAt l k = true) := by
  have e : l[k]? = some l[k] := List.getElem?_eq_getElem hk
  unfold coinAt
  rw [e]
  cases h1 : timeB l[k].At
  · exact .inl ⟨rfl, by simp [h1]⟩
  · cases h2 : inB l[k].Amt 1 1125899906842624
    · exact .inr (.inl ⟨rfl, rfl, by simp [h1, h2]⟩)
    · cases k with
      | zero => exact .inr (.inr (.inl ⟨rfl, rfl, rfl, by simp [h1, h2]⟩))
      | succ j =>
        have hj : j < l.length := by omega
        have e2 : l[j + 1 - 1]? = some l[j] := List.getElem?_eq_getElem hj
        by_cases h3 : l[j].At ≤ l[j + 1].At
        · exact .inr (.inr (.inr (.inr ⟨j, hj, rfl, rfl, rfl, h3, by simp only [e2]; simp [h1, h2, h3]⟩)))
        · exact .inr (.inr (.inr (.inl ⟨j, hj, rfl, rfl, rfl, by omega, by simp only [e2]; simp [h1, h2]; omega⟩)))
set_option maxRecDepth 100000 in
set_option maxHeartbeats 2000000 in
theorem i_coinsOk (c s : Int) (l : List Coin) (A : Option Addr) (cap : Nat) (w : World) (hl : l.length ≤ 1048576) (hr : Rd w w.heap.size 2 A (l.map Coin.cells)) :
    Calls Try.prog 80 #[.agg #[.int .i64 c, .int .i64 s, .slice A l.length cap]] w fun e w' => e = .returned (.bool (purseForm c s l)) ∧ Below w.heap.size w w' := by
  have HR := Lib.hid hr
  clear hr
  go_enter Try.func80, Try.ntmps80
  go_wp2_with fail
  go_loopw [8] (fun i wr => ∃ k : Nat, k ≤ l.length ∧ i = .int .i64 k ∧ upTo k (coinAt l) = true ∧ wr.heap[w.heap.size]? = some (.cells #[.int .i64 c, .int .i64 s, .slice A l.length cap] 59 (0, 0)) ∧ Below w.heap.size w wr) (fun i _ => l.length - (intOf i).toNat)
  case atStart => exact ⟨0, Nat.zero_le _, rfl, rfl, heap_at rfl, by (first | ((repeat' first | (with_reducible (first | exact Below.refl _ _ | assumption | refine Below.setCell ?_ ?_ _ | refine Below.alloc ?_ ?_ _ | refine Below.drew ?_ | refine below_drewN ?_ _ | refine Below.trans ?_ (Below.mono (by assumption) ?_))) | omega | (simp; omega) | (simp; done)); done) | (repeat' first | exact Below.refl _ _ | assumption | refine Below.setCell ?_ (by first | omega | (simp; omega) | (simp; done)) _ | refine Below.alloc ?_ (by first | omega | (simp; omega) | (simp; done)) _ | refine Below.drew ?_ | refine below_drewN ?_ _ | refine Below.trans ?_ (Below.mono (by assumption) (by first | omega | (simp; omega) | (simp; done)))))⟩
  case round =>
    obtain ⟨k, hk, rfl, hall, hcells, hbw⟩ := hrel
    have hbz := hbw.size
    obtain ⟨kh, k0, k1, k2, kf, kz⟩ := own3 (Below.refl wr.heap.size wr) (Array.getElem?_eq_some_iff.1 hcells).1 hcells
    have KH := Lib.hid kh
    have HA := Lib.hid hall
    clear hcells kh hall
    by_cases hlt : k < l.length
    · obtain ⟨b, off, rfl, hbB, c0, c1⟩ := Coin.rd (HR.out.below hbw) hlt
      have hbr : b < wr.heap.size := by omega
      rcases coinAt_cases l hlt with ⟨h1, ho⟩ | ⟨h1, h2, ho⟩ | ⟨h1, h2, h3, ho⟩ | ⟨j, hj, h3, h1, h2, h4, ho⟩ | ⟨j, hj, h3, h1, h2, h4, ho⟩
      · have HO := Lib.hid ho
        clear ho
        go_wp2_with fail
        go_quiet ((first | (go_at_call 59; exact quiet_left (i_isTime _ _)) | (go_at_call 57; exact quiet_left (i_in _ _ _ _))))
        go_wp2
        go_ret
        exact ⟨ret_bool (by rw [purseForm, upTo_false hlt HO.out]; rfl), by (first | ((repeat' first | (with_reducible (first | exact Below.refl _ _ | assumption | refine Below.setCell ?_ ?_ _ | refine Below.alloc ?_ ?_ _ | refine Below.drew ?_ | refine below_drewN ?_ _ | refine Below.trans ?_ (Below.mono (by assumption) ?_))) | omega | (simp; omega) | (simp; done)); done) | (repeat' first | exact Below.refl _ _ | assumption | refine Below.setCell ?_ (by first | omega | (simp; omega) | (simp; done)) _ | refine Below.alloc ?_ (by first | omega | (simp; omega) | (simp; done)) _ | refine Below.drew ?_ | refine below_drewN ?_ _ | refine Below.trans ?_ (Below.mono (by assumption) (by first | omega | (simp; omega) | (simp; done)))))⟩
      · have HO := Lib.hid ho
        clear ho
        go_wp2_with fail
        go_quiet ((first | (go_at_call 59; exact quiet_left (i_isTime _ _)) | (go_at_call 57; exact quiet_left (i_in _ _ _ _))))
        go_wp2
        go_ret
        exact ⟨ret_bool (by rw [purseForm, upTo_false hlt HO.out]; rfl), by (first | ((repeat' first | (with_reducible (first | exact Below.refl _ _ | assumption | refine Below.setCell ?_ ?_ _ | refine Below.alloc ?_ ?_ _ | refine Below.drew ?_ | refine below_drewN ?_ _ | refine Below.trans ?_ (Below.mono (by assumption) ?_))) | omega | (simp; omega) | (simp; done)); done) | (repeat' first | exact Below.refl _ _ | assumption | refine Below.setCell ?_ (by first | omega | (simp; omega) | (simp; done)) _ | refine Below.alloc ?_ (by first | omega | (simp; omega) | (simp; done)) _ | refine Below.drew ?_ | refine below_drewN ?_ _ | refine Below.trans ?_ (Below.mono (by assumption) (by first | omega | (simp; omega) | (simp; done)))))⟩
      · have HO := Lib.hid ho
        have h3' : decide (0 < k) = false := by simp; omega
        clear ho h3
        go_wp2_with fail
        go_quiet ((first | (go_at_call 59; exact quiet_left (i_isTime _ _)) | (go_at_call 57; exact quiet_left (i_in _ _ _ _))))
        go_wp2
        go_roundw
        case rel => exact ⟨k + 1, by omega, by go_num, by rw [upTo_succ, HA.out, HO.out]; rfl, heap_past kz KH.out, by (first | ((repeat' first | (with_reducible (first | exact Below.refl _ _ | assumption | refine Below.setCell ?_ ?_ _ | refine Below.alloc ?_ ?_ _ | refine Below.drew ?_ | refine below_drewN ?_ _ | refine Below.trans ?_ (Below.mono (by assumption) ?_))) | omega | (simp; omega) | (simp; done)); done) | (repeat' first | exact Below.refl _ _ | assumption | refine Below.setCell ?_ (by first | omega | (simp; omega) | (simp; done)) _ | refine Below.alloc ?_ (by first | omega | (simp; omega) | (simp; done)) _ | refine Below.drew ?_ | refine below_drewN ?_ _ | refine Below.trans ?_ (Below.mono (by assumption) (by first | omega | (simp; omega) | (simp; done)))))⟩
        case measure => simp [intOf]; omega
      · obtain ⟨b', off', e', _, d0, d1⟩ := Coin.rd (HR.out.below hbw) hj
        simp only [Option.some.injEq, Addr.mk.injEq, and_true] at e'
        obtain ⟨rfl, rfl⟩ := e'
        have HO := Lib.hid ho
        have h3' : decide (0 < k) = true := by simp; omega
        have h4' : decide (l[k].At < l[j].At) = true := by simpa using h4
        have i1 : (0 : Int) ≤ (j : Int) := by omega
        have i2 : (j : Int) < (l.length : Int) := by omega
        have e1 : IntKind.i64.wrap ((k : Int) - 1) = (j : Int) := by rw [h3]; exact (IntWalk.i64_in _ ⟨by omega, by omega⟩).trans (by omega)
        clear ho h3 h4
        go_wp2_with fail
        go_quiet ((first | (go_at_call 59; exact quiet_left (i_isTime _ _)) | (go_at_call 57; exact quiet_left (i_in _ _ _ _))))
        clear e1
        go_wp2
        go_ret
        exact ⟨ret_bool (by rw [purseForm, upTo_false hlt HO.out]; rfl), by (first | ((repeat' first | (with_reducible (first | exact Below.refl _ _ | assumption | refine Below.setCell ?_ ?_ _ | refine Below.alloc ?_ ?_ _ | refine Below.drew ?_ | refine below_drewN ?_ _ | refine Below.trans ?_ (Below.mono (by assumption) ?_))) | omega | (simp; omega) | (simp; done)); done) | (repeat' first | exact Below.refl _ _ | assumption | refine Below.setCell ?_ (by first | omega | (simp; omega) | (simp; done)) _ | refine Below.alloc ?_ (by first | omega | (simp; omega) | (simp; done)) _ | refine Below.drew ?_ | refine below_drewN ?_ _ | refine Below.trans ?_ (Below.mono (by assumption) (by first | omega | (simp; omega) | (simp; done)))))⟩
      · obtain ⟨b', off', e', _, d0, d1⟩ := Coin.rd (HR.out.below hbw) hj
        simp only [Option.some.injEq, Addr.mk.injEq, and_true] at e'
        obtain ⟨rfl, rfl⟩ := e'
        have HO := Lib.hid ho
        have h3' : decide (0 < k) = true := by simp; omega
        have h4' : decide (l[k].At < l[j].At) = false := by simp; omega
        have i1 : (0 : Int) ≤ (j : Int) := by omega
        have i2 : (j : Int) < (l.length : Int) := by omega
        have e1 : IntKind.i64.wrap ((k : Int) - 1) = (j : Int) := by rw [h3]; exact (IntWalk.i64_in _ ⟨by omega, by omega⟩).trans (by omega)
        clear ho h3 h4
        go_wp2_with fail
        go_quiet ((first | (go_at_call 59; exact quiet_left (i_isTime _ _)) | (go_at_call 57; exact quiet_left (i_in _ _ _ _))))
        clear e1
        go_wp2
        go_roundw
        case rel => exact ⟨k + 1, by omega, by go_num, by rw [upTo_succ, HA.out, HO.out]; rfl, heap_past kz KH.out, by (first | ((repeat' first | (with_reducible (first | exact Below.refl _ _ | assumption | refine Below.setCell ?_ ?_ _ | refine Below.alloc ?_ ?_ _ | refine Below.drew ?_ | refine below_drewN ?_ _ | refine Below.trans ?_ (Below.mono (by assumption) ?_))) | omega | (simp; omega) | (simp; done)); done) | (repeat' first | exact Below.refl _ _ | assumption | refine Below.setCell ?_ (by first | omega | (simp; omega) | (simp; done)) _ | refine Below.alloc ?_ (by first | omega | (simp; omega) | (simp; done)) _ | refine Below.drew ?_ | refine below_drewN ?_ _ | refine Below.trans ?_ (Below.mono (by assumption) (by first | omega | (simp; omega) | (simp; done)))))⟩
        case measure => simp [intOf]; omega
    · obtain rfl : k = l.length := by omega
      cases h1 : amtB c <;> cases h2 : inB s 1 1000000000 <;> by_cases h3 : l.length ≤ 40
      all_goals
        go_wp2_with (first | (go_at_call 52; refine (i_AmtOk _ _).mono ?_; rintro e w' ⟨rfl, rfl⟩) | (go_at_call 57; refine (i_in _ _ _ _).mono ?_; rintro e w' ⟨rfl, rfl⟩))
        go_ret
        exact ⟨ret_bool (by simp [purseForm, HA.out, h1, h2] <;> omega), by (first | ((repeat' first | (with_reducible (first | exact Below.refl _ _ | assumption | refine Below.setCell ?_ ?_ _ | refine Below.alloc ?_ ?_ _ | refine Below.drew ?_ | refine below_drewN ?_ _ | refine Below.trans ?_ (Below.mono (by assumption) ?_))) | omega | (simp; omega) | (simp; done)); done) | (repeat' first | exact Below.refl _ _ | assumption | refine Below.setCell ?_ (by first | omega | (simp; omega) | (simp; done)) _ | refine Below.alloc ?_ (by first | omega | (simp; omega) | (simp; done)) _ | refine Below.drew ?_ | refine below_drewN ?_ _ | refine Below.trans ?_ (Below.mono (by assumption) (by first | omega | (simp; omega) | (simp; done)))))⟩
/-! ### What counts at a time -/
def countedF (s at_ : Int) (n : Int) (c : Coin) : Int := if (decide (c.At ≤ at_) && decide (at_ - c.At < s)) = true then n + c.Amt else n
def counted (s at_ : Int) (l : List Coin) : Int := l.foldl (countedF s at_) 0
theorem counted_succ (s at_ : Int) (l : List Coin) {k : Nat} (hk : k < l.length) : counted s at_ (l.take (k + 1)) = countedF s at_ (counted s at_ (l.take k)) l[k] := foldl_take_succ l _ _ hk
theorem coinAt_iff {l : List Coin} {k : Nat} (hk : k < l.length) (h : coinAt l k = true) : (0 ≤ l[k].At ∧ l[k].At ≤ 1000000000) ∧ 1 ≤ l[k].Amt ∧ l[k].Amt ≤ 1125899906842624 := by
  rcases coinAt_cases l hk with ⟨_, ho⟩ | ⟨_, _, ho⟩ | ⟨h1, h2, _⟩ | ⟨_, _, _, _, _, _, ho⟩ | ⟨_, _, _, h1, h2, _⟩
  · rw [ho] at h; cases h
  · rw [ho] at h; cases h
  · exact ⟨timeB_iff.1 h1, inB_iff.1 h2⟩
  · rw [ho] at h; cases h
  · exact ⟨timeB_iff.1 h1, inB_iff.1 h2⟩
def CoinsOk (l : List Coin) : Prop := upTo l.length (coinAt l) = true ∧ l.length ≤ 40
theorem purseForm_iff {c s : Int} {l : List Coin} : purseForm c s l = true ↔ CoinsOk l ∧ (0 ≤ c ∧ c ≤ 1125899906842624) ∧ (1 ≤ s ∧ s ≤ 1000000000) := by
  simp only [purseForm, CoinsOk, Bool.and_eq_true, amtB_iff, inB_iff, decide_eq_true_eq]
  constructor
  · rintro ⟨h1, ⟨h2, h3⟩, h4⟩; exact ⟨⟨h1, h4⟩, h2, h3⟩
  · rintro ⟨⟨h1, h4⟩, h2, h3⟩; exact ⟨h1, ⟨h2, h3⟩, h4⟩
theorem CoinsOk.at_ {l : List Coin} (h : CoinsOk l) {k : Nat} (hk : k < l.length) : (0 ≤ l[k].At ∧ l[k].At ≤ 1000000000) ∧ 1 ≤ l[k].Amt ∧ l[k].Amt ≤ 1125899906842624 := coinAt_iff hk (upTo_iff.1 h.1 k hk)
theorem counted_bd (s at_ : Int) {l : List Coin} (h : CoinsOk l) (k : Nat) : 0 ≤ counted s at_ (l.take k) ∧ counted s at_ (l.take k) ≤ (k : Int) * 1125899906842624 := by
  induction k with
  | zero => simp [counted]
  | succ k ih =>
    by_cases hk : k < l.length
    · rw [counted_succ s at_ l hk]
      obtain ⟨_, m1, m2⟩ := h.at_ hk
      unfold countedF
      split <;> constructor <;> omega
    · rw [List.take_of_length_le (by omega)] at ih ⊢
      constructor <;> omega
theorem counted_all (s at_ : Int) {l : List Coin} (h : CoinsOk l) : 0 ≤ counted s at_ l ∧ counted s at_ l ≤ 45035996273704960 := by
  have := counted_bd s at_ h l.length
  rw [List.take_length] at this
  have := h.2
  constructor <;> omega
set_option maxHeartbeats 2000000 in
theorem i_counted (c s at_ : Int) (l : List Coin) (A : Option Addr) (cap : Nat) (w : World) (hok : CoinsOk l) (ha : at_ ≤ 9223372036854775807) (hr : Rd w w.heap.size 2 A (l.map Coin.cells)) :
    Calls Try.prog 81 #[.agg #[.int .i64 c, .int .i64 s, .slice A l.length cap], .int .i64 at_] w fun e w' => e = .returned (.int .i64 (counted s at_ l)) ∧ Below w.heap.size w w' := by
  have h40 := hok.2
  have HR := Lib.hid hr
  have HOK := Lib.hid hok
  clear hr hok
  go_enter Try.func81, Try.ntmps81
  go_wp2_with fail
  go_loopw [5, 11] (fun n i wr => ∃ k : Nat, k ≤ l.length ∧ i = .int .i64 k ∧ n = .int .i64 (counted s at_ (l.take k)) ∧ wr.heap[w.heap.size]? = some (.cells #[.int .i64 c, .int .i64 s, .slice A l.length cap] 59 (0, 0)) ∧ Below w.heap.size w wr) (fun _ i _ => l.length - (intOf i).toNat)
  case atStart => exact ⟨0, Nat.zero_le _, rfl, rfl, heap_at rfl, by (first | ((repeat' first | (with_reducible (first | exact Below.refl _ _ | assumption | refine Below.setCell ?_ ?_ _ | refine Below.alloc ?_ ?_ _ | refine Below.drew ?_ | refine below_drewN ?_ _ | refine Below.trans ?_ (Below.mono (by assumption) ?_))) | omega | (simp; omega) | (simp; done)); done) | (repeat' first | exact Below.refl _ _ | assumption | refine Below.setCell ?_ (by first | omega | (simp; omega) | (simp; done)) _ | refine Below.alloc ?_ (by first | omega | (simp; omega) | (simp; done)) _ | refine Below.drew ?_ | refine below_drewN ?_ _ | refine Below.trans ?_ (Below.mono (by assumption) (by first | omega | (simp; omega) | (simp; done)))))⟩
  case round =>
    obtain ⟨k, hk, rfl, rfl, hcells, hbw⟩ := hrel
    have hbz := hbw.size
    obtain ⟨kh, k0, k1, k2, kf, kz⟩ := own3 (Below.refl wr.heap.size wr) (Array.getElem?_eq_some_iff.1 hcells).1 hcells
    obtain ⟨g1, g2⟩ := counted_bd s at_ HOK.out k
    have KH := Lib.hid kh
    clear hcells kh
    by_cases hlt : k < l.length
    · obtain ⟨b, off, rfl, hbB, c0, c1⟩ := Coin.rd (HR.out.below hbw) hlt
      have hbr : b < wr.heap.size := by omega
      obtain ⟨⟨m1, m2⟩, m3, m4⟩ := HOK.out.at_ hlt
      have HS := Lib.hid (counted_succ s at_ l hlt)
      by_cases h1 : l[k].At ≤ at_
      · by_cases h2 : at_ - l[k].At < s
        · go_wp2_with fail
          go_roundw
          case rel => exact ⟨k + 1, by omega, by go_num, by rw [HS.out, countedF, if_pos (by simp [h1, h2])], heap_past kz KH.out, by (first | ((repeat' first | (with_reducible (first | exact Below.refl _ _ | assumption | refine Below.setCell ?_ ?_ _ | refine Below.alloc ?_ ?_ _ | refine Below.drew ?_ | refine below_drewN ?_ _ | refine Below.trans ?_ (Below.mono (by assumption) ?_))) | omega | (simp; omega) | (simp; done)); done) | (repeat' first | exact Below.refl _ _ | assumption | refine Below.setCell ?_ (by first | omega | (simp; omega) | (simp; done)) _ | refine Below.alloc ?_ (by first | omega | (simp; omega) | (simp; done)) _ | refine Below.drew ?_ | refine below_drewN ?_ _ | refine Below.trans ?_ (Below.mono (by assumption) (by first | omega | (simp; omega) | (simp; done)))))⟩
          case measure => simp [intOf]; omega
        · go_wp2_with fail
          go_roundw
          case rel => exact ⟨k + 1, by omega, by go_num, by rw [HS.out, countedF, if_neg (by simp [h1]; omega)], heap_past kz KH.out, by (first | ((repeat' first | (with_reducible (first | exact Below.refl _ _ | assumption | refine Below.setCell ?_ ?_ _ | refine Below.alloc ?_ ?_ _ | refine Below.drew ?_ | refine below_drewN ?_ _ | refine Below.trans ?_ (Below.mono (by assumption) ?_))) | omega | (simp; omega) | (simp; done)); done) | (repeat' first | exact Below.refl _ _ | assumption | refine Below.setCell ?_ (by first | omega | (simp; omega) | (simp; done)) _ | refine Below.alloc ?_ (by first | omega | (simp; omega) | (simp; done)) _ | refine Below.drew ?_ | refine below_drewN ?_ _ | refine Below.trans ?_ (Below.mono (by assumption) (by first | omega | (simp; omega) | (simp; done)))))⟩
          case measure => simp [intOf]; omega
      · go_wp2_with fail
        go_roundw
        case rel => exact ⟨k + 1, by omega, by go_num, by rw [HS.out, countedF, if_neg (by simp; omega)], heap_past kz KH.out, by (first | ((repeat' first | (with_reducible (first | exact Below.refl _ _ | assumption | refine Below.setCell ?_ ?_ _ | refine Below.alloc ?_ ?_ _ | refine Below.drew ?_ | refine below_drewN ?_ _ | refine Below.trans ?_ (Below.mono (by assumption) ?_))) | omega | (simp; omega) | (simp; done)); done) | (repeat' first | exact Below.refl _ _ | assumption | refine Below.setCell ?_ (by first | omega | (simp; omega) | (simp; done)) _ | refine Below.alloc ?_ (by first | omega | (simp; omega) | (simp; done)) _ | refine Below.drew ?_ | refine below_drewN ?_ _ | refine Below.trans ?_ (Below.mono (by assumption) (by first | omega | (simp; omega) | (simp; done)))))⟩
        case measure => simp [intOf]; omega
    · obtain rfl : k = l.length := by omega
      go_wp2
      go_ret
      exact ⟨ret_int (by first | rfl | rw [List.take_length]), by (first | ((repeat' first | (with_reducible (first | exact Below.refl _ _ | assumption | refine Below.setCell ?_ ?_ _ | refine Below.alloc ?_ ?_ _ | refine Below.drew ?_ | refine below_drewN ?_ _ | refine Below.trans ?_ (Below.mono (by assumption) ?_))) | omega | (simp; omega) | (simp; done)); done) | (repeat' first | exact Below.refl _ _ | assumption | refine Below.setCell ?_ (by first | omega | (simp; omega) | (simp; done)) _ | refine Below.alloc ?_ (by first | omega | (simp; omega) | (simp; done)) _ | refine Below.drew ?_ | refine below_drewN ?_ _ | refine Below.trans ?_ (Below.mono (by assumption) (by first | omega | (simp; omega) | (simp; done)))))⟩
def purseOk (c s : Int) (l : List Coin) : Bool := purseForm c s l && l.all fun x => decide (counted s x.At l ≤ c)
set_option maxHeartbeats 4000000 in
theorem i_PurseOk (c s : Int) (l : List Coin) (A : Option Addr) (cap : Nat) (w : World) (hl : l.length ≤ 1048576) (hr : Rd w w.heap.size 2 A (l.map Coin.cells)) :
    Calls Try.prog 38 #[.agg #[.int .i64 c, .int .i64 s, .slice A l.length cap]] w fun e w' => e = .returned (.bool (purseOk c s l)) ∧ Below w.heap.size w w' := by
  have HR := Lib.hid hr
  clear hr
  cases hform : purseForm c s l
  · go_enter Try.func38, Try.ntmps38
    go_wp2_with fail
    refine (i_coinsOk c s l A cap _ hl ((HR.out.below (by (first | ((repeat' first | (with_reducible (first | exact Below.refl _ _ | assumption | refine Below.setCell ?_ ?_ _ | refine Below.alloc ?_ ?_ _ | refine Below.drew ?_ | refine below_drewN ?_ _ | refine Below.trans ?_ (Below.mono (by assumption) ?_))) | omega | (simp; omega) | (simp; done)); done) | (repeat' first | exact Below.refl _ _ | assumption | refine Below.setCell ?_ (by first | omega | (simp; omega) | (simp; done)) _ | refine Below.alloc ?_ (by first | omega | (simp; omega) | (simp; done)) _ | refine Below.drew ?_ | refine below_drewN ?_ _ | refine Below.trans ?_ (Below.mono (by assumption) (by first | omega | (simp; omega) | (simp; done))))))).more (by simp))).mono ?_
    rintro e w1 ⟨rfl, hb1⟩
    have z1 := hb1.size
    try simp at z1
    rw [hform]
    go_wp2_with fail
    go_ret
    exact ⟨ret_bool (by simp [purseOk, hform]), by (first | ((repeat' first | (with_reducible (first | exact Below.refl _ _ | assumption | refine Below.setCell ?_ ?_ _ | refine Below.alloc ?_ ?_ _ | refine Below.drew ?_ | refine below_drewN ?_ _ | refine Below.trans ?_ (Below.mono (by assumption) ?_))) | omega | (simp; omega) | (simp; done)); done) | (repeat' first | exact Below.refl _ _ | assumption | refine Below.setCell ?_ (by first | omega | (simp; omega) | (simp; done)) _ | refine Below.alloc ?_ (by first | omega | (simp; omega) | (simp; done)) _ | refine Below.drew ?_ | refine below_drewN ?_ _ | refine Below.trans ?_ (Below.mono (by assumption) (by first | omega | (simp; omega) | (simp; done)))))⟩
  · have hok := (purseForm_iff.1 hform).1
    have HOK := Lib.hid hok
    have HF := Lib.hid hform
    clear hok hform
    go_enter Try.func38, Try.ntmps38
    go_wp2_with fail
    refine (i_coinsOk c s l A cap _ hl ((HR.out.below (by (first | ((repeat' first | (with_reducible (first | exact Below.refl _ _ | assumption | refine Below.setCell ?_ ?_ _ | refine Below.alloc ?_ ?_ _ | refine Below.drew ?_ | refine below_drewN ?_ _ | refine Below.trans ?_ (Below.mono (by assumption) ?_))) | omega | (simp; omega) | (simp; done)); done) | (repeat' first | exact Below.refl _ _ | assumption | refine Below.setCell ?_ (by first | omega | (simp; omega) | (simp; done)) _ | refine Below.alloc ?_ (by first | omega | (simp; omega) | (simp; done)) _ | refine Below.drew ?_ | refine below_drewN ?_ _ | refine Below.trans ?_ (Below.mono (by assumption) (by first | omega | (simp; omega) | (simp; done))))))).more (by simp))).mono ?_
    rintro e w1 ⟨rfl, hb1⟩
    have z1 := hb1.size
    try simp at z1
    rw [HF.out]
    obtain ⟨kh, k0, k1, k2, kf, kz⟩ := own3 (g := w.heap.size) hb1 (by first | omega | (simp; omega) | (simp; done)) (by (first | ((repeat' first | (with_reducible (first | assumption | (refine heap_at ?_; (first | rfl | (simp; done))) | refine heap_drew ?_ | refine heap_drewN ?_ | refine heap_past ?_ ?_ | refine heap_far ?_ ?_)) | (simp; done) | (simp; omega)); done) | (repeat' first | assumption | (refine heap_at ?_; (simp; done)) | refine heap_drew ?_ | refine heap_drewN ?_ | (refine heap_past ?_ ?_ <;> try (simp; done)) | (refine heap_far ?_ ?_ <;> try (simp; done)))))
    have KH0 := Lib.hid kh
    clear kh
    go_wp2_with fail
    go_loopw [11] (fun i wr => ∃ k : Nat, k ≤ l.length ∧ i = .int .i64 k ∧ (l.take k).all (fun x => decide (counted s x.At l ≤ c)) = true ∧ wr.heap[w.heap.size]? = some (.cells #[.int .i64 c, .int .i64 s, .slice A l.length cap] 59 (0, 0)) ∧ Below w.heap.size w wr) (fun i _ => l.length - (intOf i).toNat)
    case atStart => exact ⟨0, Nat.zero_le _, rfl, rfl, KH0.out, by (first | ((repeat' first | (with_reducible (first | exact Below.refl _ _ | assumption | refine Below.setCell ?_ ?_ _ | refine Below.alloc ?_ ?_ _ | refine Below.drew ?_ | refine below_drewN ?_ _ | refine Below.trans ?_ (Below.mono (by assumption) ?_))) | omega | (simp; omega) | (simp; done)); done) | (repeat' first | exact Below.refl _ _ | assumption | refine Below.setCell ?_ (by first | omega | (simp; omega) | (simp; done)) _ | refine Below.alloc ?_ (by first | omega | (simp; omega) | (simp; done)) _ | refine Below.drew ?_ | refine below_drewN ?_ _ | refine Below.trans ?_ (Below.mono (by assumption) (by first | omega | (simp; omega) | (simp; done)))))⟩
    case round =>
      clear k0 k1 k2 kf kz
      obtain ⟨k, hk, rfl, hall, hcells, hbw⟩ := hrel
      have hbz := hbw.size
      obtain ⟨kh, k0, k1, k2, kf, kz⟩ := own3 (Below.refl wr.heap.size wr) (Array.getElem?_eq_some_iff.1 hcells).1 hcells
      have HA := Lib.hid hall
      clear hall hcells
      by_cases hlt : k < l.length
      · have hrw := HR.out.below hbw
        obtain ⟨b, off, rfl, hbB, c0, c1⟩ := Coin.rd hrw hlt
        have HRW := Lib.hid hrw
        clear hrw
        have hbr : b < wr.heap.size := by omega
        obtain ⟨⟨m1, m2⟩, m3, m4⟩ := HOK.out.at_ hlt
        cases hD : decide (c < counted s l[k].At l)
        all_goals
          go_wp2_with fail
          go_region_held3 (fun w' => w'.cell? ⟨w.heap.size, 0, none⟩ = some (.int .i64 c) ∧ w'.cell? ⟨w.heap.size, 1, none⟩ = some (.int .i64 s) ∧ w'.cell? ⟨w.heap.size, 2, none⟩ = some (.slice (some ⟨b, off, none⟩) l.length cap) ∧ w'.cell? ⟨wr.heap.size, 0, none⟩ = some (.int .i64 l[k].At)) (first | exact ⟨p0, p1, p2, q0⟩ | (simp [go_sem, World.cell?_alloc_past, k0, k1, k2, kz]; done))
            (first | (go_at_call 81; refine (i_counted c s l[k].At l _ cap _ HOK.out (by omega) ((HRW.out.below (by (first | ((repeat' first | (with_reducible (first | exact Below.refl _ _ | assumption | refine Below.setCell ?_ ?_ _ | refine Below.alloc ?_ ?_ _ | refine Below.drew ?_ | refine below_drewN ?_ _ | refine Below.trans ?_ (Below.mono (by assumption) ?_))) | omega | (simp; omega) | (simp; done)); done) | (repeat' first | exact Below.refl _ _ | assumption | refine Below.setCell ?_ (by first | omega | (simp; omega) | (simp; done)) _ | refine Below.alloc ?_ (by first | omega | (simp; omega) | (simp; done)) _ | refine Below.drew ?_ | refine below_drewN ?_ _ | refine Below.trans ?_ (Below.mono (by assumption) (by first | omega | (simp; omega) | (simp; done))))))).more (by simp; omega))).mono ?_; rintro e w2 ⟨rfl, hb2⟩; have z2 := hb2.size; (try simp at z2); obtain ⟨ph, p0, p1, p2, pf, pz⟩ := own3 (g := w.heap.size) hb2 (by first | omega | (simp; omega) | (simp; done)) (by (first | ((repeat' first | (with_reducible (first | assumption | (refine heap_at ?_; (first | rfl | (simp; done))) | refine heap_drew ?_ | refine heap_drewN ?_ | refine heap_past ?_ ?_ | refine heap_far ?_ ?_)) | (simp; done) | (simp; omega)); done) | (repeat' first | assumption | (refine heap_at ?_; (simp; done)) | refine heap_drew ?_ | refine heap_drewN ?_ | (refine heap_past ?_ ?_ <;> try (simp; done)) | (refine heap_far ?_ ?_ <;> try (simp; done))))); obtain ⟨qh, q0, q1, qf, qz⟩ := own2 (g := wr.heap.size) hb2 (by first | omega | (simp; omega) | (simp; done)) (by (first | ((repeat' first | (with_reducible (first | assumption | (refine heap_at ?_; (first | rfl | (simp; done))) | refine heap_drew ?_ | refine heap_drewN ?_ | refine heap_past ?_ ?_ | refine heap_far ?_ ?_)) | (simp; done) | (simp; omega)); done) | (repeat' first | assumption | (refine heap_at ?_; (simp; done)) | refine heap_drew ?_ | refine heap_drewN ?_ | (refine heap_past ?_ ?_ <;> try (simp; done)) | (refine heap_far ?_ ?_ <;> try (simp; done)))))))
          go_wp2_with fail
        · go_roundw
          case rel => exact ⟨k + 1, by omega, by go_num, by rw [all_take_succ l _ hlt, HA.out]; simp at hD ⊢; exact hD, ph, by (first | ((repeat' first | (with_reducible (first | exact Below.refl _ _ | assumption | refine Below.setCell ?_ ?_ _ | refine Below.alloc ?_ ?_ _ | refine Below.drew ?_ | refine below_drewN ?_ _ | refine Below.trans ?_ (Below.mono (by assumption) ?_))) | omega | (simp; omega) | (simp; done)); done) | (repeat' first | exact Below.refl _ _ | assumption | refine Below.setCell ?_ (by first | omega | (simp; omega) | (simp; done)) _ | refine Below.alloc ?_ (by first | omega | (simp; omega) | (simp; done)) _ | refine Below.drew ?_ | refine below_drewN ?_ _ | refine Below.trans ?_ (Below.mono (by assumption) (by first | omega | (simp; omega) | (simp; done)))))⟩
          case measure => simp [intOf]; omega
        · go_ret
          exact ⟨ret_bool (by rw [purseOk, all_false l _ hlt (by simp at hD ⊢; exact hD), Bool.and_false]), by (first | ((repeat' first | (with_reducible (first | exact Below.refl _ _ | assumption | refine Below.setCell ?_ ?_ _ | refine Below.alloc ?_ ?_ _ | refine Below.drew ?_ | refine below_drewN ?_ _ | refine Below.trans ?_ (Below.mono (by assumption) ?_))) | omega | (simp; omega) | (simp; done)); done) | (repeat' first | exact Below.refl _ _ | assumption | refine Below.setCell ?_ (by first | omega | (simp; omega) | (simp; done)) _ | refine Below.alloc ?_ (by first | omega | (simp; omega) | (simp; done)) _ | refine Below.drew ?_ | refine below_drewN ?_ _ | refine Below.trans ?_ (Below.mono (by assumption) (by first | omega | (simp; omega) | (simp; done)))))⟩
      · obtain rfl : k = l.length := by omega
        go_wp2
        go_ret
        exact ⟨ret_bool (by have := HA.out; rw [List.take_length] at this; simp only [purseOk, HF.out, this]; rfl), by (first | ((repeat' first | (with_reducible (first | exact Below.refl _ _ | assumption | refine Below.setCell ?_ ?_ _ | refine Below.alloc ?_ ?_ _ | refine Below.drew ?_ | refine below_drewN ?_ _ | refine Below.trans ?_ (Below.mono (by assumption) ?_))) | omega | (simp; omega) | (simp; done)); done) | (repeat' first | exact Below.refl _ _ | assumption | refine Below.setCell ?_ (by first | omega | (simp; omega) | (simp; done)) _ | refine Below.alloc ?_ (by first | omega | (simp; omega) | (simp; done)) _ | refine Below.drew ?_ | refine below_drewN ?_ _ | refine Below.trans ?_ (Below.mono (by assumption) (by first | omega | (simp; omega) | (simp; done)))))⟩
end Go.Proofs.Ytplchgkppkibnaa
