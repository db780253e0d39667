/- Numbers read from a text: what both readers answer; plain. -/
import Derived.Test.YtgpledgjpjifcaaGreatDoorRows
import Derived.Test.YtgpledgjpjifcaaGreatDoorTNum
import Derived.Lib.AtoiTie
namespace Go.Proofs.YtgpledgjpjifcaaGreatDoor
open Go

def numOf (s : List UInt8) : Int := (tnum s).getD 0
def numOk (s : List UInt8) : Bool := (tnum s).isSome
theorem num_some {s : List UInt8} {n : Int} (h : tnum s = some n) : numOf s = n ∧ numOk s = true := by simp [numOf, numOk, h]
theorem num_none {s : List UInt8} (h : tnum s = none) : numOf s = 0 ∧ numOk s = false := by simp [numOf, numOk, h]
theorem num_of {s : List UInt8} (h : numOk s = true) : numB (numOf s) = true ∧ numL (numOf s) = s := by
  unfold numOk at h
  cases k : tnum s with
  | none => rw [k] at h; cases h
  | some n => rw [(num_some k).1]; exact tnum_iff.1 k
theorem num_at {n : Int} (h : numB n = true) : numOf (numL n) = n ∧ numOk (numL n) = true := num_some (tnum_num h)
theorem numOf_in (s : List UInt8) : -1125899906842624 ≤ numOf s ∧ numOf s ≤ 1125899906842624 := by
  cases k : tnum s with
  | none => rw [(num_none k).1]; omega
  | some n => rw [(num_some k).1]; exact numB_iff.1 (tnum_iff.1 k).1
theorem atoiAll_tnum {s : List UInt8} {n : Int} (h : tnum s = some n) : Lib.atoiAll s = .ok n := by
  obtain ⟨h1, h2⟩ := tnum_iff.1 h
  have hl : s.length ≤ 17 := by rw [← h2]; exact numL_len n
  rw [Lib.atoiAll_short s (by omega), ← h2, numL_in (numB_iff.1 h1), atoi_itoa]
  rfl
theorem num_hit {s : List UInt8} {v : Int} (h : Lib.atoiAll s = .ok v) (e : numL v = s) : numOf s = v ∧ numOk s = true := by
  refine num_some (tnum_of ?_ e)
  rintro rfl
  cases h
theorem num_miss {s : List UInt8} {v : Int} (h : Lib.atoiAll s = .ok v) (e : numL v ≠ s) : numOf s = 0 ∧ numOk s = false := by
  refine num_none ?_
  cases k : tnum s with
  | none => rfl
  | some n =>
    have h1 := atoiAll_tnum k
    rw [h] at h1
    injection h1 with h1
    subst h1
    exact absurd (tnum_iff.1 k).2 e
theorem num_bad {s : List UInt8} (h : ∀ v, Lib.atoiAll s ≠ .ok v) : numOf s = 0 ∧ numOk s = false := by
  refine num_none ?_
  cases k : tnum s with
  | none => rfl
  | some n => exact absurd (atoiAll_tnum k) (h n)
/-- the reference's way: digits, then the text once more -/
theorem num_up_hit {s : List UInt8} {n : Int} (hs : s ≠ []) (e : numL n = s) : numOf s = n ∧ numOk s = true := num_some (tnum_of hs e)
theorem num_up_miss {s : List UInt8} {c : UInt8} {r : List UInt8} {m : Nat} (hs : s = c :: r) (hc : c ≠ 45) (hd : Lib.decFrom 0 s = some m) (e : numL (m : Int) ≠ s) : numOf s = 0 ∧ numOk s = false := by
  refine num_none ?_
  cases k : tnum s with
  | none => rfl
  | some n =>
    obtain ⟨h1, h2⟩ := tnum_plain hs hc k
    rw [hd] at h2
    injection h2 with h2
    have : n = (m : Int) := by omega
    subst this
    exact absurd (tnum_iff.1 k).2 e
theorem num_down_miss {r : List UInt8} {m : Nat} (hd : Lib.decFrom 0 r = some m) (e : numL (-(m : Int)) ≠ 45 :: r) : numOf (45 :: r) = 0 ∧ numOk (45 :: r) = false := by
  refine num_none ?_
  cases k : tnum (45 :: r) with
  | none => rfl
  | some n =>
    obtain ⟨h1, h2⟩ := tnum_minus k
    rw [hd] at h2
    injection h2 with h2
    have : n = -(m : Int) := by omega
    subst this
    exact absurd (tnum_iff.1 k).2 e
theorem num_char {s : List UInt8} {c : UInt8} {r : List UInt8} (hs : s = c :: r) (hc : c ≠ 45) {k : Nat} {b : UInt8} (hb : s[k]? = some b) (hd : Lib.digitVal b = none) : numOf s = 0 ∧ numOk s = false := by
  refine num_none ?_
  cases h : tnum s with
  | none => rfl
  | some n =>
    obtain ⟨_, h2⟩ := tnum_plain hs hc h
    rw [decFrom_bad hb hd] at h2
    cases h2
theorem num_char_minus {r : List UInt8} {k : Nat} {b : UInt8} (hb : r[k]? = some b) (hd : Lib.digitVal b = none) : numOf (45 :: r) = 0 ∧ numOk (45 :: r) = false := by
  refine num_none ?_
  cases h : tnum (45 :: r) with
  | none => rfl
  | some n =>
    obtain ⟨_, h2⟩ := tnum_minus h
    rw [decFrom_bad hb hd] at h2
    cases h2
theorem num_long {s : List UInt8} (h : 17 < s.length) : numOf s = 0 ∧ numOk s = false := num_none (tnum_long h)
theorem num_empty : numOf [] = 0 ∧ numOk [] = false := num_none rfl
end Go.Proofs.YtgpledgjpjifcaaGreatDoor
