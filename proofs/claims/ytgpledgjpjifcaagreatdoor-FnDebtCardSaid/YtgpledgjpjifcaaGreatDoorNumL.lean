/- Numbers as text: plain. -/
import Derived.Test.YtgpledgjpjifcaaGreatDoorRows
import Derived.Lib.ItoaNum
import Derived.Laws.Concat
namespace Go.Proofs.YtgpledgjpjifcaaGreatDoor
open Go

def numB (n : Int) : Bool := decide (-1125899906842624 ≤ n) && decide (n ≤ 1125899906842624)
def numL (n : Int) : List UInt8 := if numB n = true then Lib.itoa n else []
theorem numB_iff {n : Int} : numB n = true ↔ -1125899906842624 ≤ n ∧ n ≤ 1125899906842624 := by simp [numB]
theorem decDigits_len : ∀ (k u : Nat), u < 10 ^ (k + 1) → (Lib.decDigits u).length ≤ k + 1
  | 0, u, h => by rw [Lib.decDigits, dif_pos (by omega)]; simp
  | k + 1, u, h => by
    rw [Lib.decDigits]
    split
    · simp
    · have := decDigits_len k (u / 10) (by rw [Nat.div_lt_iff_lt_mul (by decide)]; rw [Nat.pow_succ] at h; exact h)
      rw [List.length_append]
      simp
      omega
theorem numL_len (n : Int) : (numL n).length ≤ 17 := by
  unfold numL
  split
  · rename_i h
    rw [numB_iff] at h
    unfold Lib.itoa
    split
    · have := decDigits_len 15 n.natAbs (by have : n.natAbs ≤ 1125899906842624 := by omega
                                            exact Nat.lt_of_le_of_lt this (by decide))
      simp
      omega
    · have := decDigits_len 15 n.toNat (by have : n.toNat ≤ 1125899906842624 := by omega
                                           exact Nat.lt_of_le_of_lt this (by decide))
      omega
  · simp
theorem numL_out {n : Int} (h : ¬ (-1125899906842624 ≤ n ∧ n ≤ 1125899906842624)) : numL n = [] := by
  unfold numL
  rw [if_neg (fun k => h (numB_iff.1 k))]
theorem numL_in {n : Int} (h : -1125899906842624 ≤ n ∧ n ≤ 1125899906842624) : numL n = Lib.itoa n := by
  unfold numL
  rw [if_pos (numB_iff.2 h)]
theorem numL_neg {n : Int} (h1 : -1125899906842624 ≤ n) (h2 : n < 0) : numL n = 45 :: numL (-n) := by
  rw [numL_in ⟨h1, by omega⟩, numL_in ⟨by omega, by omega⟩]
  unfold Lib.itoa
  rw [if_pos h2, if_neg (by omega)]
  congr 2
  omega
theorem numL_small {n : Int} (h1 : 0 ≤ n) (h2 : n < 10) : numL n = [UInt8.ofNat (48 + n.toNat)] := by
  rw [numL_in ⟨by omega, by omega⟩]
  unfold Lib.itoa
  rw [if_neg (by omega), Lib.decDigits, dif_pos (by omega)]
theorem numL_big {n : Int} (h1 : 10 ≤ n) (h2 : n ≤ 1125899906842624) : numL n = numL (n / 10) ++ [UInt8.ofNat (48 + (n % 10).toNat)] := by
  rw [numL_in ⟨by omega, by omega⟩, numL_in ⟨by omega, by omega⟩]
  unfold Lib.itoa
  rw [if_neg (by omega), if_neg (by omega), Lib.decDigits, dif_neg (by omega)]
  have e1 : (n / 10).toNat = n.toNat / 10 := by omega
  have e2 : (n % 10).toNat = n.toNat % 10 := by omega
  rw [e1, e2]
theorem numL_ne {n : Int} (h : numB n = true) : numL n ≠ [] := by
  unfold numL
  rw [if_pos h]
  unfold Lib.itoa
  split
  · simp
  · rw [Lib.decDigits]
    split <;> simp
end Go.Proofs.YtgpledgjpjifcaaGreatDoor
