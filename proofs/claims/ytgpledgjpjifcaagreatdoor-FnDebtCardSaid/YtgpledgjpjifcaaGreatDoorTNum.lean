/- Numbers read from their text: plain. -/
import Derived.Test.YtgpledgjpjifcaaGreatDoorRows
import Derived.Test.YtgpledgjpjifcaaGreatDoorNumL
import Derived.Lib.AtoiTie
namespace Go.Proofs.YtgpledgjpjifcaaGreatDoor
open Go

theorem digitVal_of {d : Nat} (h : d < 10) : Lib.digitVal (UInt8.ofNat (48 + d)) = some d := by
  have e : (UInt8.ofNat (48 + d)).toNat = 48 + d := by
    rw [UInt8.toNat_ofNat']
    omega
  unfold Lib.digitVal
  rw [e, if_pos (by omega)]
  congr 1
  omega
theorem decFrom_snoc {l : List UInt8} {acc n : Nat} {b : UInt8} {d : Nat} (h : Lib.decFrom acc l = some n) (hd : Lib.digitVal b = some d) : Lib.decFrom acc (l ++ [b]) = some (n * 10 + d) := by
  have := Lib.decFrom_take (l ++ [b]) l.length acc n b d (by simpa using h) (by simp) hd
  rw [List.take_of_length_le (by simp)] at this
  exact this
theorem dec_val : ∀ u : Nat, Lib.decFrom 0 (Lib.decDigits u) = some u := by
  intro u
  induction u using Nat.strongRecOn with
  | ind u ih =>
    rw [Lib.decDigits]
    split
    · rename_i h
      have k := digitVal_of h
      simp only [Lib.decFrom, k]
      simp
    · rename_i h
      rw [decFrom_snoc (ih (u / 10) (by omega)) (digitVal_of (show u % 10 < 10 by omega))]
      congr 1
      omega
theorem dec_head {u : Nat} {b : UInt8} {r : List UInt8} (h : Lib.decDigits u = b :: r) : ∃ d, Lib.digitVal b = some d :=
  Lib.digit_of_decFrom _ 0 u (dec_val u) 0 b (by rw [h]; rfl)
/-- what a text says, where it is a number's own text -/
def tnum (s : List UInt8) : Option Int :=
  match Lib.atoi s with
  | some n => if numB n = true ∧ numL n = s then some n else none
  | none => none
theorem atoi_itoa (n : Int) : Lib.atoi (Lib.itoa n) = some n := by
  unfold Lib.itoa
  split
  · have hv := dec_val n.natAbs
    have hne : Lib.decDigits n.natAbs ≠ [] := by
      rw [Lib.decDigits]
      split <;> simp
    simp only [Lib.atoi, Lib.decNat]
    rw [if_pos (by decide), if_neg (by simpa using hne), hv]
    simp only [Option.map_some]
    congr 1
    omega
  · have hv := dec_val n.toNat
    cases hd : Lib.decDigits n.toNat with
    | nil =>
      exfalso
      rw [Lib.decDigits] at hd
      split at hd <;> simp at hd
    | cons b r =>
      obtain ⟨d, h⟩ := dec_head hd
      rw [hd] at hv
      have h1 : ¬ (b == 45) = true := by
        intro k
        have : b = 45 := by simpa using k
        subst this
        simp [Lib.digitVal] at h
      have h2 : ¬ (b == 43) = true := by
        intro k
        have : b = 43 := by simpa using k
        subst this
        simp [Lib.digitVal] at h
      simp only [Lib.atoi, Lib.decNat]
      rw [if_neg h1, if_neg h2, if_neg (by simp), hv]
      simp only [Option.map_some]
      congr 1
      omega
theorem tnum_iff {s : List UInt8} {n : Int} : tnum s = some n ↔ numB n = true ∧ numL n = s := by
  constructor
  · intro h
    unfold tnum at h
    split at h
    · split at h
      · rename_i m hm hk
        have : m = n := by simpa using h
        subst this
        exact hk
      · cases h
    · cases h
  · rintro ⟨h1, rfl⟩
    have e : numL n = Lib.itoa n := numL_in (numB_iff.1 h1)
    unfold tnum
    rw [e, atoi_itoa]
    simp only
    rw [if_pos ⟨h1, e⟩]
theorem tnum_num {n : Int} (h : numB n = true) : tnum (numL n) = some n := tnum_iff.2 ⟨h, rfl⟩
theorem numL_inj {n m : Int} (hn : numB n = true) (hm : numB m = true) (h : numL n = numL m) : n = m := by
  have a := tnum_num hn
  rw [h, tnum_num hm] at a
  simpa using a.symm
theorem tnum_of {s : List UInt8} {n : Int} (hs : s ≠ []) (h : numL n = s) : tnum s = some n := by
  refine tnum_iff.2 ⟨?_, h⟩
  cases hb : numB n with
  | true => rfl
  | false =>
    exfalso
    refine hs ?_
    rw [← h]
    unfold numL
    rw [hb]
    rfl
/-- how a number's text begins -/
theorem num_shape {n : Int} (h : numB n = true) : (0 ≤ n ∧ Lib.decFrom 0 (numL n) = some n.toNat ∧ ∃ b r, numL n = b :: r ∧ b ≠ 45) ∨ (n < 0 ∧ ∃ r, numL n = 45 :: r ∧ Lib.decFrom 0 r = some n.natAbs) := by
  have e : numL n = Lib.itoa n := numL_in (numB_iff.1 h)
  rw [e]
  by_cases h0 : n < 0
  · refine Or.inr ⟨h0, Lib.decDigits n.natAbs, ?_, dec_val _⟩
    unfold Lib.itoa
    rw [if_pos h0]
  · refine Or.inl ⟨by omega, ?_, ?_⟩
    · unfold Lib.itoa
      rw [if_neg h0]
      exact dec_val _
    · unfold Lib.itoa
      rw [if_neg h0]
      cases hd : Lib.decDigits n.toNat with
      | nil =>
        exfalso
        rw [Lib.decDigits] at hd
        split at hd <;> simp at hd
      | cons b r =>
        refine ⟨b, r, rfl, ?_⟩
        rintro rfl
        obtain ⟨d, k⟩ := dec_head hd
        simp [Lib.digitVal] at k
theorem tnum_plain {s : List UInt8} {b : UInt8} {r : List UInt8} (hs : s = b :: r) (hb : b ≠ 45) {n : Int} (h : tnum s = some n) : 0 ≤ n ∧ Lib.decFrom 0 s = some n.toNat := by
  obtain ⟨h1, h2⟩ := tnum_iff.1 h
  rcases num_shape h1 with ⟨a, c, _⟩ | ⟨_, r', c, _⟩
  · rw [h2] at c
    exact ⟨a, c⟩
  · rw [h2, hs] at c
    exact absurd (List.cons.inj c).1 hb
theorem tnum_minus {r : List UInt8} {n : Int} (h : tnum (45 :: r) = some n) : n < 0 ∧ Lib.decFrom 0 r = some n.natAbs := by
  obtain ⟨h1, h2⟩ := tnum_iff.1 h
  rcases num_shape h1 with ⟨_, _, b, r', c, d⟩ | ⟨a, r', c, e⟩
  · rw [h2] at c
    exact absurd (List.cons.inj c).1.symm d
  · rw [h2] at c
    rw [(List.cons.inj c).2]
    exact ⟨a, e⟩
theorem tnum_long {s : List UInt8} (h : 17 < s.length) : tnum s = none := by
  cases k : tnum s with
  | none => rfl
  | some n =>
    have h1 := (tnum_iff.1 k).2
    have h2 := numL_len n
    rw [h1] at h2
    omega
theorem tnum_nil : tnum [] = none := rfl
theorem decFrom_bad {l : List UInt8} {k : Nat} {b : UInt8} (hb : l[k]? = some b) (hd : Lib.digitVal b = none) {acc : Nat} : Lib.decFrom acc l = none := by
  cases h : Lib.decFrom acc l with
  | none => rfl
  | some n =>
    obtain ⟨d, e⟩ := Lib.digit_of_decFrom l acc n h k b hb
    rw [hd] at e
    cases e
end Go.Proofs.YtgpledgjpjifcaaGreatDoor
