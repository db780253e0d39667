/- Texts cut at a byte: plain. -/
import Derived.Test.YtgpledgjpjifcaaGreatDoorRows
import Derived.Lib.Replace
import Derived.Lib.Join
namespace Go.Proofs.YtgpledgjpjifcaaGreatDoor
open Go

/-- the pieces of a text between the bytes b -/
def parts (b : UInt8) : List UInt8 → List (List UInt8)
  | [] => [[]]
  | c :: s => if c = b then [] :: parts b s else (c :: (parts b s).headD []) :: (parts b s).tail
theorem parts_ne (b : UInt8) (s : List UInt8) : parts b s ≠ [] := by
  cases s with
  | nil => simp [parts]
  | cons c s => unfold parts; split <;> simp
theorem parts_cons (b : UInt8) (s : List UInt8) : parts b s = (parts b s).headD [] :: (parts b s).tail := by
  cases h : parts b s with
  | nil => exact absurd h (parts_ne b s)
  | cons p r => rfl
theorem parts_none {b : UInt8} : ∀ {s : List UInt8}, b ∉ s → parts b s = [s]
  | [], _ => rfl
  | c :: s, h => by
    simp only [List.mem_cons, not_or] at h
    unfold parts
    rw [if_neg (fun e => h.1 e.symm), parts_none h.2]
    rfl
theorem parts_mid {b : UInt8} (s : List UInt8) : ∀ {x : List UInt8}, b ∉ x → parts b (x ++ b :: s) = x :: parts b s
  | [], _ => by
    rw [List.nil_append, parts, if_pos rfl]
  | c :: x, h => by
    simp only [List.mem_cons, not_or] at h
    rw [List.cons_append, parts, if_neg (fun e => h.1 e.symm), parts_mid s h.2]
    rfl
theorem pref_ne {b c : UInt8} {l : List UInt8} (h : b ≠ c) : [b].isPrefixOf (c :: l) = false := by
  unfold List.isPrefixOf
  rw [beq_eq_false_iff_ne.2 h]
  rfl
theorem index_mid {b : UInt8} (s : List UInt8) : ∀ {x : List UInt8}, b ∉ x → Lib.index (x ++ b :: s) [b] = x.length
  | [], _ => by
    rw [List.nil_append, Lib.index]
    simp
  | c :: x, h => by
    simp only [List.mem_cons, not_or] at h
    rw [List.cons_append, Lib.index, index_mid s h.2]
    have h1 : ([b].isPrefixOf (c :: (x ++ b :: s))) = false := pref_ne h.1
    have h2 : ((x.length : Int) == -1) = false := by rw [beq_eq_false_iff_ne]; omega
    rw [h1, h2]
    simp
theorem index_not {b : UInt8} : ∀ {x : List UInt8}, b ∉ x → Lib.index x [b] = -1
  | [], _ => rfl
  | c :: x, h => by
    simp only [List.mem_cons, not_or] at h
    rw [Lib.index, index_not h.2]
    have h1 : ([b].isPrefixOf (c :: x)) = false := pref_ne h.1
    rw [h1]
    rfl
theorem cut_mid {b : UInt8} {x s : List UInt8} (h : b ∉ x) : Lib.cut (x ++ b :: s) [b] = (x, s, true) := by
  unfold Lib.cut
  rw [index_mid s h, if_pos (by omega)]
  simp
theorem replace_mid {b c : UInt8} {x s : List UInt8} (h : b ∉ x) (hbc : b ≠ c) : Lib.replace (x ++ b :: s) [b] [c] 1 = x ++ c :: s := by
  have h1 : Lib.count (x ++ b :: s) [b] ≠ 0 := by
    rw [Lib.count_hit (by simp) (index_mid s h)]
    omega
  have h2 : Lib.replaceNum (x ++ b :: s) [b] 1 = 1 := by
    unfold Lib.replaceNum
    rw [if_neg (by omega)]
    rfl
  unfold Lib.replace
  rw [if_neg (by simpa using hbc), h2, Lib.replaceK_hit _ _ _ _ _ (index_mid s h)]
  simp [Lib.replaceK]
theorem split_parts (b : UInt8) : ∀ s : List UInt8, Lib.splitK [b] 0 (Lib.count s [b]) s = parts b s
  | [] => rfl
  | c :: s => by
    by_cases hc : c = b
    · subst hc
      rw [Lib.count_cons_eq, parts, if_pos rfl, Nat.add_comm, Lib.splitK]
      have h0 : Lib.index (c :: s) [c] = 0 := by simp [Lib.index]
      rw [h0, if_neg (by decide), ← split_parts c s]
      simp
    · rw [Lib.count_cons_ne _ _ _ hc, parts, if_neg hc, ← split_parts b s]
      have h1 : ([b].isPrefixOf (c :: s)) = false := pref_ne (Ne.symm hc)
      cases hk : Lib.count s [b] with
      | zero => rfl
      | succ k =>
        obtain ⟨i, hi⟩ := Lib.index_of_count (s := s) (old := [b]) (by omega)
        have h2 : ((i : Int) == -1) = false := by rw [beq_eq_false_iff_ne]; omega
        have h3 : Lib.index (c :: s) [b] = i + 1 := by
          rw [Lib.index, h1, hi, h2]
          simp
        have h4 : ((i : Int) + 1 == -1) = false := by rw [beq_eq_false_iff_ne]; omega
        rw [Lib.splitK, h3, h4, Lib.splitK, hi, h2]
        have e1 : ((i : Int) + 1).toNat = i + 1 := by omega
        simp [e1]
theorem parts_len (b : UInt8) : ∀ s : List UInt8, (parts b s).length ≤ s.length + 1
  | [] => by simp [parts]
  | c :: s => by
    have := parts_len b s
    unfold parts
    split
    · simp
      omega
    · simp
      omega
theorem parts_sub (b : UInt8) : ∀ (s : List UInt8) (p : List UInt8), p ∈ parts b s → p.length ≤ s.length
  | [], p, h => by simp [parts] at h; simp [h]
  | c :: s, p, h => by
    unfold parts at h
    split at h
    · rcases List.mem_cons.1 h with h | h
      · simp [h]
      · have := parts_sub b s p h
        simp
        omega
    · rcases List.mem_cons.1 h with h | h
      · have := parts_sub b s ((parts b s).headD []) (by rw [parts_cons b s]; simp)
        simp [h]
        simpa using this
      · have := parts_sub b s p (by rw [parts_cons b s]; simp [h])
        simp
        omega
end Go.Proofs.YtgpledgjpjifcaaGreatDoor
