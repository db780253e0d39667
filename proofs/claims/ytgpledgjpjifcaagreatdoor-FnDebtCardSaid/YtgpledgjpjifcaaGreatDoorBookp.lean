/- Books: plain. -/
import Derived.Test.YtgpledgjpjifcaaGreatDoorRows
import Derived.Test.YtgpledgjpjifcaaGreatDoorBookF
namespace Go.Proofs.YtgpledgjpjifcaaGreatDoor
open Go.RowKit

/-! ### Places, sums -/
def notId (ch : Int) (c : Chan) : Bool := c.Id != ch
def chanIx (cs : List Chan) (ch : Int) : Int := match cs.findIdx? (fun c => !notId ch c) with | some i => (i : Int) | none => -1
theorem chanIx_none {cs : List Chan} {ch : Int} (h : (cs.take cs.length).all (notId ch) = true) : chanIx cs ch = -1 := by
  rw [List.take_length] at h
  have : cs.findIdx? (fun c => !notId ch c) = none := by
    rw [List.findIdx?_eq_none_iff]
    intro x hx
    simp [List.all_eq_true.1 h x hx]
  unfold chanIx
  rw [this]
theorem chanIx_at {cs : List Chan} {ch : Int} {k : Nat} (hk : k < cs.length) (h : (cs.take k).all (notId ch) = true) (hc : notId ch cs[k] = false) : chanIx cs ch = (k : Int) := by
  have : cs.findIdx? (fun c => !notId ch c) = some k := by
    rw [List.findIdx?_eq_some_iff_getElem]
    refine ⟨hk, by simp [hc], fun j hj => ?_⟩
    have hm : cs[j] ∈ cs.take k := by
      rw [List.mem_take_iff_getElem]
      exact ⟨j, by omega, rfl⟩
    simp [List.all_eq_true.1 h _ hm]
  unfold chanIx
  rw [this]
def outH (ch n : Int) (h : Htlc) : Int := if (h.Out == ch) = true then n + h.AmtOut else n
def inH (ch n : Int) (h : Htlc) : Int := if (h.In == ch) = true then n + h.AmtIn else n
def outC (ch n : Int) (c : Circle) : Int := if (c.From == ch) = true then n + (c.Amt + c.Fee) else n
def inC (ch n : Int) (c : Circle) : Int := if (c.To == ch) = true then n + c.Amt else n
def outOf (hs : List Htlc) (os : List Circle) (ch : Int) : Int := os.foldl (outC ch) (hs.foldl (outH ch) 0)
def inOf (hs : List Htlc) (os : List Circle) (ch : Int) : Int := os.foldl (inC ch) (hs.foldl (inH ch) 0)
/-- The amounts are amounts: no sum of them wraps. -/
structure Small (hs : List Htlc) (os : List Circle) : Prop where
  hl : hs.length ≤ 60
  ol : os.length ≤ 20
  h : ∀ k, (hk : k < hs.length) → (0 ≤ hs[k].AmtOut ∧ hs[k].AmtOut ≤ 1125899906842624) ∧ (0 ≤ hs[k].AmtIn ∧ hs[k].AmtIn ≤ 1125899906842624)
  o : ∀ k, (hk : k < os.length) → (0 ≤ os[k].Amt ∧ os[k].Amt ≤ 1125899906842624) ∧ (0 ≤ os[k].Fee ∧ os[k].Fee ≤ 1125899906842624)
theorem Small.outH_bd {hs : List Htlc} {os : List Circle} (s : Small hs os) (ch : Int) : ∀ k, k ≤ hs.length → 0 ≤ (hs.take k).foldl (outH ch) 0 ∧ (hs.take k).foldl (outH ch) 0 ≤ (k : Int) * 1125899906842624
  | 0, _ => by simp
  | k + 1, hk => by
    obtain ⟨h1, h2⟩ := s.outH_bd ch k (by omega)
    obtain ⟨⟨a, b⟩, _⟩ := s.h k (by omega)
    rw [foldl_take_succ hs _ _ (by omega)]
    unfold outH at h1 h2 ⊢
    split <;> omega
theorem Small.inH_bd {hs : List Htlc} {os : List Circle} (s : Small hs os) (ch : Int) : ∀ k, k ≤ hs.length → 0 ≤ (hs.take k).foldl (inH ch) 0 ∧ (hs.take k).foldl (inH ch) 0 ≤ (k : Int) * 1125899906842624
  | 0, _ => by simp
  | k + 1, hk => by
    obtain ⟨h1, h2⟩ := s.inH_bd ch k (by omega)
    obtain ⟨_, a, b⟩ := s.h k (by omega)
    rw [foldl_take_succ hs _ _ (by omega)]
    unfold inH at h1 h2 ⊢
    split <;> omega
theorem Small.outC_bd {hs : List Htlc} {os : List Circle} (s : Small hs os) (ch z : Int) (z0 : 0 ≤ z) : ∀ k, k ≤ os.length → 0 ≤ (os.take k).foldl (outC ch) z ∧ (os.take k).foldl (outC ch) z ≤ z + (k : Int) * 2251799813685248
  | 0, _ => by simp; omega
  | k + 1, hk => by
    obtain ⟨h1, h2⟩ := s.outC_bd ch z z0 k (by omega)
    obtain ⟨⟨a, b⟩, c, d⟩ := s.o k (by omega)
    rw [foldl_take_succ os _ _ (by omega)]
    unfold outC at h1 h2 ⊢
    split <;> omega
theorem Small.inC_bd {hs : List Htlc} {os : List Circle} (s : Small hs os) (ch z : Int) (z0 : 0 ≤ z) : ∀ k, k ≤ os.length → 0 ≤ (os.take k).foldl (inC ch) z ∧ (os.take k).foldl (inC ch) z ≤ z + (k : Int) * 1125899906842624
  | 0, _ => by simp; omega
  | k + 1, hk => by
    obtain ⟨h1, h2⟩ := s.inC_bd ch z z0 k (by omega)
    obtain ⟨⟨a, b⟩, c, d⟩ := s.o k (by omega)
    rw [foldl_take_succ os _ _ (by omega)]
    unfold inC at h1 h2 ⊢
    split <;> omega
theorem Small.out_bd {hs : List Htlc} {os : List Circle} (s : Small hs os) (ch : Int) : 0 ≤ outOf hs os ch ∧ outOf hs os ch ≤ 112589990684262400 := by
  obtain ⟨h1, h2⟩ := s.outH_bd ch hs.length (Nat.le_refl _)
  rw [List.take_length] at h1 h2
  obtain ⟨h3, h4⟩ := s.outC_bd ch _ h1 os.length (Nat.le_refl _)
  rw [List.take_length] at h3 h4
  have := s.hl
  have := s.ol
  unfold outOf
  omega
theorem Small.in_bd {hs : List Htlc} {os : List Circle} (s : Small hs os) (ch : Int) : 0 ≤ inOf hs os ch ∧ inOf hs os ch ≤ 112589990684262400 := by
  obtain ⟨h1, h2⟩ := s.inH_bd ch hs.length (Nat.le_refl _)
  rw [List.take_length] at h1 h2
  obtain ⟨h3, h4⟩ := s.inC_bd ch _ h1 os.length (Nat.le_refl _)
  rw [List.take_length] at h3 h4
  have := s.hl
  have := s.ol
  unfold inOf
  omega
/-! ### Parts -/
def twoB (cs : List Chan) (x y : Int) : Bool := (x != y) && decide (0 ≤ chanIx cs x) && decide (0 ≤ chanIx cs y)
def htlcB (cs : List Chan) (h : Htlc) : Bool := twoB cs h.In h.Out && amtB h.AmtIn && inB h.AmtOut 1 h.AmtIn && amtB h.Age
def circB (cs : List Chan) (c : Circle) : Bool := twoB cs c.From c.To && inB c.Amt 1 1125899906842624 && amtB c.Fee
def hasB (l : List Int) (n : Int) : Bool := l.any (· == n)
def keysOf (hs : List Htlc) (os : List Circle) : List Int := hs.map Htlc.Key ++ os.map Circle.Key
def everyTo (k : Nat) (p : Nat → Bool) : Bool := (List.range k).all p
theorem everyTo_succ (k : Nat) (p : Nat → Bool) : everyTo (k + 1) p = (everyTo k p && p k) := by
  unfold everyTo
  rw [List.range_succ, List.all_append]
  simp
theorem everyTo_iff {k : Nat} {p : Nat → Bool} : everyTo k p = true ↔ ∀ i, i < k → p i = true := by
  simp [everyTo, List.all_eq_true]
theorem everyTo_false {k i : Nat} {p : Nat → Bool} (hi : i < k) (h : p i = false) : everyTo k p = false := by
  cases hu : everyTo k p
  · rfl
  · rw [everyTo_iff.1 hu i hi] at h
    cases h
def keyAt (ks : List Int) (i : Nat) : Bool := match ks[i]? with | some k => inB k 1 1000000 && !hasB (ks.take i) k | none => true
theorem keyAt_eq {ks : List Int} {i : Nat} (h : i < ks.length) : keyAt ks i = (inB ks[i] 1 1000000 && !hasB (ks.take i) ks[i]) := by
  unfold keyAt
  rw [List.getElem?_eq_getElem h]
def partsB (cs : List Chan) (hs : List Htlc) (os : List Circle) : Bool := hs.all (htlcB cs) && os.all (circB cs) && everyTo (keysOf hs os).length (keyAt (keysOf hs os))
theorem partsB_h {cs : List Chan} {hs : List Htlc} {os : List Circle} {k : Nat} (hk : k < hs.length) (h : htlcB cs hs[k] = false) : partsB cs hs os = false := by
  unfold partsB
  rw [all_false hs _ hk h]
  rfl
theorem partsB_o {cs : List Chan} {hs : List Htlc} {os : List Circle} {k : Nat} (hk : k < os.length) (h : circB cs os[k] = false) : partsB cs hs os = false := by
  unfold partsB
  rw [all_false os _ hk h, Bool.and_false, Bool.false_and]
theorem partsB_k {cs : List Chan} {hs : List Htlc} {os : List Circle} {k : Nat} (hk : k < (keysOf hs os).length) (h : keyAt (keysOf hs os) k = false) : partsB cs hs os = false := by
  unfold partsB
  rw [everyTo_false hk h, Bool.and_false]
theorem partsB_small {cs : List Chan} {hs : List Htlc} {os : List Circle} (h : partsB cs hs os = true) (h60 : hs.length ≤ 60) (h20 : os.length ≤ 20) : Small hs os := by
  simp only [partsB, Bool.and_eq_true] at h
  refine ⟨h60, h20, fun k hk => ?_, fun k hk => ?_⟩
  · have hh := List.all_eq_true.1 h.1.1 _ (List.getElem_mem hk)
    simp only [htlcB, Bool.and_eq_true, amtB_iff, inB_iff] at hh
    omega
  · have hh := List.all_eq_true.1 h.1.2 _ (List.getElem_mem hk)
    simp only [circB, Bool.and_eq_true, amtB_iff, inB_iff] at hh
    omega
/-! ### The channels -/
def chB (hs : List Htlc) (os : List Circle) (c : Chan) : Bool :=
  isChanB c.Id && amtB c.Local && amtB c.Remote && amtB c.Base && inB c.Ppm 0 1000000 && inB c.Score (-100) 100 && amtB c.Size && (c.Size == c.Local + c.Remote + outOf hs os c.Id + inOf hs os c.Id)
def chanOk (cs : List Chan) (hs : List Htlc) (os : List Circle) (i : Nat) : Bool :=
  match cs[i]? with
  | some c => chB hs os c && (decide (i = 0) || match cs[i - 1]? with | some p => decide (p.Id < c.Id) | none => false)
  | none => true
theorem chanOk_first {cs : List Chan} {hs : List Htlc} {os : List Circle} (hk : 0 < cs.length) : chanOk cs hs os 0 = chB hs os cs[0] := by
  unfold chanOk
  rw [List.getElem?_eq_getElem hk]
  simp
theorem chanOk_next {cs : List Chan} {hs : List Htlc} {os : List Circle} {j : Nat} (hk : j + 1 < cs.length) (hj : j < cs.length) : chanOk cs hs os (j + 1) = (chB hs os cs[j + 1] && decide (cs[j].Id < cs[j + 1].Id)) := by
  have e2 : cs[j + 1 - 1]? = some cs[j] := List.getElem?_eq_getElem hj
  unfold chanOk
  rw [List.getElem?_eq_getElem hk, e2]
  simp
def bookB (bt bn bw : Int) (cs : List Chan) (hs : List Htlc) (os : List Circle) : Bool :=
  amtB bt && amtB bw && inB bn 1 1125899906842624 && decide (cs.length ≤ 20) && decide (hs.length ≤ 60) && decide (os.length ≤ 20) && partsB cs hs os && everyTo cs.length (chanOk cs hs os)
structure BookFacts (bt bn bw : Int) (cs : List Chan) (hs : List Htlc) (os : List Circle) : Prop where
  t : 0 ≤ bt ∧ bt ≤ 1125899906842624
  w : 0 ≤ bw ∧ bw ≤ 1125899906842624
  n : 1 ≤ bn ∧ bn ≤ 1125899906842624
  cl : cs.length ≤ 20
  small : Small hs os
  parts : partsB cs hs os = true
  ch : ∀ k, (hk : k < cs.length) → chB hs os cs[k] = true
theorem bookB_facts {bt bn bw : Int} {cs : List Chan} {hs : List Htlc} {os : List Circle} (h : bookB bt bn bw cs hs os = true) : BookFacts bt bn bw cs hs os := by
  simp only [bookB, Bool.and_eq_true, amtB_iff, inB_iff, decide_eq_true_eq] at h
  obtain ⟨⟨⟨⟨⟨⟨⟨h1, h2⟩, h3⟩, h4⟩, h5⟩, h6⟩, h7⟩, h8⟩ := h
  refine ⟨h1, h2, h3, h4, partsB_small h7 h5 h6, h7, fun k hk => ?_⟩
  have := everyTo_iff.1 h8 k hk
  cases k with
  | zero => rwa [chanOk_first hk] at this
  | succ j =>
    rw [chanOk_next hk (by omega), Bool.and_eq_true] at this
    exact this.1
end Go.Proofs.YtgpledgjpjifcaaGreatDoor
