/- Afford: what it gives: plain; what its loop keeps. -/
import Derived.Test.YtombjkokncepnaaRows
import Derived.Test.YtombjkokncepnaaMove
import Derived.Test.YtombjkokncepnaaMulI
import Derived.Test.YtombjkokncepnaaPurseSk
import Derived.Test.YtombjkokncepnaaSpendS
namespace Go.Proofs.Ytombjkokncepnaa
open Go.RowKit

def moveCost (m : Move) : Int := max (mulQ m.Amt m.Ppm 1000000) 1
theorem mulQ_nonneg (a b c : Int) : 0 ≤ mulQ a b c := by
  unfold mulQ
  split
  · rename_i h
    simp only [mulArgs, Bool.and_eq_true, decide_eq_true_eq] at h
    obtain ⟨⟨⟨ha, hb⟩, hc⟩, _⟩ := h
    have h1 := (amtB_iff.1 ha).1
    have h2 := (amtB_iff.1 hb).1
    unfold divQ
    split
    · exact Int.ediv_nonneg (Int.mul_nonneg h1 h2) (by omega)
    · exact Int.le_refl _
  · exact Int.le_refl _
theorem purseOk_le {c s : Int} {l : List Coin} (h : purseOk c s l = true) : l.length ≤ 40 := by
  simp only [purseOk, Bool.and_eq_true] at h
  exact (purseForm_iff.1 h.1).1.2
def affF (c s at_ : Int) (st : List Coin × List Move) (m : Move) : List Coin × List Move :=
  if spendCode c s at_ (moveCost m) st.1 = 0 then (spendKeep s at_ st.1 ++ [⟨at_, moveCost m⟩], st.2 ++ [m]) else st
def affS (c s at_ : Int) (l : List Coin) (ms : List Move) : List Coin × List Move := ms.foldl (affF c s at_) (l, [])
def affordR (c s at_ : Int) (l : List Coin) (ms : List Move) : List Move := if purseOk c s l = true then (affS c s at_ l ms).2 else []
theorem affS_succ (c s at_ : Int) (l : List Coin) (ms : List Move) {k : Nat} (hk : k < ms.length) : affS c s at_ l (ms.take (k + 1)) = affF c s at_ (affS c s at_ l (ms.take k)) ms[k] := foldl_take_succ ms _ _ hk
theorem affF_yes {c s at_ : Int} {st : List Coin × List Move} {m : Move} (h : spendCode c s at_ (moveCost m) st.1 = 0) : affF c s at_ st m = (spendKeep s at_ st.1 ++ [⟨at_, moveCost m⟩], st.2 ++ [m]) := if_pos h
theorem affF_no {c s at_ : Int} {st : List Coin × List Move} {m : Move} (h : spendCode c s at_ (moveCost m) st.1 ≠ 0) : affF c s at_ st m = st := if_neg h
theorem spend_small {c s at_ n : Int} {l : List Coin} (h : spendCode c s at_ n l = 0) : (spendKeep s at_ l).length + 1 ≤ 40 := by
  unfold spendCode at h
  split at h
  · split at h
    · split at h
      · omega
      · omega
    · omega
  · omega
theorem affS_len (c s at_ : Int) (l : List Coin) (h40 : l.length ≤ 40) (ms : List Move) : (affS c s at_ l ms).1.length ≤ 40 ∧ (affS c s at_ l ms).2.length ≤ ms.length := by
  have : ∀ (ms : List Move) (st : List Coin × List Move), st.1.length ≤ 40 → (ms.foldl (affF c s at_) st).1.length ≤ 40 ∧ (ms.foldl (affF c s at_) st).2.length ≤ st.2.length + ms.length := by
    intro ms
    induction ms with
    | nil => intro st h; exact ⟨h, by simp⟩
    | cons m ms ih =>
      intro st h
      by_cases hc : spendCode c s at_ (moveCost m) st.1 = 0
      · have hs := spend_small hc
        have := ih (affF c s at_ st m) (by rw [affF_yes hc]; simpa using hs)
        rw [List.foldl_cons]
        rw [affF_yes hc] at this ⊢
        simp only [List.length_append, List.length_cons, List.length_nil] at this ⊢
        omega
      · have := ih (affF c s at_ st m) (by rw [affF_no hc]; exact h)
        rw [List.foldl_cons]
        rw [affF_no hc] at this ⊢
        simp only [List.length_cons] at this ⊢
        omega
  have := this ms (l, []) h40
  simpa [affS] using this
theorem affordR_len (c s at_ : Int) (l : List Coin) (ms : List Move) (h40 : purseOk c s l = true → l.length ≤ 40) : (affordR c s at_ l ms).length ≤ ms.length := by
  unfold affordR
  split
  · rename_i h
    exact (affS_len c s at_ l (h40 h) ms).2
  · exact Nat.zero_le _
/-- The purse's coins: those that came in, or a slice of the call's own. -/
def Cn (w : World) (B : Nat) (A : Option Addr) (l : List Coin) : Prop := Rd w B 2 A (l.map Coin.cells) ∨ ∃ cap, Ow w (B + 1) 85 2 (.slice A l.length cap) (l.map Coin.cells)
theorem Cn.rd {w : World} {B : Nat} {A : Option Addr} {l : List Coin} (h : Cn w B A l) (hB : B ≤ w.heap.size) : Rd w w.heap.size 2 A (l.map Coin.cells) := by
  rcases h with h | ⟨cap, h⟩
  · exact h.more hB
  · exact h.rd
theorem Cn.below {w w' : World} {B : Nat} {A : Option Addr} {l : List Coin} (h : Cn w B A l) (hB : B ≤ w.heap.size) (hb : Below w.heap.size w w') : Cn w' B A l := by
  rcases h with h | ⟨cap, h⟩
  · exact .inl (h.below (hb.mono hB))
  · exact .inr ⟨cap, h.below hb⟩
theorem Cn.alloc {w : World} {B : Nat} {A : Option Addr} {l : List Coin} (h : Cn w B A l) (hB : B ≤ w.heap.size) (o : Obj) : Cn (w.alloc o) B A l :=
  h.below hB ((Below.refl _ _).alloc (Nat.le_refl _) o)
theorem Cn.set {w : World} {B : Nat} {A : Option Addr} {l : List Coin} (h : Cn w B A l) (i : Nat) (u : Value) : Cn (w.setCell ⟨B, i, none⟩ u) B A l := by
  rcases h with h | ⟨cap, h⟩
  · refine .inl (h.below ?_)
    exact Below.setCell (Below.refl _ _) (Nat.le_refl B) u
  · exact .inr ⟨cap, h.far (by simp) u⟩
theorem Cn.grown {w w' : World} {B B' n : Nat} {e : TypeId} {v : Value} {rows : List (List Value)} {A : Option Addr} {l : List Coin} (h : Cn w B A l) (hv : Ow w B' e n v rows) (hBw : B ≤ w.heap.size) (hB : B ≤ B') (hne : e ≠ 85) (hg : w.grownBy w' v.ownBlock) : Cn w' B A l := by
  rcases h with h | ⟨cap, h⟩
  · refine .inl (h.keep fun p hp => ?_)
    have hb : Below B w w' := (Below.refl B w).grown hg hBw (fun k e => by have := (hv.block k e).1; omega)
    exact hb.cell hp
  · refine .inr ⟨cap, h.grown hg ?_⟩
    rcases h.2.2 with ⟨hv0, _⟩ | ⟨g, cap', cur, hv0, _, hh, _⟩
    · rw [hv0]; exact .inl rfl
    · rw [hv0]; exact .inr (hv.ne_ hh hne)
end Go.Proofs.Ytombjkokncepnaa
