/- Texts of books: plain. -/
import Derived.Test.YtgpledgjpjifcaaGreatDoorRows
import Derived.Test.YtgpledgjpjifcaaGreatDoorNumL
import Derived.Test.YtgpledgjpjifcaaGreatDoorBookF
import Derived.Test.YtgpledgjpjifcaaGreatDoorBookp
import Derived.Lib.Join
namespace Go.Proofs.YtgpledgjpjifcaaGreatDoor
open Go

/-- words behind a word -/
def wordsC (w : List UInt8) (ws : List (List UInt8)) : List UInt8 := w ++ (ws.map (32 :: ·)).flatten
def numsC (w : List UInt8) (ns : List Int) : List UInt8 := wordsC w (ns.map numL)
theorem wordsC_nil (w : List UInt8) : wordsC w [] = w := by simp [wordsC]
theorem wordsC_cons (w x : List UInt8) (ws : List (List UInt8)) : wordsC w (x :: ws) = wordsC (w ++ 32 :: x) ws := by simp [wordsC]
theorem wordsC_snoc (w x : List UInt8) (ws : List (List UInt8)) : wordsC w (ws ++ [x]) = wordsC w ws ++ 32 :: x := by simp [wordsC]
theorem join_words (w : List UInt8) (ws : List (List UInt8)) : Lib.join (w :: ws) [32] = wordsC w ws := by
  rw [Lib.join_cons]
  rfl
theorem numsC_len (w : List UInt8) (ns : List Int) : (numsC w ns).length ≤ w.length + 18 * ns.length := by
  unfold numsC
  induction ns generalizing w with
  | nil => simp [wordsC]
  | cons n ns ih =>
    rw [List.map_cons, wordsC_cons]
    have h1 := ih (w ++ 32 :: numL n)
    have h2 := numL_len n
    simp only [List.length_append, List.length_cons] at h1 ⊢
    omega
theorem numsC_succ (w : List UInt8) (ns : List Int) {k : Nat} (hk : k < ns.length) : numsC w (ns.take (k + 1)) = numsC w (ns.take k) ++ 32 :: numL ns[k] := by
  unfold numsC
  rw [List.take_succ_eq_append_getElem hk, List.map_append, List.map_cons, List.map_nil, wordsC_snoc]
def bookW : List UInt8 := [98, 111, 111, 107]
def chanW : List UInt8 := [99, 104, 97, 110]
def htlcW : List UInt8 := [104, 116, 108, 99]
def circW : List UInt8 := [99, 105, 114, 99, 108, 101]
def overW : List UInt8 := [111, 118, 101, 114]
def keptW (b : Bool) : List UInt8 := if b = true then [107, 101, 112, 116] else [102, 101, 119]
def headC (bt bn bw : Int) : List UInt8 := numsC bookW [bt, bn, bw]
def chanC (c : Chan) : List UInt8 := numsC chanW [c.Id, c.Size, c.Local, c.Remote, c.Base, c.Ppm, c.Score]
def htlcC (h : Htlc) : List UInt8 := wordsC htlcW ([h.Key, h.In, h.Out, h.AmtIn, h.AmtOut].map numL ++ [keptW h.Kept, numL h.Age])
def circC (c : Circle) : List UInt8 := numsC circW [c.Key, c.From, c.To, c.Amt, c.Fee]
theorem htlcC_eq (h : Htlc) : htlcC h = numsC htlcW [h.Key, h.In, h.Out, h.AmtIn, h.AmtOut] ++ (32 :: (keptW h.Kept ++ 32 :: numL h.Age)) := by
  simp [htlcC, numsC, wordsC]
def row10 {α : Type} (f : α → List UInt8) (x : α) : List UInt8 := f x ++ [10]
def rows10 {α : Type} (f : α → List UInt8) (l : List α) : List UInt8 := (l.map (row10 f)).flatten
theorem rows10_succ {α : Type} (f : α → List UInt8) (l : List α) {k : Nat} (hk : k < l.length) : rows10 f (l.take (k + 1)) = rows10 f (l.take k) ++ (f l[k] ++ [10]) := by
  unfold rows10
  rw [List.take_succ_eq_append_getElem hk, List.map_append, List.flatten_append]
  simp [row10]
theorem rows10_nil {α : Type} (f : α → List UInt8) : rows10 f [] = [] := rfl
theorem rows10_len {α : Type} {f : α → List UInt8} {B : Nat} (hf : ∀ x, (f x).length ≤ B) (l : List α) : (rows10 f l).length ≤ (B + 1) * l.length := by
  unfold rows10
  induction l with
  | nil => simp
  | cons x l ih =>
    have := hf x
    rw [List.map_cons, List.flatten_cons, List.length_append, List.length_cons, Nat.mul_succ]
    unfold row10 at *
    simp only [List.length_append, List.length_cons, List.length_nil]
    omega
def bookTo (bt bn bw : Int) (cs : List Chan) (hs : List Htlc) (os : List Circle) : List UInt8 := headC bt bn bw ++ [10] ++ rows10 chanC cs ++ rows10 htlcC hs ++ rows10 circC os
def bookL (bt bn bw : Int) (cs : List Chan) (hs : List Htlc) (os : List Circle) : List UInt8 := if bookB bt bn bw cs hs os = true then bookTo bt bn bw cs hs os ++ (overW ++ [10]) else []
theorem headC_len (bt bn bw : Int) : (headC bt bn bw).length ≤ 58 := by
  have := numsC_len bookW [bt, bn, bw]
  simpa [headC, bookW] using this
theorem chanC_len (c : Chan) : (chanC c).length ≤ 130 := by
  have := numsC_len chanW [c.Id, c.Size, c.Local, c.Remote, c.Base, c.Ppm, c.Score]
  simpa [chanC, chanW] using this
theorem circC_len (c : Circle) : (circC c).length ≤ 96 := by
  have := numsC_len circW [c.Key, c.From, c.To, c.Amt, c.Fee]
  simpa [circC, circW] using this
theorem htlcC_len (h : Htlc) : (htlcC h).length ≤ 118 := by
  have h1 := numsC_len htlcW [h.Key, h.In, h.Out, h.AmtIn, h.AmtOut]
  have h2 := numL_len h.Age
  rw [htlcC_eq]
  have h3 : (keptW h.Kept).length ≤ 4 := by unfold keptW; split <;> simp
  simp only [List.length_append, List.length_cons, List.length_nil, htlcW] at h1 ⊢
  omega
theorem bookTo_len (bt bn bw : Int) (cs : List Chan) (hs : List Htlc) (os : List Circle) : (bookTo bt bn bw cs hs os).length ≤ 59 + 131 * cs.length + 119 * hs.length + 97 * os.length := by
  have h1 := headC_len bt bn bw
  have h2 := rows10_len chanC_len cs
  have h3 := rows10_len htlcC_len hs
  have h4 := rows10_len circC_len os
  unfold bookTo
  simp only [List.length_append, List.length_cons, List.length_nil]
  omega
theorem bookL_len (bt bn bw : Int) (cs : List Chan) (hs : List Htlc) (os : List Circle) : (bookL bt bn bw cs hs os).length ≤ 12000 := by
  unfold bookL
  split
  · rename_i h
    have h1 := bookTo_len bt bn bw cs hs os
    have f := bookB_facts h
    have h2 := f.cl
    have h3 := f.small.hl
    have h4 := f.small.ol
    simp only [List.length_append, List.length_cons, List.length_nil, overW]
    omega
  · simp
/-- the checksum of a text -/
def checkL (l : List UInt8) : Int := l.foldl (fun n b => (31 * n + (b.toNat : Int)) % 9973) 0
theorem checkL_succ (l : List UInt8) {k : Nat} (hk : k < l.length) : checkL (l.take (k + 1)) = (31 * checkL (l.take k) + (l[k].toNat : Int)) % 9973 := foldl_take_succ l _ _ hk
theorem checkL_in (l : List UInt8) : 0 ≤ checkL l ∧ checkL l < 9973 := by
  unfold checkL
  have key : ∀ (l : List UInt8) (n : Int), 0 ≤ n ∧ n < 9973 → 0 ≤ l.foldl (fun n b => (31 * n + (b.toNat : Int)) % 9973) n ∧ l.foldl (fun n b => (31 * n + (b.toNat : Int)) % 9973) n < 9973 := by
    intro l
    induction l with
    | nil => intro n h; exact h
    | cons b l ih =>
      intro n h
      rw [List.foldl_cons]
      exact ih _ ⟨by omega, by omega⟩
  exact key l 0 (by omega)
def bookSum (bt bn bw : Int) (cs : List Chan) (hs : List Htlc) (os : List Circle) : Int := if bookB bt bn bw cs hs os = true then checkL (bookL bt bn bw cs hs os) else -1
end Go.Proofs.YtgpledgjpjifcaaGreatDoor
