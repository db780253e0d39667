/- Books: Aged: what it gives. -/
import Derived.Test.YtmafdoloidlfeaaRows
import Derived.Test.YtmafdoloidlfeaaBookKs
namespace Go.Proofs.Ytmafdoloidlfeaa
open Go.RowKit

def agedF (age : Int) (hs : List Htlc) : List Int := (hs.filter (fun h => decide (age ≤ h.Age))).map Htlc.Key
def agedOf (bt bn bw : Int) (cs : List Chan) (hs : List Htlc) (os : List Circle) (age : Int) : List Int := if bookB bt bn bw cs hs os = true then agedF age hs else []
theorem agedF_in {age : Int} {hs : List Htlc} {k : Nat} (hk : k < hs.length) (h : decide (age ≤ hs[k].Age) = true) : agedF age (hs.take (k + 1)) = agedF age (hs.take k) ++ [hs[k].Key] := by
  unfold agedF
  rw [List.take_succ_eq_append_getElem hk, List.filter_append, List.map_append]
  simp [h]
theorem agedF_out {age : Int} {hs : List Htlc} {k : Nat} (hk : k < hs.length) (h : decide (age ≤ hs[k].Age) = false) : agedF age (hs.take (k + 1)) = agedF age (hs.take k) := by
  unfold agedF
  rw [List.take_succ_eq_append_getElem hk, List.filter_append, List.map_append]
  simp [h]
theorem agedF_len (age : Int) (hs : List Htlc) (k : Nat) : (agedF age (hs.take k)).length ≤ k := by
  unfold agedF
  rw [List.length_map]
  exact Nat.le_trans (List.length_filter_le _ _) (List.length_take_le _ _)
theorem agedOf_len (bt bn bw : Int) (cs : List Chan) (hs : List Htlc) (os : List Circle) (age : Int) : (agedOf bt bn bw cs hs os age).length ≤ hs.length := by
  unfold agedOf
  split
  · have := agedF_len age hs hs.length
    rwa [List.take_length] at this
  · simp
end Go.Proofs.Ytmafdoloidlfeaa
