/- Books: Under, Total: what they give. -/
import Derived.Test.YtmafdoloidlfeaaRows
import Derived.Test.YtmafdoloidlfeaaBookp
namespace Go.Proofs.Ytmafdoloidlfeaa
open Go.RowKit

def underOk (bt bn bw : Int) (cs : List Chan) (hs : List Htlc) (os : List Circle) (ch : Int) : Bool := bookB bt bn bw cs hs os && !decide (chanIx cs ch < 0)
def underOut (bt bn bw : Int) (cs : List Chan) (hs : List Htlc) (os : List Circle) (ch : Int) : Int := if underOk bt bn bw cs hs os ch = true then outOf hs os ch else 0
def underIn (bt bn bw : Int) (cs : List Chan) (hs : List Htlc) (os : List Circle) (ch : Int) : Int := if underOk bt bn bw cs hs os ch = true then inOf hs os ch else 0
def totF (hs : List Htlc) (os : List Circle) (n : Int) (c : Chan) : Int := n + (c.Local + outOf hs os c.Id)
def totalOf (bt bn bw : Int) (cs : List Chan) (hs : List Htlc) (os : List Circle) : Int := if bookB bt bn bw cs hs os = true then cs.foldl (totF hs os) bw else 0
theorem BookFacts.local_ {bt bn bw : Int} {cs : List Chan} {hs : List Htlc} {os : List Circle} (F : BookFacts bt bn bw cs hs os) {k : Nat} (hk : k < cs.length) : 0 ≤ cs[k].Local ∧ cs[k].Local ≤ 1125899906842624 := by
  have := F.ch k hk
  simp only [chB, Bool.and_eq_true] at this
  exact amtB_iff.1 this.1.1.1.1.1.1.2
theorem BookFacts.tot {bt bn bw : Int} {cs : List Chan} {hs : List Htlc} {os : List Circle} (F : BookFacts bt bn bw cs hs os) :
    ∀ k, k ≤ cs.length → 0 ≤ (cs.take k).foldl (totF hs os) bw ∧ (cs.take k).foldl (totF hs os) bw ≤ 1125899906842624 + (k : Int) * 113715890591105024
  | 0, _ => by
    obtain ⟨a, b⟩ := F.w
    simp
    exact ⟨a, b⟩
  | k + 1, hk => by
    obtain ⟨h1, h2⟩ := F.tot k (by omega)
    obtain ⟨a, b⟩ := F.local_ (k := k) (by omega)
    obtain ⟨c, d⟩ := F.small.out_bd cs[k].Id
    rw [foldl_take_succ cs _ _ (by omega)]
    unfold totF at h1 h2 ⊢
    omega
end Go.Proofs.Ytmafdoloidlfeaa
