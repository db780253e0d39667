/- Books: BookOk: plain. -/
import Derived.Test.YtcjbjpobpefehaaGreatDoorRows
import Derived.Test.YtcjbjpobpefehaaGreatDoorBookPs
namespace Go.Proofs.YtcjbjpobpefehaaGreatDoor
open Go.RowKit

theorem bookB_i (bt bn bw : Int) (cs : List Chan) (hs : List Htlc) (os : List Circle) :
    bookB bt bn bw cs hs os = (amtB bt && amtB bw && inB bn 1 1125899906842624 && !decide ((20 : Int) < (cs.length : Int)) && partsOkB cs hs os && everyTo cs.length (chanOk cs hs os)) := by
  rw [Bool.eq_iff_iff]
  simp only [bookB, partsOkB, Bool.and_eq_true, decide_eq_true_eq, Bool.not_eq_true', decide_eq_false_iff_not]
  constructor
  · rintro ⟨⟨⟨⟨⟨⟨⟨h1, h2⟩, h3⟩, h4⟩, h5⟩, h6⟩, h7⟩, h8⟩; exact ⟨⟨⟨⟨⟨h1, h2⟩, h3⟩, by omega⟩, ⟨h5, h6⟩, h7⟩, h8⟩
  · rintro ⟨⟨⟨⟨⟨h1, h2⟩, h3⟩, h4⟩, ⟨h5, h6⟩, h7⟩, h8⟩; exact ⟨⟨⟨⟨⟨⟨⟨h1, h2⟩, h3⟩, by omega⟩, h5⟩, h6⟩, h7⟩, h8⟩
theorem bookB_s (bt bn bw : Int) (cs : List Chan) (hs : List Htlc) (os : List Circle) :
    bookB bt bn bw cs hs os = (amtB bt && amtB bw && !decide (bn < 1) && !decide (1125899906842624 < bn) && !decide ((20 : Int) < (cs.length : Int)) && !decide ((60 : Int) < (hs.length : Int)) && !decide ((20 : Int) < (os.length : Int)) && partsB cs hs os && everyTo cs.length (chanOk cs hs os)) := by
  rw [Bool.eq_iff_iff]
  simp only [bookB, Bool.and_eq_true, inB_iff, decide_eq_true_eq, Bool.not_eq_true', decide_eq_false_iff_not]
  constructor
  · rintro ⟨⟨⟨⟨⟨⟨⟨h1, h2⟩, h3⟩, h4⟩, h5⟩, h6⟩, h7⟩, h8⟩; exact ⟨⟨⟨⟨⟨⟨⟨⟨h1, h2⟩, by omega⟩, by omega⟩, by omega⟩, by omega⟩, by omega⟩, h7⟩, h8⟩
  · rintro ⟨⟨⟨⟨⟨⟨⟨⟨h1, h2⟩, h3⟩, h3'⟩, h4⟩, h5⟩, h6⟩, h7⟩, h8⟩; exact ⟨⟨⟨⟨⟨⟨⟨h1, h2⟩, by omega⟩, by omega⟩, by omega⟩, by omega⟩, h7⟩, h8⟩
theorem chB_i (hs : List Htlc) (os : List Circle) (c : Chan) : chB hs os c = (isChanB c.Id && amtB c.Local && amtB c.Remote && amtB c.Base && inB c.Ppm 0 1000000 && inB c.Score (-100) 100 && amtB c.Size && !(c.Size != c.Local + c.Remote + outOf hs os c.Id + inOf hs os c.Id)) := by
  simp [chB, bne]
theorem chB_s (hs : List Htlc) (os : List Circle) (c : Chan) : chB hs os c = (!decide (c.Id < 1) && !decide (99 < c.Id) && amtB c.Local && amtB c.Remote && amtB c.Base && !decide (c.Ppm < 0) && !decide (1000000 < c.Ppm) && inB c.Score (-100) 100 && amtB c.Size && !(c.Local + c.Remote + outOf hs os c.Id + inOf hs os c.Id != c.Size)) := by
  rw [Bool.eq_iff_iff]
  simp only [chB, Bool.and_eq_true, isChanB_iff, inB_iff, Bool.not_eq_true', decide_eq_false_iff_not, beq_iff_eq, bne_eq_false_iff_eq]
  constructor
  · rintro ⟨⟨⟨⟨⟨⟨⟨h1, h2⟩, h3⟩, h4⟩, h5⟩, h6⟩, h7⟩, h8⟩; exact ⟨⟨⟨⟨⟨⟨⟨⟨⟨by omega, by omega⟩, h2⟩, h3⟩, h4⟩, by omega⟩, by omega⟩, h6⟩, h7⟩, h8.symm⟩
  · rintro ⟨⟨⟨⟨⟨⟨⟨⟨⟨h1, h1'⟩, h2⟩, h3⟩, h4⟩, h5⟩, h5'⟩, h6⟩, h7⟩, h8⟩; exact ⟨⟨⟨⟨⟨⟨⟨by omega, h2⟩, h3⟩, h4⟩, by omega⟩, h6⟩, h7⟩, h8.symm⟩
theorem next_le (a b : Int) : decide (a < b) = !decide (b ≤ a) := by
  rw [Bool.eq_iff_iff]
  simp
theorem bookB_bad {bt bn bw : Int} {cs : List Chan} {hs : List Htlc} {os : List Circle} {k : Nat} (hk : k < cs.length) (h : chanOk cs hs os k = false) : bookB bt bn bw cs hs os = false := by
  unfold bookB
  rw [everyTo_false hk h, Bool.and_false]
end Go.Proofs.YtcjbjpobpefehaaGreatDoor
