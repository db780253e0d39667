/- Gains: the best: plain, and the walks. -/
import Derived.Test.YtcflmmljmjcdaaaRows
import Derived.Test.YtcflmmljmjcdaaaGain
import Derived.Deep.QuietTactic
import Derived.BigQuiet
namespace Go.Proofs.Ytcflmmljmjcdaaa
open Go.RowKit

def better (a b : Gain) : Gain := if a.Fees < b.Fees ∨ (b.Fees = a.Fees ∧ a.Count < b.Count) then b else a
def bestOf : List Gain → Gain
  | [] => ⟨0, 0, 0, 0⟩
  | g :: t => t.foldl better g
theorem bestOf_one (l : List Gain) (h : 0 < l.length) : bestOf (l.take 1) = l[0] := by
  cases l with
  | nil => simp at h
  | cons g t => simp [bestOf]
theorem bestOf_succ (l : List Gain) {k : Nat} (h0 : 0 < k) (hk : k < l.length) : bestOf (l.take (k + 1)) = better (bestOf (l.take k)) l[k] := by
  cases l with
  | nil => simp at hk
  | cons g t =>
    cases k with
    | zero => omega
    | succ k =>
      simp only [List.length_cons] at hk
      simp only [List.take_succ_cons, bestOf, List.getElem_cons_succ]
      exact foldl_take_succ t better g (by omega)
def BgRel (l : List Gain) (k b : Nat) : Prop := (k = 0 ∧ b = 0) ∨ (0 < k ∧ b < k ∧ l[b]? = some (bestOf (l.take k)))
theorem BgRel.lt {l : List Gain} {k b : Nat} (h : BgRel l k b) (hk : k < l.length) : b < l.length := by
  rcases h with ⟨_, _⟩ | ⟨_, _, _⟩ <;> omega
theorem BgRel.new {l : List Gain} {k b : Nat} (h : BgRel l k b) (hk : k < l.length) (hb : b < l.length) (hD : l[b].Fees < l[k].Fees ∨ (l[k].Fees = l[b].Fees ∧ l[b].Count < l[k].Count)) : BgRel l (k + 1) k := by
  rcases h with ⟨rfl, rfl⟩ | ⟨h1, h2, h3⟩
  · omega
  · refine .inr ⟨by omega, by omega, ?_⟩
    rw [List.getElem?_eq_getElem hb] at h3
    injection h3 with h3
    rw [bestOf_succ l h1 hk, ← h3, better, if_pos hD, List.getElem?_eq_getElem hk]
theorem BgRel.old {l : List Gain} {k b : Nat} (h : BgRel l k b) (hk : k < l.length) (hb : b < l.length) (hD : ¬ (l[b].Fees < l[k].Fees ∨ (l[k].Fees = l[b].Fees ∧ l[b].Count < l[k].Count))) : BgRel l (k + 1) b := by
  rcases h with ⟨rfl, rfl⟩ | ⟨h1, h2, h3⟩
  · exact .inr ⟨by omega, by omega, by rw [Nat.zero_add, bestOf_one l hb, List.getElem?_eq_getElem hb]⟩
  · refine .inr ⟨by omega, by omega, ?_⟩
    rw [List.getElem?_eq_getElem hb] at h3 ⊢
    injection h3 with h3
    rw [bestOf_succ l h1 hk, ← h3, better, if_neg hD]
set_option maxHeartbeats 2000000 in
theorem i_BestGain (l : List Gain) (A : Option Addr) (cap : Nat) (w : World) (hl : l.length ≤ 1048576) (hr : Rd w w.heap.size 4 A (l.map Gain.cells)) :
    Calls Try.prog 23 #[.slice A l.length cap] w fun e w' => e = .returned (.int .i64 (bestOf l).Ch) ∧ Below w.heap.size w w' := by
  have HR := Lib.hid hr
  clear hr
  go_enter Try.func23, Try.ntmps23
  go_wp2_with fail
  go_loopw [3, 8] (fun n i wr => ∃ (k b : Nat), k ≤ l.length ∧ i = .int .i64 k ∧ n = .int .i64 b ∧ BgRel l k b ∧ Below w.heap.size w wr) (fun _ i _ => l.length - (intOf i).toNat)
  case atStart => exact ⟨0, 0, Nat.zero_le _, rfl, rfl, .inl ⟨rfl, rfl⟩, Below.refl _ _⟩
  case round =>
    obtain ⟨k, p, hk, rfl, rfl, hrel, hbw⟩ := hrel
    have hbz := hbw.size
    have HG := Lib.hid hrel
    clear hrel
    by_cases hlt : k < l.length
    · obtain ⟨b, off, rfl, hbB, c0, c1, c2, c3⟩ := Gain.rd (HR.out.below hbw) hlt
      have hp := HG.out.lt hlt
      obtain ⟨b', off', e', _, d0, d1, d2, d3⟩ := Gain.rd (HR.out.below hbw) hp
      simp only [Option.some.injEq, Addr.mk.injEq, and_true] at e'
      obtain ⟨rfl, rfl⟩ := e'
      have hbr : b < wr.heap.size := by omega
      have i1 : (0 : Int) ≤ (p : Int) := by omega
      have i2 : (p : Int) < (l.length : Int) := by omega
      have hcase : (decide (l[p].Fees < l[k].Fees) = true) ∨ (decide (l[p].Fees < l[k].Fees) = false ∧ (l[k].Fees == l[p].Fees) = false) ∨
          (decide (l[p].Fees < l[k].Fees) = false ∧ (l[k].Fees == l[p].Fees) = true ∧ decide (l[p].Count < l[k].Count) = true) ∨ (decide (l[p].Fees < l[k].Fees) = false ∧ (l[k].Fees == l[p].Fees) = true ∧ decide (l[p].Count < l[k].Count) = false) := by
        cases decide (l[p].Fees < l[k].Fees) <;> cases (l[k].Fees == l[p].Fees) <;> cases decide (l[p].Count < l[k].Count) <;> simp
      rcases hcase with h1 | ⟨h1, h2⟩ | ⟨h1, h2, h3⟩ | ⟨h1, h2, h3⟩
      · have hD : l[p].Fees < l[k].Fees ∨ (l[k].Fees = l[p].Fees ∧ l[p].Count < l[k].Count) := .inl (by simpa using h1)
        have HD := Lib.hid hD
        clear hD
        go_wp2_with fail
        go_quiet (fail)
        go_wp2_with fail
        go_roundw
        case rel => exact ⟨k + 1, k, by omega, by go_num, rfl, HG.out.new hlt hp HD.out, by (repeat' first | exact Below.refl _ _ | assumption | refine Below.setCell ?_ (by first | omega | (simp; omega) | (simp; done)) _ | refine Below.alloc ?_ (by first | omega | (simp; omega) | (simp; done)) _ | refine Below.drew ?_ | refine below_drewN ?_ _ | refine Below.trans ?_ (Below.mono (by assumption) (by first | omega | (simp; omega) | (simp; done))))⟩
        case measure => simp [intOf]; omega
      · have hD : ¬ (l[p].Fees < l[k].Fees ∨ (l[k].Fees = l[p].Fees ∧ l[p].Count < l[k].Count)) := by simp at h1 h2; omega
        have HD := Lib.hid hD
        clear hD
        go_wp2_with fail
        go_quiet (fail)
        go_wp2_with fail
        go_roundw
        case rel => exact ⟨k + 1, p, by omega, by go_num, rfl, HG.out.old hlt hp HD.out, by (repeat' first | exact Below.refl _ _ | assumption | refine Below.setCell ?_ (by first | omega | (simp; omega) | (simp; done)) _ | refine Below.alloc ?_ (by first | omega | (simp; omega) | (simp; done)) _ | refine Below.drew ?_ | refine below_drewN ?_ _ | refine Below.trans ?_ (Below.mono (by assumption) (by first | omega | (simp; omega) | (simp; done))))⟩
        case measure => simp [intOf]; omega
      · have hD : l[p].Fees < l[k].Fees ∨ (l[k].Fees = l[p].Fees ∧ l[p].Count < l[k].Count) := .inr ⟨by simpa using h2, by simpa using h3⟩
        have HD := Lib.hid hD
        clear hD
        go_wp2_with fail
        go_quiet (fail)
        go_wp2_with fail
        go_roundw
        case rel => exact ⟨k + 1, k, by omega, by go_num, rfl, HG.out.new hlt hp HD.out, by (repeat' first | exact Below.refl _ _ | assumption | refine Below.setCell ?_ (by first | omega | (simp; omega) | (simp; done)) _ | refine Below.alloc ?_ (by first | omega | (simp; omega) | (simp; done)) _ | refine Below.drew ?_ | refine below_drewN ?_ _ | refine Below.trans ?_ (Below.mono (by assumption) (by first | omega | (simp; omega) | (simp; done))))⟩
        case measure => simp [intOf]; omega
      · have hD : ¬ (l[p].Fees < l[k].Fees ∨ (l[k].Fees = l[p].Fees ∧ l[p].Count < l[k].Count)) := by simp at h1 h2 h3; omega
        have HD := Lib.hid hD
        clear hD
        go_wp2_with fail
        go_quiet (fail)
        go_wp2_with fail
        go_roundw
        case rel => exact ⟨k + 1, p, by omega, by go_num, rfl, HG.out.old hlt hp HD.out, by (repeat' first | exact Below.refl _ _ | assumption | refine Below.setCell ?_ (by first | omega | (simp; omega) | (simp; done)) _ | refine Below.alloc ?_ (by first | omega | (simp; omega) | (simp; done)) _ | refine Below.drew ?_ | refine below_drewN ?_ _ | refine Below.trans ?_ (Below.mono (by assumption) (by first | omega | (simp; omega) | (simp; done))))⟩
        case measure => simp [intOf]; omega
    · obtain rfl : k = l.length := by omega
      by_cases h0 : l.length = 0
      · have hl0 : l = [] := List.eq_nil_of_length_eq_zero h0
        subst hl0
        go_wp2
        go_ret
        exact ⟨rfl, hbw⟩
      · have hp : p < l.length := by rcases HG.out with ⟨_, _⟩ | ⟨_, _, _⟩ <;> omega
        obtain ⟨b', off', rfl, _, d0, d1, d2, d3⟩ := Gain.rd (HR.out.below hbw) hp
        have i1 : (0 : Int) ≤ (p : Int) := by omega
        have i2 : (p : Int) < (l.length : Int) := by omega
        have i3 : ((l.length : Int) == 0) = false := by rw [beq_eq_false_iff_ne]; omega
        go_wp2
        go_ret
        refine ⟨ret_int ?_, hbw⟩
        rcases HG.out with ⟨_, _⟩ | ⟨_, _, h3⟩
        · omega
        · rw [List.getElem?_eq_getElem hp, List.take_length] at h3
          injection h3 with h3
          rw [h3]
end Go.Proofs.Ytcflmmljmjcdaaa
