/- Books: Sweep: what it gives; the events' family. -/
import Derived.Test.YtmafdoloidlfeaaRows
import Derived.Test.YtmafdoloidlfeaaBookG0
import Derived.StillTailTactics
namespace Go.Proofs.Ytmafdoloidlfeaa
open Go.RowKit

structure Event where
  Kind : Int
  Key : Int
  Ch : Int
  To : Int
  Amt : Int
  Fee : Int
  Yes : Bool
def Event.cells (d : Event) : List Value := [.int .i64 d.Kind, .int .i64 d.Key, .int .i64 d.Ch, .int .i64 d.To, .int .i64 d.Amt, .int .i64 d.Fee, .bool d.Yes]
theorem Event.uni (l : List Event) : ∀ r ∈ l.map Event.cells, r.length = 7 := by
  intro r hr
  obtain ⟨d, _, rfl⟩ := List.mem_map.1 hr
  rfl
theorem Event.of_flat {cs : List Value} (h0 : flat [true, true, true, true, true, true, false] cs) : ∃ d : Event, cs = d.cells ∧ True := by
  obtain ⟨a0, cs0, e0, h1⟩ := flat_i h0
  obtain ⟨a1, cs1, e1, h2⟩ := flat_i h1
  obtain ⟨a2, cs2, e2, h3⟩ := flat_i h2
  obtain ⟨a3, cs3, e3, h4⟩ := flat_i h3
  obtain ⟨a4, cs4, e4, h5⟩ := flat_i h4
  obtain ⟨a5, cs5, e5, h6⟩ := flat_i h5
  obtain ⟨a6, cs6, e6, h7⟩ := flat_b h6
  have e7 := flat_nil h7
  subst e0 e1 e2 e3 e4 e5 e6 e7
  exact ⟨⟨a0, a1, a2, a3, a4, a5, a6⟩, rfl, trivial⟩
theorem Event.rd {w : World} {B : Nat} {A : Option Addr} {l : List Event} (h : Rd w B 7 A (l.map Event.cells)) {k : Nat} (hk : k < l.length) :
    ∃ b off, A = some ⟨b, off, none⟩ ∧ b < B ∧ w.cell? ⟨b, off + k * 7, none⟩ = some (.int .i64 l[k].Kind) ∧ w.cell? ⟨b, off + k * 7 + 1, none⟩ = some (.int .i64 l[k].Key) ∧ w.cell? ⟨b, off + k * 7 + 2, none⟩ = some (.int .i64 l[k].Ch) ∧ w.cell? ⟨b, off + k * 7 + 3, none⟩ = some (.int .i64 l[k].To) ∧ w.cell? ⟨b, off + k * 7 + 4, none⟩ = some (.int .i64 l[k].Amt) ∧ w.cell? ⟨b, off + k * 7 + 5, none⟩ = some (.int .i64 l[k].Fee) ∧ w.cell? ⟨b, off + k * 7 + 6, none⟩ = some (.bool l[k].Yes) := by
  obtain ⟨b, off, e, hb, hc⟩ := h.2 (by rw [List.length_map]; omega)
  have hk' : (l.map Event.cells)[k]? = some l[k].cells := by rw [List.getElem?_map, List.getElem?_eq_getElem hk]; rfl
  exact ⟨b, off, e, hb, hc k _ 0 _ hk' rfl, hc k _ 1 _ hk' rfl, hc k _ 2 _ hk' rfl, hc k _ 3 _ hk' rfl, hc k _ 4 _ hk' rfl, hc k _ 5 _ hk' rfl, hc k _ 6 _ hk' rfl⟩
theorem Event.fl (l : List Event) {k : Nat} (hk : k < l.length) : (l.map Event.cells).flatten[k * 7]? = some (.int .i64 l[k].Kind) ∧ (l.map Event.cells).flatten[k * 7 + 1]? = some (.int .i64 l[k].Key) ∧ (l.map Event.cells).flatten[k * 7 + 2]? = some (.int .i64 l[k].Ch) ∧ (l.map Event.cells).flatten[k * 7 + 3]? = some (.int .i64 l[k].To) ∧ (l.map Event.cells).flatten[k * 7 + 4]? = some (.int .i64 l[k].Amt) ∧ (l.map Event.cells).flatten[k * 7 + 5]? = some (.int .i64 l[k].Fee) ∧ (l.map Event.cells).flatten[k * 7 + 6]? = some (.bool l[k].Yes) := by
  have hk' : (l.map Event.cells)[k]? = some l[k].cells := by rw [List.getElem?_map, List.getElem?_eq_getElem hk]; rfl
  exact ⟨flatten_get _ 7 (Event.uni l) k 0 _ hk' (by omega), flatten_get _ 7 (Event.uni l) k 1 _ hk' (by omega), flatten_get _ 7 (Event.uni l) k 2 _ hk' (by omega), flatten_get _ 7 (Event.uni l) k 3 _ hk' (by omega), flatten_get _ 7 (Event.uni l) k 4 _ hk' (by omega), flatten_get _ 7 (Event.uni l) k 5 _ hk' (by omega), flatten_get _ 7 (Event.uni l) k 6 _ hk' (by omega)⟩
theorem l_eqEvent (x0 : Int) (x1 : Int) (x2 : Int) (x3 : Int) (x4 : Int) (x5 : Int) (x6 : Bool) (w : World) :
    Calls Try.prog 94 #[.agg #[.int .i64 x0, .int .i64 x1, .int .i64 x2, .int .i64 x3, .int .i64 x4, .int .i64 x5, .bool x6], .agg #[.int .i64 x0, .int .i64 x1, .int .i64 x2, .int .i64 x3, .int .i64 x4, .int .i64 x5, .bool x6]] w fun e w' => e = .returned (.bool true) ∧ Below w.heap.size w w' := by
  go_enter Try.func94, Try.ntmps94
  go_wp2
  go_ret
  refine ⟨rfl, ?_⟩
  (first | ((repeat' first | (with_reducible (first | exact Below.refl _ _ | assumption | refine Below.setCell ?_ ?_ _ | refine Below.alloc ?_ ?_ _ | refine Below.drew ?_ | refine below_drewN ?_ _ | refine Below.trans ?_ (Below.mono (by assumption) ?_))) | omega | (simp; omega) | (simp; done)); done) | (repeat' first | exact Below.refl _ _ | assumption | refine Below.setCell ?_ (by first | omega | (simp; omega) | (simp; done)) _ | refine Below.alloc ?_ (by first | omega | (simp; omega) | (simp; done)) _ | refine Below.drew ?_ | refine below_drewN ?_ _ | refine Below.trans ?_ (Below.mono (by assumption) (by first | omega | (simp; omega) | (simp; done)))))
set_option maxRecDepth 100000 in
set_option maxHeartbeats 1000000 in
theorem l_eqEventS (l : List Event) (A1 A2 : Option Addr) (cap1 cap2 : Nat) (w : World) (hl : l.length ≤ 1048576) (hr1 : Rd w w.heap.size 7 A1 (l.map Event.cells)) (hr2 : Rd w w.heap.size 7 A2 (l.map Event.cells)) :
    Calls Try.prog 48 #[.slice A1 l.length cap1, .slice A2 l.length cap2] w fun e w' => e = .returned (.bool true) ∧ Below w.heap.size w w' := by
  go_enter Try.func48, Try.ntmps48
  go_wp2_with fail
  go_loopw [5] (fun i wr => ∃ k : Nat, k ≤ l.length ∧ i = .int .i64 k ∧ Below w.heap.size w wr) (fun i _ => l.length - (intOf i).toNat)
  case atStart => exact ⟨0, Nat.zero_le _, rfl, Below.refl _ _⟩
  case round =>
    obtain ⟨k, hk, rfl, hbw⟩ := hrel
    have hbz := hbw.size
    by_cases hlt : k < l.length
    · obtain ⟨b, off, rfl, hbB, c0, c1, c2, c3, c4, c5, c6⟩ := Event.rd (hr1.below hbw) hlt
      obtain ⟨b', off', rfl, hbB', d0, d1, d2, d3, d4, d5, d6⟩ := Event.rd (hr2.below hbw) hlt
      clear hr1 hr2
      go_wp2_with fail
      go_still_tail 8, (by kernel_rfl)
      change wpList _ _ _ _ _ wr.drew
      go_wp2_with fail
      refine (l_eqEvent _ _ _ _ _ _ _ _).mono ?_
      rintro e w1 ⟨rfl, hb1⟩
      go_wp2_with fail
      go_roundw
      case rel => exact ⟨k + 1, by omega, by go_num, by (first | ((repeat' first | (with_reducible (first | exact Below.refl _ _ | assumption | refine Below.setCell ?_ ?_ _ | refine Below.alloc ?_ ?_ _ | refine Below.drew ?_ | refine below_drewN ?_ _ | refine Below.trans ?_ (Below.mono (by assumption) ?_))) | omega | (simp; omega) | (simp; done)); done) | (repeat' first | exact Below.refl _ _ | assumption | refine Below.setCell ?_ (by first | omega | (simp; omega) | (simp; done)) _ | refine Below.alloc ?_ (by first | omega | (simp; omega) | (simp; done)) _ | refine Below.drew ?_ | refine below_drewN ?_ _ | refine Below.trans ?_ (Below.mono (by assumption) (by first | omega | (simp; omega) | (simp; done)))))⟩
      case measure => simp [intOf]; omega
    · obtain rfl : k = l.length := by omega
      clear hr1 hr2
      go_wp2
      go_ret
      exact ⟨rfl, hbw⟩
def evOf (key : Int) : Event := ⟨7, key, 0, 0, 0, 0, false⟩
def sweepOf (bt bn bw : Int) (cs : List Chan) (hs : List Htlc) (os : List Circle) (age : Int) : List Event := (agedOf bt bn bw cs hs os age).map evOf
theorem sweepOf_len (bt bn bw : Int) (cs : List Chan) (hs : List Htlc) (os : List Circle) (age : Int) : (sweepOf bt bn bw cs hs os age).length ≤ hs.length := by
  unfold sweepOf
  rw [List.length_map]
  exact agedOf_len bt bn bw cs hs os age
/-- Two owned slices of different types do not share their block. -/
theorem Ow.differ {w : World} {B B' n n' : Nat} {e e' : TypeId} {v v' : Value} {rows rows' : List (List Value)} (h : Ow w B e n v rows) (h' : Ow w B' e' n' v' rows') (hne : e ≠ e') : v.ownBlock = none ∨ v.ownBlock ≠ v'.ownBlock := by
  rcases h.2.2 with ⟨rfl, _⟩ | ⟨g, cap, cur, rfl, _, hh, _⟩
  · exact .inl rfl
  · exact .inr (h'.ne_ hh (fun e => hne e.symm))
end Go.Proofs.Ytmafdoloidlfeaa
