/- Books: the laws' own helpers. -/
import Derived.Test.YtcjbjpobpefehaaGreatDoorRows
import Derived.Test.YtcjbjpobpefehaaGreatDoorM1
import Derived.StillTailTactics
namespace Go.Proofs.YtcjbjpobpefehaaGreatDoor
open Go.RowKit

structure Chan where
  Id : Int
  Size : Int
  Local : Int
  Remote : Int
  Base : Int
  Ppm : Int
  Score : Int
def Chan.cells (d : Chan) : List Value := [.int .i64 d.Id, .int .i64 d.Size, .int .i64 d.Local, .int .i64 d.Remote, .int .i64 d.Base, .int .i64 d.Ppm, .int .i64 d.Score]
theorem Chan.uni (l : List Chan) : ∀ r ∈ l.map Chan.cells, r.length = 7 := by
  intro r hr
  obtain ⟨d, _, rfl⟩ := List.mem_map.1 hr
  rfl
theorem Chan.of_flat {cs : List Value} (h0 : flat [true, true, true, true, true, true, true] cs) : ∃ d : Chan, cs = d.cells ∧ True := by
  obtain ⟨a0, cs0, e0, h1⟩ := flat_i h0
  obtain ⟨a1, cs1, e1, h2⟩ := flat_i h1
  obtain ⟨a2, cs2, e2, h3⟩ := flat_i h2
  obtain ⟨a3, cs3, e3, h4⟩ := flat_i h3
  obtain ⟨a4, cs4, e4, h5⟩ := flat_i h4
  obtain ⟨a5, cs5, e5, h6⟩ := flat_i h5
  obtain ⟨a6, cs6, e6, h7⟩ := flat_i h6
  have e7 := flat_nil h7
  subst e0 e1 e2 e3 e4 e5 e6 e7
  exact ⟨⟨a0, a1, a2, a3, a4, a5, a6⟩, rfl, trivial⟩
theorem Chan.rd {w : World} {B : Nat} {A : Option Addr} {l : List Chan} (h : Rd w B 7 A (l.map Chan.cells)) {k : Nat} (hk : k < l.length) :
    ∃ b off, A = some ⟨b, off, none⟩ ∧ b < B ∧ w.cell? ⟨b, off + k * 7, none⟩ = some (.int .i64 l[k].Id) ∧ w.cell? ⟨b, off + k * 7 + 1, none⟩ = some (.int .i64 l[k].Size) ∧ w.cell? ⟨b, off + k * 7 + 2, none⟩ = some (.int .i64 l[k].Local) ∧ w.cell? ⟨b, off + k * 7 + 3, none⟩ = some (.int .i64 l[k].Remote) ∧ w.cell? ⟨b, off + k * 7 + 4, none⟩ = some (.int .i64 l[k].Base) ∧ w.cell? ⟨b, off + k * 7 + 5, none⟩ = some (.int .i64 l[k].Ppm) ∧ w.cell? ⟨b, off + k * 7 + 6, none⟩ = some (.int .i64 l[k].Score) := by
  obtain ⟨b, off, e, hb, hc⟩ := h.2 (by rw [List.length_map]; omega)
  have hk' : (l.map Chan.cells)[k]? = some l[k].cells := by rw [List.getElem?_map, List.getElem?_eq_getElem hk]; rfl
  exact ⟨b, off, e, hb, hc k _ 0 _ hk' rfl, hc k _ 1 _ hk' rfl, hc k _ 2 _ hk' rfl, hc k _ 3 _ hk' rfl, hc k _ 4 _ hk' rfl, hc k _ 5 _ hk' rfl, hc k _ 6 _ hk' rfl⟩
theorem Chan.fl (l : List Chan) {k : Nat} (hk : k < l.length) : (l.map Chan.cells).flatten[k * 7]? = some (.int .i64 l[k].Id) ∧ (l.map Chan.cells).flatten[k * 7 + 1]? = some (.int .i64 l[k].Size) ∧ (l.map Chan.cells).flatten[k * 7 + 2]? = some (.int .i64 l[k].Local) ∧ (l.map Chan.cells).flatten[k * 7 + 3]? = some (.int .i64 l[k].Remote) ∧ (l.map Chan.cells).flatten[k * 7 + 4]? = some (.int .i64 l[k].Base) ∧ (l.map Chan.cells).flatten[k * 7 + 5]? = some (.int .i64 l[k].Ppm) ∧ (l.map Chan.cells).flatten[k * 7 + 6]? = some (.int .i64 l[k].Score) := by
  have hk' : (l.map Chan.cells)[k]? = some l[k].cells := by rw [List.getElem?_map, List.getElem?_eq_getElem hk]; rfl
  exact ⟨flatten_get _ 7 (Chan.uni l) k 0 _ hk' (by omega), flatten_get _ 7 (Chan.uni l) k 1 _ hk' (by omega), flatten_get _ 7 (Chan.uni l) k 2 _ hk' (by omega), flatten_get _ 7 (Chan.uni l) k 3 _ hk' (by omega), flatten_get _ 7 (Chan.uni l) k 4 _ hk' (by omega), flatten_get _ 7 (Chan.uni l) k 5 _ hk' (by omega), flatten_get _ 7 (Chan.uni l) k 6 _ hk' (by omega)⟩
theorem l_eqChan (x0 : Int) (x1 : Int) (x2 : Int) (x3 : Int) (x4 : Int) (x5 : Int) (x6 : Int) (w : World) :
    Calls Tryz.prog 62 #[.agg #[.int .i64 x0, .int .i64 x1, .int .i64 x2, .int .i64 x3, .int .i64 x4, .int .i64 x5, .int .i64 x6], .agg #[.int .i64 x0, .int .i64 x1, .int .i64 x2, .int .i64 x3, .int .i64 x4, .int .i64 x5, .int .i64 x6]] w fun e w' => e = .returned (.bool true) ∧ Below w.heap.size w w' := by
  go_enter Tryz.func62, Tryz.ntmps62
  go_wp2
  go_ret
  refine ⟨rfl, ?_⟩
  (first | ((repeat' first | (with_reducible (first | exact Below.refl _ _ | assumption | refine Below.setCell ?_ ?_ _ | refine Below.alloc ?_ ?_ _ | refine Below.drew ?_ | refine below_drewN ?_ _ | refine Below.trans ?_ (Below.mono (by assumption) ?_))) | omega | (simp; omega) | (simp; done)); done) | (repeat' first | exact Below.refl _ _ | assumption | refine Below.setCell ?_ (by first | omega | (simp; omega) | (simp; done)) _ | refine Below.alloc ?_ (by first | omega | (simp; omega) | (simp; done)) _ | refine Below.drew ?_ | refine below_drewN ?_ _ | refine Below.trans ?_ (Below.mono (by assumption) (by first | omega | (simp; omega) | (simp; done)))))
set_option maxRecDepth 100000 in
set_option maxHeartbeats 1000000 in
theorem l_eqChanS (l : List Chan) (A1 A2 : Option Addr) (cap1 cap2 : Nat) (w : World) (hl : l.length ≤ 1048576) (hr1 : Rd w w.heap.size 7 A1 (l.map Chan.cells)) (hr2 : Rd w w.heap.size 7 A2 (l.map Chan.cells)) :
    Calls Tryz.prog 32 #[.slice A1 l.length cap1, .slice A2 l.length cap2] w fun e w' => e = .returned (.bool true) ∧ Below w.heap.size w w' := by
  go_enter Tryz.func32, Tryz.ntmps32
  go_wp2_with fail
  go_loopw [5] (fun i wr => ∃ k : Nat, k ≤ l.length ∧ i = .int .i64 k ∧ Below w.heap.size w wr) (fun i _ => l.length - (intOf i).toNat)
  case atStart => exact ⟨0, Nat.zero_le _, rfl, Below.refl _ _⟩
  case round =>
    obtain ⟨k, hk, rfl, hbw⟩ := hrel
    have hbz := hbw.size
    by_cases hlt : k < l.length
    · obtain ⟨b, off, rfl, hbB, c0, c1, c2, c3, c4, c5, c6⟩ := Chan.rd (hr1.below hbw) hlt
      obtain ⟨b', off', rfl, hbB', d0, d1, d2, d3, d4, d5, d6⟩ := Chan.rd (hr2.below hbw) hlt
      clear hr1 hr2
      go_wp2_with fail
      go_still_tail 8, (by kernel_rfl)
      change wpList _ _ _ _ _ wr.drew
      go_wp2_with fail
      refine (l_eqChan _ _ _ _ _ _ _ _).mono ?_
      rintro e w1 ⟨rfl, hb1⟩
      go_wp2_with fail
      go_roundw
      case rel => exact ⟨k + 1, by omega, by go_num, by (first | ((repeat' first | (with_reducible (first | exact Below.refl _ _ | assumption | refine Below.setCell ?_ ?_ _ | refine Below.alloc ?_ ?_ _ | refine Below.drew ?_ | refine below_drewN ?_ _ | refine Below.trans ?_ (Below.mono (by assumption) ?_))) | omega | (simp; omega) | (simp; done)); done) | (repeat' first | exact Below.refl _ _ | assumption | refine Below.setCell ?_ (by first | omega | (simp; omega) | (simp; done)) _ | refine Below.alloc ?_ (by first | omega | (simp; omega) | (simp; done)) _ | refine Below.drew ?_ | refine below_drewN ?_ _ | refine Below.trans ?_ (Below.mono (by assumption) (by first | omega | (simp; omega) | (simp; done)))))⟩
      case measure => simp [intOf]; omega
    · obtain rfl : k = l.length := by omega
      clear hr1 hr2
      go_wp2
      go_ret
      exact ⟨rfl, hbw⟩
structure Htlc where
  Key : Int
  In : Int
  Out : Int
  AmtIn : Int
  AmtOut : Int
  Kept : Bool
  Age : Int
def Htlc.cells (d : Htlc) : List Value := [.int .i64 d.Key, .int .i64 d.In, .int .i64 d.Out, .int .i64 d.AmtIn, .int .i64 d.AmtOut, .bool d.Kept, .int .i64 d.Age]
theorem Htlc.uni (l : List Htlc) : ∀ r ∈ l.map Htlc.cells, r.length = 7 := by
  intro r hr
  obtain ⟨d, _, rfl⟩ := List.mem_map.1 hr
  rfl
theorem Htlc.of_flat {cs : List Value} (h0 : flat [true, true, true, true, true, false, true] cs) : ∃ d : Htlc, cs = d.cells ∧ True := by
  obtain ⟨a0, cs0, e0, h1⟩ := flat_i h0
  obtain ⟨a1, cs1, e1, h2⟩ := flat_i h1
  obtain ⟨a2, cs2, e2, h3⟩ := flat_i h2
  obtain ⟨a3, cs3, e3, h4⟩ := flat_i h3
  obtain ⟨a4, cs4, e4, h5⟩ := flat_i h4
  obtain ⟨a5, cs5, e5, h6⟩ := flat_b h5
  obtain ⟨a6, cs6, e6, h7⟩ := flat_i h6
  have e7 := flat_nil h7
  subst e0 e1 e2 e3 e4 e5 e6 e7
  exact ⟨⟨a0, a1, a2, a3, a4, a5, a6⟩, rfl, trivial⟩
theorem Htlc.rd {w : World} {B : Nat} {A : Option Addr} {l : List Htlc} (h : Rd w B 7 A (l.map Htlc.cells)) {k : Nat} (hk : k < l.length) :
    ∃ b off, A = some ⟨b, off, none⟩ ∧ b < B ∧ w.cell? ⟨b, off + k * 7, none⟩ = some (.int .i64 l[k].Key) ∧ w.cell? ⟨b, off + k * 7 + 1, none⟩ = some (.int .i64 l[k].In) ∧ w.cell? ⟨b, off + k * 7 + 2, none⟩ = some (.int .i64 l[k].Out) ∧ w.cell? ⟨b, off + k * 7 + 3, none⟩ = some (.int .i64 l[k].AmtIn) ∧ w.cell? ⟨b, off + k * 7 + 4, none⟩ = some (.int .i64 l[k].AmtOut) ∧ w.cell? ⟨b, off + k * 7 + 5, none⟩ = some (.bool l[k].Kept) ∧ w.cell? ⟨b, off + k * 7 + 6, none⟩ = some (.int .i64 l[k].Age) := by
  obtain ⟨b, off, e, hb, hc⟩ := h.2 (by rw [List.length_map]; omega)
  have hk' : (l.map Htlc.cells)[k]? = some l[k].cells := by rw [List.getElem?_map, List.getElem?_eq_getElem hk]; rfl
  exact ⟨b, off, e, hb, hc k _ 0 _ hk' rfl, hc k _ 1 _ hk' rfl, hc k _ 2 _ hk' rfl, hc k _ 3 _ hk' rfl, hc k _ 4 _ hk' rfl, hc k _ 5 _ hk' rfl, hc k _ 6 _ hk' rfl⟩
theorem Htlc.fl (l : List Htlc) {k : Nat} (hk : k < l.length) : (l.map Htlc.cells).flatten[k * 7]? = some (.int .i64 l[k].Key) ∧ (l.map Htlc.cells).flatten[k * 7 + 1]? = some (.int .i64 l[k].In) ∧ (l.map Htlc.cells).flatten[k * 7 + 2]? = some (.int .i64 l[k].Out) ∧ (l.map Htlc.cells).flatten[k * 7 + 3]? = some (.int .i64 l[k].AmtIn) ∧ (l.map Htlc.cells).flatten[k * 7 + 4]? = some (.int .i64 l[k].AmtOut) ∧ (l.map Htlc.cells).flatten[k * 7 + 5]? = some (.bool l[k].Kept) ∧ (l.map Htlc.cells).flatten[k * 7 + 6]? = some (.int .i64 l[k].Age) := by
  have hk' : (l.map Htlc.cells)[k]? = some l[k].cells := by rw [List.getElem?_map, List.getElem?_eq_getElem hk]; rfl
  exact ⟨flatten_get _ 7 (Htlc.uni l) k 0 _ hk' (by omega), flatten_get _ 7 (Htlc.uni l) k 1 _ hk' (by omega), flatten_get _ 7 (Htlc.uni l) k 2 _ hk' (by omega), flatten_get _ 7 (Htlc.uni l) k 3 _ hk' (by omega), flatten_get _ 7 (Htlc.uni l) k 4 _ hk' (by omega), flatten_get _ 7 (Htlc.uni l) k 5 _ hk' (by omega), flatten_get _ 7 (Htlc.uni l) k 6 _ hk' (by omega)⟩
theorem l_eqHtlc (x0 : Int) (x1 : Int) (x2 : Int) (x3 : Int) (x4 : Int) (x5 : Bool) (x6 : Int) (w : World) :
    Calls Tryz.prog 63 #[.agg #[.int .i64 x0, .int .i64 x1, .int .i64 x2, .int .i64 x3, .int .i64 x4, .bool x5, .int .i64 x6], .agg #[.int .i64 x0, .int .i64 x1, .int .i64 x2, .int .i64 x3, .int .i64 x4, .bool x5, .int .i64 x6]] w fun e w' => e = .returned (.bool true) ∧ Below w.heap.size w w' := by
  go_enter Tryz.func63, Tryz.ntmps63
  go_wp2
  go_ret
  refine ⟨rfl, ?_⟩
  (first | ((repeat' first | (with_reducible (first | exact Below.refl _ _ | assumption | refine Below.setCell ?_ ?_ _ | refine Below.alloc ?_ ?_ _ | refine Below.drew ?_ | refine below_drewN ?_ _ | refine Below.trans ?_ (Below.mono (by assumption) ?_))) | omega | (simp; omega) | (simp; done)); done) | (repeat' first | exact Below.refl _ _ | assumption | refine Below.setCell ?_ (by first | omega | (simp; omega) | (simp; done)) _ | refine Below.alloc ?_ (by first | omega | (simp; omega) | (simp; done)) _ | refine Below.drew ?_ | refine below_drewN ?_ _ | refine Below.trans ?_ (Below.mono (by assumption) (by first | omega | (simp; omega) | (simp; done)))))
set_option maxRecDepth 100000 in
set_option maxHeartbeats 1000000 in
theorem l_eqHtlcS (l : List Htlc) (A1 A2 : Option Addr) (cap1 cap2 : Nat) (w : World) (hl : l.length ≤ 1048576) (hr1 : Rd w w.heap.size 7 A1 (l.map Htlc.cells)) (hr2 : Rd w w.heap.size 7 A2 (l.map Htlc.cells)) :
    Calls Tryz.prog 33 #[.slice A1 l.length cap1, .slice A2 l.length cap2] w fun e w' => e = .returned (.bool true) ∧ Below w.heap.size w w' := by
  go_enter Tryz.func33, Tryz.ntmps33
  go_wp2_with fail
  go_loopw [5] (fun i wr => ∃ k : Nat, k ≤ l.length ∧ i = .int .i64 k ∧ Below w.heap.size w wr) (fun i _ => l.length - (intOf i).toNat)
  case atStart => exact ⟨0, Nat.zero_le _, rfl, Below.refl _ _⟩
  case round =>
    obtain ⟨k, hk, rfl, hbw⟩ := hrel
    have hbz := hbw.size
    by_cases hlt : k < l.length
    · obtain ⟨b, off, rfl, hbB, c0, c1, c2, c3, c4, c5, c6⟩ := Htlc.rd (hr1.below hbw) hlt
      obtain ⟨b', off', rfl, hbB', d0, d1, d2, d3, d4, d5, d6⟩ := Htlc.rd (hr2.below hbw) hlt
      clear hr1 hr2
      go_wp2_with fail
      go_still_tail 8, (by kernel_rfl)
      change wpList _ _ _ _ _ wr.drew
      go_wp2_with fail
      refine (l_eqHtlc _ _ _ _ _ _ _ _).mono ?_
      rintro e w1 ⟨rfl, hb1⟩
      go_wp2_with fail
      go_roundw
      case rel => exact ⟨k + 1, by omega, by go_num, by (first | ((repeat' first | (with_reducible (first | exact Below.refl _ _ | assumption | refine Below.setCell ?_ ?_ _ | refine Below.alloc ?_ ?_ _ | refine Below.drew ?_ | refine below_drewN ?_ _ | refine Below.trans ?_ (Below.mono (by assumption) ?_))) | omega | (simp; omega) | (simp; done)); done) | (repeat' first | exact Below.refl _ _ | assumption | refine Below.setCell ?_ (by first | omega | (simp; omega) | (simp; done)) _ | refine Below.alloc ?_ (by first | omega | (simp; omega) | (simp; done)) _ | refine Below.drew ?_ | refine below_drewN ?_ _ | refine Below.trans ?_ (Below.mono (by assumption) (by first | omega | (simp; omega) | (simp; done)))))⟩
      case measure => simp [intOf]; omega
    · obtain rfl : k = l.length := by omega
      clear hr1 hr2
      go_wp2
      go_ret
      exact ⟨rfl, hbw⟩
structure Circle where
  Key : Int
  From : Int
  To : Int
  Amt : Int
  Fee : Int
def Circle.cells (d : Circle) : List Value := [.int .i64 d.Key, .int .i64 d.From, .int .i64 d.To, .int .i64 d.Amt, .int .i64 d.Fee]
theorem Circle.uni (l : List Circle) : ∀ r ∈ l.map Circle.cells, r.length = 5 := by
  intro r hr
  obtain ⟨d, _, rfl⟩ := List.mem_map.1 hr
  rfl
theorem Circle.of_flat {cs : List Value} (h0 : flat [true, true, true, true, true] cs) : ∃ d : Circle, cs = d.cells ∧ True := by
  obtain ⟨a0, cs0, e0, h1⟩ := flat_i h0
  obtain ⟨a1, cs1, e1, h2⟩ := flat_i h1
  obtain ⟨a2, cs2, e2, h3⟩ := flat_i h2
  obtain ⟨a3, cs3, e3, h4⟩ := flat_i h3
  obtain ⟨a4, cs4, e4, h5⟩ := flat_i h4
  have e5 := flat_nil h5
  subst e0 e1 e2 e3 e4 e5
  exact ⟨⟨a0, a1, a2, a3, a4⟩, rfl, trivial⟩
theorem Circle.rd {w : World} {B : Nat} {A : Option Addr} {l : List Circle} (h : Rd w B 5 A (l.map Circle.cells)) {k : Nat} (hk : k < l.length) :
    ∃ b off, A = some ⟨b, off, none⟩ ∧ b < B ∧ w.cell? ⟨b, off + k * 5, none⟩ = some (.int .i64 l[k].Key) ∧ w.cell? ⟨b, off + k * 5 + 1, none⟩ = some (.int .i64 l[k].From) ∧ w.cell? ⟨b, off + k * 5 + 2, none⟩ = some (.int .i64 l[k].To) ∧ w.cell? ⟨b, off + k * 5 + 3, none⟩ = some (.int .i64 l[k].Amt) ∧ w.cell? ⟨b, off + k * 5 + 4, none⟩ = some (.int .i64 l[k].Fee) := by
  obtain ⟨b, off, e, hb, hc⟩ := h.2 (by rw [List.length_map]; omega)
  have hk' : (l.map Circle.cells)[k]? = some l[k].cells := by rw [List.getElem?_map, List.getElem?_eq_getElem hk]; rfl
  exact ⟨b, off, e, hb, hc k _ 0 _ hk' rfl, hc k _ 1 _ hk' rfl, hc k _ 2 _ hk' rfl, hc k _ 3 _ hk' rfl, hc k _ 4 _ hk' rfl⟩
theorem Circle.fl (l : List Circle) {k : Nat} (hk : k < l.length) : (l.map Circle.cells).flatten[k * 5]? = some (.int .i64 l[k].Key) ∧ (l.map Circle.cells).flatten[k * 5 + 1]? = some (.int .i64 l[k].From) ∧ (l.map Circle.cells).flatten[k * 5 + 2]? = some (.int .i64 l[k].To) ∧ (l.map Circle.cells).flatten[k * 5 + 3]? = some (.int .i64 l[k].Amt) ∧ (l.map Circle.cells).flatten[k * 5 + 4]? = some (.int .i64 l[k].Fee) := by
  have hk' : (l.map Circle.cells)[k]? = some l[k].cells := by rw [List.getElem?_map, List.getElem?_eq_getElem hk]; rfl
  exact ⟨flatten_get _ 5 (Circle.uni l) k 0 _ hk' (by omega), flatten_get _ 5 (Circle.uni l) k 1 _ hk' (by omega), flatten_get _ 5 (Circle.uni l) k 2 _ hk' (by omega), flatten_get _ 5 (Circle.uni l) k 3 _ hk' (by omega), flatten_get _ 5 (Circle.uni l) k 4 _ hk' (by omega)⟩
theorem l_eqCircle (x0 : Int) (x1 : Int) (x2 : Int) (x3 : Int) (x4 : Int) (w : World) :
    Calls Tryz.prog 64 #[.agg #[.int .i64 x0, .int .i64 x1, .int .i64 x2, .int .i64 x3, .int .i64 x4], .agg #[.int .i64 x0, .int .i64 x1, .int .i64 x2, .int .i64 x3, .int .i64 x4]] w fun e w' => e = .returned (.bool true) ∧ Below w.heap.size w w' := by
  go_enter Tryz.func64, Tryz.ntmps64
  go_wp2
  go_ret
  refine ⟨rfl, ?_⟩
  (first | ((repeat' first | (with_reducible (first | exact Below.refl _ _ | assumption | refine Below.setCell ?_ ?_ _ | refine Below.alloc ?_ ?_ _ | refine Below.drew ?_ | refine below_drewN ?_ _ | refine Below.trans ?_ (Below.mono (by assumption) ?_))) | omega | (simp; omega) | (simp; done)); done) | (repeat' first | exact Below.refl _ _ | assumption | refine Below.setCell ?_ (by first | omega | (simp; omega) | (simp; done)) _ | refine Below.alloc ?_ (by first | omega | (simp; omega) | (simp; done)) _ | refine Below.drew ?_ | refine below_drewN ?_ _ | refine Below.trans ?_ (Below.mono (by assumption) (by first | omega | (simp; omega) | (simp; done)))))
set_option maxRecDepth 100000 in
set_option maxHeartbeats 1000000 in
theorem l_eqCircleS (l : List Circle) (A1 A2 : Option Addr) (cap1 cap2 : Nat) (w : World) (hl : l.length ≤ 1048576) (hr1 : Rd w w.heap.size 5 A1 (l.map Circle.cells)) (hr2 : Rd w w.heap.size 5 A2 (l.map Circle.cells)) :
    Calls Tryz.prog 34 #[.slice A1 l.length cap1, .slice A2 l.length cap2] w fun e w' => e = .returned (.bool true) ∧ Below w.heap.size w w' := by
  go_enter Tryz.func34, Tryz.ntmps34
  go_wp2_with fail
  go_loopw [5] (fun i wr => ∃ k : Nat, k ≤ l.length ∧ i = .int .i64 k ∧ Below w.heap.size w wr) (fun i _ => l.length - (intOf i).toNat)
  case atStart => exact ⟨0, Nat.zero_le _, rfl, Below.refl _ _⟩
  case round =>
    obtain ⟨k, hk, rfl, hbw⟩ := hrel
    have hbz := hbw.size
    by_cases hlt : k < l.length
    · obtain ⟨b, off, rfl, hbB, c0, c1, c2, c3, c4⟩ := Circle.rd (hr1.below hbw) hlt
      obtain ⟨b', off', rfl, hbB', d0, d1, d2, d3, d4⟩ := Circle.rd (hr2.below hbw) hlt
      clear hr1 hr2
      go_wp2_with fail
      go_still_tail 8, (by kernel_rfl)
      change wpList _ _ _ _ _ wr.drew
      go_wp2_with fail
      refine (l_eqCircle _ _ _ _ _ _).mono ?_
      rintro e w1 ⟨rfl, hb1⟩
      go_wp2_with fail
      go_roundw
      case rel => exact ⟨k + 1, by omega, by go_num, by (first | ((repeat' first | (with_reducible (first | exact Below.refl _ _ | assumption | refine Below.setCell ?_ ?_ _ | refine Below.alloc ?_ ?_ _ | refine Below.drew ?_ | refine below_drewN ?_ _ | refine Below.trans ?_ (Below.mono (by assumption) ?_))) | omega | (simp; omega) | (simp; done)); done) | (repeat' first | exact Below.refl _ _ | assumption | refine Below.setCell ?_ (by first | omega | (simp; omega) | (simp; done)) _ | refine Below.alloc ?_ (by first | omega | (simp; omega) | (simp; done)) _ | refine Below.drew ?_ | refine below_drewN ?_ _ | refine Below.trans ?_ (Below.mono (by assumption) (by first | omega | (simp; omega) | (simp; done)))))⟩
      case measure => simp [intOf]; omega
    · obtain rfl : k = l.length := by omega
      clear hr1 hr2
      go_wp2
      go_ret
      exact ⟨rfl, hbw⟩
structure RdBook (w : World) (B : Nat) (A1 : Option Addr) (cs : List Chan) (A2 : Option Addr) (hs : List Htlc) (A3 : Option Addr) (os : List Circle) : Prop where
  c : Rd w B 7 A1 (cs.map Chan.cells)
  h : Rd w B 7 A2 (hs.map Htlc.cells)
  o : Rd w B 5 A3 (os.map Circle.cells)
section
variable {w w' : World} {B B' : Nat} {A1 A2 A3 : Option Addr} {cs : List Chan} {hs : List Htlc} {os : List Circle}
theorem RdBook.below (h : RdBook w B A1 cs A2 hs A3 os) (hb : Below B w w') : RdBook w' B A1 cs A2 hs A3 os := ⟨h.c.below hb, h.h.below hb, h.o.below hb⟩
theorem RdBook.more (h : RdBook w B A1 cs A2 hs A3 os) (hB : B ≤ B') : RdBook w B' A1 cs A2 hs A3 os := ⟨h.c.more hB, h.h.more hB, h.o.more hB⟩
end
end Go.Proofs.YtcjbjpobpefehaaGreatDoor
