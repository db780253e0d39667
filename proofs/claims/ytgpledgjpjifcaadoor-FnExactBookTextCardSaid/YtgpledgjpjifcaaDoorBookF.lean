/- Books: the laws' own helpers. -/
import Derived.Test.YtgpledgjpjifcaaDoorRows
import Derived.Test.YtgpledgjpjifcaaDoorAmt
import Derived.StillTailTactics
namespace Go.Proofs.YtgpledgjpjifcaaDoor
open Go.RowKit

structure Chan where
  Id : Int
  Size : Int
  Local : Int
  Remote : Int
  Base : Int
  Ppm : Int
  Score : Int
def Chan.cells (d : Chan) : List Value := [.int .i64 d.Id, .int .i64 d.Size, .int .i64 d.Local, .int .i64 d.Remote, .int .i64 d.Base, .int .i64 d.Ppm, .int .i64 d.Score]
theorem Chan.uni (l : List Chan) : ∀ r ∈ l.map Chan.cells, r.length = 7 := by
  intro r hr
  obtain ⟨d, _, rfl⟩ := List.mem_map.1 hr
  rfl
theorem Chan.of_flat {cs : List Value} (h0 : flat [true, true, true, true, true, true, true] cs) : ∃ d : Chan, cs = d.cells ∧ True := by
  obtain ⟨a0, cs0, e0, h1⟩ := flat_i h0
  obtain ⟨a1, cs1, e1, h2⟩ := flat_i h1
  obtain ⟨a2, cs2, e2, h3⟩ := flat_i h2
  obtain ⟨a3, cs3, e3, h4⟩ := flat_i h3
  obtain ⟨a4, cs4, e4, h5⟩ := flat_i h4
  obtain ⟨a5, cs5, e5, h6⟩ := flat_i h5
  obtain ⟨a6, cs6, e6, h7⟩ := flat_i h6
  have e7 := flat_nil h7
  subst e0 e1 e2 e3 e4 e5 e6 e7
  exact ⟨⟨a0, a1, a2, a3, a4, a5, a6⟩, rfl, trivial⟩
theorem Chan.rd {w : World} {B : Nat} {A : Option Addr} {l : List Chan} (h : Rd w B 7 A (l.map Chan.cells)) {k : Nat} (hk : k < l.length) :
    ∃ b off, A = some ⟨b, off, none⟩ ∧ b < B ∧ w.cell? ⟨b, off + k * 7, none⟩ = some (.int .i64 l[k].Id) ∧ w.cell? ⟨b, off + k * 7 + 1, none⟩ = some (.int .i64 l[k].Size) ∧ w.cell? ⟨b, off + k * 7 + 2, none⟩ = some (.int .i64 l[k].Local) ∧ w.cell? ⟨b, off + k * 7 + 3, none⟩ = some (.int .i64 l[k].Remote) ∧ w.cell? ⟨b, off + k * 7 + 4, none⟩ = some (.int .i64 l[k].Base) ∧ w.cell? ⟨b, off + k * 7 + 5, none⟩ = some (.int .i64 l[k].Ppm) ∧ w.cell? ⟨b, off + k * 7 + 6, none⟩ = some (.int .i64 l[k].Score) := by
  obtain ⟨b, off, e, hb, hc⟩ := h.2 (by rw [List.length_map]; omega)
  have hk' : (l.map Chan.cells)[k]? = some l[k].cells := by rw [List.getElem?_map, List.getElem?_eq_getElem hk]; rfl
  exact ⟨b, off, e, hb, hc k _ 0 _ hk' rfl, hc k _ 1 _ hk' rfl, hc k _ 2 _ hk' rfl, hc k _ 3 _ hk' rfl, hc k _ 4 _ hk' rfl, hc k _ 5 _ hk' rfl, hc k _ 6 _ hk' rfl⟩
theorem Chan.fl (l : List Chan) {k : Nat} (hk : k < l.length) : (l.map Chan.cells).flatten[k * 7]? = some (.int .i64 l[k].Id) ∧ (l.map Chan.cells).flatten[k * 7 + 1]? = some (.int .i64 l[k].Size) ∧ (l.map Chan.cells).flatten[k * 7 + 2]? = some (.int .i64 l[k].Local) ∧ (l.map Chan.cells).flatten[k * 7 + 3]? = some (.int .i64 l[k].Remote) ∧ (l.map Chan.cells).flatten[k * 7 + 4]? = some (.int .i64 l[k].Base) ∧ (l.map Chan.cells).flatten[k * 7 + 5]? = some (.int .i64 l[k].Ppm) ∧ (l.map Chan.cells).flatten[k * 7 + 6]? = some (.int .i64 l[k].Score) := by
  have hk' : (l.map Chan.cells)[k]? = some l[k].cells := by rw [List.getElem?_map, List.getElem?_eq_getElem hk]; rfl
  exact ⟨flatten_get _ 7 (Chan.uni l) k 0 _ hk' (by omega), flatten_get _ 7 (Chan.uni l) k 1 _ hk' (by omega), flatten_get _ 7 (Chan.uni l) k 2 _ hk' (by omega), flatten_get _ 7 (Chan.uni l) k 3 _ hk' (by omega), flatten_get _ 7 (Chan.uni l) k 4 _ hk' (by omega), flatten_get _ 7 (Chan.uni l) k 5 _ hk' (by omega), flatten_get _ 7 (Chan.uni l) k 6 _ hk' (by omega)⟩
theorem l_toChan (x0 : Int) (x1 : Int) (x2 : Int) (x3 : Int) (x4 : Int) (x5 : Int) (x6 : Int) (w : World) :
    Calls Tryd.prog 99 #[.agg #[.int .i64 x0, .int .i64 x1, .int .i64 x2, .int .i64 x3, .int .i64 x4, .int .i64 x5, .int .i64 x6]] w fun e w' => e = .returned (.agg #[.int .i64 x0, .int .i64 x1, .int .i64 x2, .int .i64 x3, .int .i64 x4, .int .i64 x5, .int .i64 x6]) ∧ Below w.heap.size w w' := by
  go_enter Tryd.func99, Tryd.ntmps99
  go_wp2
  refine bodyPost_ret (v := .agg #[.int .i64 x0, .int .i64 x1, .int .i64 x2, .int .i64 x3, .int .i64 x4, .int .i64 x5, .int .i64 x6]) (by simp [results, Tryd.results99, go_sem]) rfl ⟨rfl, ?_⟩
  (first | ((repeat' first | (with_reducible (first | exact Below.refl _ _ | assumption | refine Below.setCell ?_ ?_ _ | refine Below.alloc ?_ ?_ _ | refine Below.drew ?_ | refine below_drewN ?_ _ | refine Below.trans ?_ (Below.mono (by assumption) ?_))) | omega | (simp; omega) | (simp; done)); done) | (repeat' first | exact Below.refl _ _ | assumption | refine Below.setCell ?_ (by first | omega | (simp; omega) | (simp; done)) _ | refine Below.alloc ?_ (by first | omega | (simp; omega) | (simp; done)) _ | refine Below.drew ?_ | refine below_drewN ?_ _ | refine Below.trans ?_ (Below.mono (by assumption) (by first | omega | (simp; omega) | (simp; done)))))
theorem l_eqChan (x0 : Int) (x1 : Int) (x2 : Int) (x3 : Int) (x4 : Int) (x5 : Int) (x6 : Int) (w : World) :
    Calls Tryd.prog 105 #[.agg #[.int .i64 x0, .int .i64 x1, .int .i64 x2, .int .i64 x3, .int .i64 x4, .int .i64 x5, .int .i64 x6], .agg #[.int .i64 x0, .int .i64 x1, .int .i64 x2, .int .i64 x3, .int .i64 x4, .int .i64 x5, .int .i64 x6]] w fun e w' => e = .returned (.bool true) ∧ Below w.heap.size w w' := by
  go_enter Tryd.func105, Tryd.ntmps105
  go_wp2
  go_ret
  refine ⟨rfl, ?_⟩
  (first | ((repeat' first | (with_reducible (first | exact Below.refl _ _ | assumption | refine Below.setCell ?_ ?_ _ | refine Below.alloc ?_ ?_ _ | refine Below.drew ?_ | refine below_drewN ?_ _ | refine Below.trans ?_ (Below.mono (by assumption) ?_))) | omega | (simp; omega) | (simp; done)); done) | (repeat' first | exact Below.refl _ _ | assumption | refine Below.setCell ?_ (by first | omega | (simp; omega) | (simp; done)) _ | refine Below.alloc ?_ (by first | omega | (simp; omega) | (simp; done)) _ | refine Below.drew ?_ | refine below_drewN ?_ _ | refine Below.trans ?_ (Below.mono (by assumption) (by first | omega | (simp; omega) | (simp; done)))))
theorem l_szChanS_ok (n cap : Nat) (A : Option Addr) (left : Int) (w : World) (h0 : left ≤ 1048576) (h : (n : Int) ≤ left) :
    Calls Tryd.prog 56 #[.slice A n cap, .int .i64 left] w fun e w' => e = .returned (.int .i64 (left - n)) ∧ w = w' := by
  go_enter Tryd.func56, Tryd.ntmps56
  go_wp2
  go_ret
  exact ⟨rfl, rfl⟩
theorem l_szChanS_no (n cap : Nat) (A : Option Addr) (left : Int) (w : World) (h0 : 0 ≤ left) (hm : n ≤ maxLen) (h : left < (n : Int)) :
    Calls Tryd.prog 56 #[.slice A n cap, .int .i64 left] w fun e w' => e = .returned (.int .i64 (-1)) ∧ w = w' := by
  unfold maxLen at hm
  go_enter Tryd.func56, Tryd.ntmps56
  go_wp2
  go_ret
  exact ⟨rfl, rfl⟩
theorem info_Chan : (Tryd.prog.info? 95).map (fun i => (i.zero, i.size, i.bytes)) = some (some (.agg #[.int .i64 0, .int .i64 0, .int .i64 0, .int .i64 0, .int .i64 0, .int .i64 0, .int .i64 0]), 7, 56) := by kernel_rfl
set_option maxHeartbeats 1000000 in
theorem l_toChanS (l : List Chan) (A : Option Addr) (cap : Nat) (w : World) (hl : l.length ≤ 1048576) (hr : Rd w w.heap.size 7 A (l.map Chan.cells)) :
    Calls Tryd.prog 61 #[.slice A l.length cap] w fun e w' => e = .returned (.slice (some ⟨w.heap.size, 0, none⟩) l.length l.length) ∧ Ow w' w.heap.size 95 7 (.slice (some ⟨w.heap.size, 0, none⟩) l.length l.length) (l.map Chan.cells) ∧ Below w.heap.size w w' := by
  obtain ⟨i0, hi, hz0, hz1, hz2⟩ := info_parts info_Chan
  have hmk := fun W => run_make_rowN (P := Tryd.prog) 55 95 i0 _ Tryd.underlying55 hi hz0 .i64 .i64 l.length l.length (Nat.le_refl _) (by rw [hz2]; omega) (by omega) W
  rw [hz1] at hmk
  have hfs : Fill (w.alloc (.cells (madeCells (.agg #[.int .i64 0, .int .i64 0, .int .i64 0, .int .i64 0, .int .i64 0, .int .i64 0, .int .i64 0] : Value).cells (l.length * 7)) 95)) w.heap.size 95 (l.length * 7) 0 (l.map Chan.cells).flatten := Fill.start _ (size_madeCells _ _)
  have HFS := Lib.hid hfs
  clear hfs hi hz0 hz1 hz2
  go_enter Tryd.func61, Tryd.ntmps61
  go_wp2_with fail
  go_loopw [4] (fun i wr => ∃ k : Nat, k ≤ l.length ∧ i = .int .i64 k ∧ Fill wr w.heap.size 95 (l.length * 7) (k * 7) (l.map Chan.cells).flatten ∧ Below w.heap.size w wr) (fun i _ => l.length - (intOf i).toNat)
  case atStart => exact ⟨0, Nat.zero_le _, rfl, by rw [Nat.zero_mul]; exact HFS.out, (Below.refl _ _).alloc (Nat.le_refl _) _⟩
  case round =>
    obtain ⟨k, hk, rfl, hfill, hbw⟩ := hrel
    clear hmk HFS
    have hglt := hfill.lt
    by_cases hlt : k < l.length
    · obtain ⟨b, off, rfl, hbB, c0, c1, c2, c3, c4, c5, c6⟩ := Chan.rd (hr.below hbw) hlt
      have HF := Lib.hid hfill
      clear hfill hr
      go_wp2_with fail
      refine (l_toChan _ _ _ _ _ _ _ _).mono ?_
      rintro e w1 ⟨rfl, hb1⟩
      have z1 := hb1.size
      try simp at z1
      have hf1 := HF.out.below hb1 hglt
      clear HF
      have hg1 : w.heap.size < w1.heap.size := by omega
      obtain ⟨o0, q0⟩ := hf1.cell (j := k * 7) (by omega)
      obtain ⟨o1, q1⟩ := hf1.cell (j := k * 7 + 1) (by omega)
      obtain ⟨o2, q2⟩ := hf1.cell (j := k * 7 + 2) (by omega)
      obtain ⟨o3, q3⟩ := hf1.cell (j := k * 7 + 3) (by omega)
      obtain ⟨o4, q4⟩ := hf1.cell (j := k * 7 + 4) (by omega)
      obtain ⟨o5, q5⟩ := hf1.cell (j := k * 7 + 5) (by omega)
      obtain ⟨o6, q6⟩ := hf1.cell (j := k * 7 + 6) (by omega)
      have hff := hf1.frozen
      have HF := Lib.hid hf1
      clear hf1
      go_wp2_with fail
      go_roundw
      case rel =>
        obtain ⟨f0, f1, f2, f3, f4, f5, f6⟩ := Chan.fl l hlt
        have hend := (((((((HF.out.set f0 (by omega)).set f1 (by omega)).set f2 (by omega)).set f3 (by omega)).set f4 (by omega)).set f5 (by omega)).set f6 (by omega))
        exact ⟨k + 1, by omega, by go_num, by rw [Nat.succ_mul]; exact hend, by (first | ((repeat' first | (with_reducible (first | exact Below.refl _ _ | assumption | refine Below.setCell ?_ ?_ _ | refine Below.alloc ?_ ?_ _ | refine Below.drew ?_ | refine below_drewN ?_ _ | refine Below.trans ?_ (Below.mono (by assumption) ?_))) | omega | (simp; omega) | (simp; done)); done) | (repeat' first | exact Below.refl _ _ | assumption | refine Below.setCell ?_ (by first | omega | (simp; omega) | (simp; done)) _ | refine Below.alloc ?_ (by first | omega | (simp; omega) | (simp; done)) _ | refine Below.drew ?_ | refine below_drewN ?_ _ | refine Below.trans ?_ (Below.mono (by assumption) (by first | omega | (simp; omega) | (simp; done)))))⟩
      case measure => simp [intOf]; omega
    · obtain rfl : k = l.length := by omega
      have HF := Lib.hid hfill
      clear hfill
      go_wp2
      go_ret
      exact ⟨rfl, (by have h := Fill.ow (rows := l.map Chan.cells) (size := 7) (by rw [List.length_map]; exact HF.out) (Chan.uni l) (Nat.le_refl _) (by rw [List.length_map]; simp only [maxLen]; omega); rwa [List.length_map] at h), hbw⟩
set_option maxRecDepth 100000 in
set_option maxHeartbeats 1000000 in
theorem l_eqChanS (l : List Chan) (A1 A2 : Option Addr) (cap1 cap2 : Nat) (w : World) (hl : l.length ≤ 1048576) (hr1 : Rd w w.heap.size 7 A1 (l.map Chan.cells)) (hr2 : Rd w w.heap.size 7 A2 (l.map Chan.cells)) :
    Calls Tryd.prog 65 #[.slice A1 l.length cap1, .slice A2 l.length cap2] w fun e w' => e = .returned (.bool true) ∧ Below w.heap.size w w' := by
  go_enter Tryd.func65, Tryd.ntmps65
  go_wp2_with fail
  go_loopw [5] (fun i wr => ∃ k : Nat, k ≤ l.length ∧ i = .int .i64 k ∧ Below w.heap.size w wr) (fun i _ => l.length - (intOf i).toNat)
  case atStart => exact ⟨0, Nat.zero_le _, rfl, Below.refl _ _⟩
  case round =>
    obtain ⟨k, hk, rfl, hbw⟩ := hrel
    have hbz := hbw.size
    by_cases hlt : k < l.length
    · obtain ⟨b, off, rfl, hbB, c0, c1, c2, c3, c4, c5, c6⟩ := Chan.rd (hr1.below hbw) hlt
      obtain ⟨b', off', rfl, hbB', d0, d1, d2, d3, d4, d5, d6⟩ := Chan.rd (hr2.below hbw) hlt
      clear hr1 hr2
      go_wp2_with fail
      go_still_tail 8, (by kernel_rfl)
      change wpList _ _ _ _ _ wr.drew
      go_wp2_with fail
      refine (l_eqChan _ _ _ _ _ _ _ _).mono ?_
      rintro e w1 ⟨rfl, hb1⟩
      go_wp2_with fail
      go_roundw
      case rel => exact ⟨k + 1, by omega, by go_num, by (first | ((repeat' first | (with_reducible (first | exact Below.refl _ _ | assumption | refine Below.setCell ?_ ?_ _ | refine Below.alloc ?_ ?_ _ | refine Below.drew ?_ | refine below_drewN ?_ _ | refine Below.trans ?_ (Below.mono (by assumption) ?_))) | omega | (simp; omega) | (simp; done)); done) | (repeat' first | exact Below.refl _ _ | assumption | refine Below.setCell ?_ (by first | omega | (simp; omega) | (simp; done)) _ | refine Below.alloc ?_ (by first | omega | (simp; omega) | (simp; done)) _ | refine Below.drew ?_ | refine below_drewN ?_ _ | refine Below.trans ?_ (Below.mono (by assumption) (by first | omega | (simp; omega) | (simp; done)))))⟩
      case measure => simp [intOf]; omega
    · obtain rfl : k = l.length := by omega
      clear hr1 hr2
      go_wp2
      go_ret
      exact ⟨rfl, hbw⟩
structure Htlc where
  Key : Int
  In : Int
  Out : Int
  AmtIn : Int
  AmtOut : Int
  Kept : Bool
  Age : Int
def Htlc.cells (d : Htlc) : List Value := [.int .i64 d.Key, .int .i64 d.In, .int .i64 d.Out, .int .i64 d.AmtIn, .int .i64 d.AmtOut, .bool d.Kept, .int .i64 d.Age]
theorem Htlc.uni (l : List Htlc) : ∀ r ∈ l.map Htlc.cells, r.length = 7 := by
  intro r hr
  obtain ⟨d, _, rfl⟩ := List.mem_map.1 hr
  rfl
theorem Htlc.of_flat {cs : List Value} (h0 : flat [true, true, true, true, true, false, true] cs) : ∃ d : Htlc, cs = d.cells ∧ True := by
  obtain ⟨a0, cs0, e0, h1⟩ := flat_i h0
  obtain ⟨a1, cs1, e1, h2⟩ := flat_i h1
  obtain ⟨a2, cs2, e2, h3⟩ := flat_i h2
  obtain ⟨a3, cs3, e3, h4⟩ := flat_i h3
  obtain ⟨a4, cs4, e4, h5⟩ := flat_i h4
  obtain ⟨a5, cs5, e5, h6⟩ := flat_b h5
  obtain ⟨a6, cs6, e6, h7⟩ := flat_i h6
  have e7 := flat_nil h7
  subst e0 e1 e2 e3 e4 e5 e6 e7
  exact ⟨⟨a0, a1, a2, a3, a4, a5, a6⟩, rfl, trivial⟩
theorem Htlc.rd {w : World} {B : Nat} {A : Option Addr} {l : List Htlc} (h : Rd w B 7 A (l.map Htlc.cells)) {k : Nat} (hk : k < l.length) :
    ∃ b off, A = some ⟨b, off, none⟩ ∧ b < B ∧ w.cell? ⟨b, off + k * 7, none⟩ = some (.int .i64 l[k].Key) ∧ w.cell? ⟨b, off + k * 7 + 1, none⟩ = some (.int .i64 l[k].In) ∧ w.cell? ⟨b, off + k * 7 + 2, none⟩ = some (.int .i64 l[k].Out) ∧ w.cell? ⟨b, off + k * 7 + 3, none⟩ = some (.int .i64 l[k].AmtIn) ∧ w.cell? ⟨b, off + k * 7 + 4, none⟩ = some (.int .i64 l[k].AmtOut) ∧ w.cell? ⟨b, off + k * 7 + 5, none⟩ = some (.bool l[k].Kept) ∧ w.cell? ⟨b, off + k * 7 + 6, none⟩ = some (.int .i64 l[k].Age) := by
  obtain ⟨b, off, e, hb, hc⟩ := h.2 (by rw [List.length_map]; omega)
  have hk' : (l.map Htlc.cells)[k]? = some l[k].cells := by rw [List.getElem?_map, List.getElem?_eq_getElem hk]; rfl
  exact ⟨b, off, e, hb, hc k _ 0 _ hk' rfl, hc k _ 1 _ hk' rfl, hc k _ 2 _ hk' rfl, hc k _ 3 _ hk' rfl, hc k _ 4 _ hk' rfl, hc k _ 5 _ hk' rfl, hc k _ 6 _ hk' rfl⟩
theorem Htlc.fl (l : List Htlc) {k : Nat} (hk : k < l.length) : (l.map Htlc.cells).flatten[k * 7]? = some (.int .i64 l[k].Key) ∧ (l.map Htlc.cells).flatten[k * 7 + 1]? = some (.int .i64 l[k].In) ∧ (l.map Htlc.cells).flatten[k * 7 + 2]? = some (.int .i64 l[k].Out) ∧ (l.map Htlc.cells).flatten[k * 7 + 3]? = some (.int .i64 l[k].AmtIn) ∧ (l.map Htlc.cells).flatten[k * 7 + 4]? = some (.int .i64 l[k].AmtOut) ∧ (l.map Htlc.cells).flatten[k * 7 + 5]? = some (.bool l[k].Kept) ∧ (l.map Htlc.cells).flatten[k * 7 + 6]? = some (.int .i64 l[k].Age) := by
  have hk' : (l.map Htlc.cells)[k]? = some l[k].cells := by rw [List.getElem?_map, List.getElem?_eq_getElem hk]; rfl
  exact ⟨flatten_get _ 7 (Htlc.uni l) k 0 _ hk' (by omega), flatten_get _ 7 (Htlc.uni l) k 1 _ hk' (by omega), flatten_get _ 7 (Htlc.uni l) k 2 _ hk' (by omega), flatten_get _ 7 (Htlc.uni l) k 3 _ hk' (by omega), flatten_get _ 7 (Htlc.uni l) k 4 _ hk' (by omega), flatten_get _ 7 (Htlc.uni l) k 5 _ hk' (by omega), flatten_get _ 7 (Htlc.uni l) k 6 _ hk' (by omega)⟩
theorem l_toHtlc (x0 : Int) (x1 : Int) (x2 : Int) (x3 : Int) (x4 : Int) (x5 : Bool) (x6 : Int) (w : World) :
    Calls Tryd.prog 100 #[.agg #[.int .i64 x0, .int .i64 x1, .int .i64 x2, .int .i64 x3, .int .i64 x4, .bool x5, .int .i64 x6]] w fun e w' => e = .returned (.agg #[.int .i64 x0, .int .i64 x1, .int .i64 x2, .int .i64 x3, .int .i64 x4, .bool x5, .int .i64 x6]) ∧ Below w.heap.size w w' := by
  go_enter Tryd.func100, Tryd.ntmps100
  go_wp2
  refine bodyPost_ret (v := .agg #[.int .i64 x0, .int .i64 x1, .int .i64 x2, .int .i64 x3, .int .i64 x4, .bool x5, .int .i64 x6]) (by simp [results, Tryd.results100, go_sem]) rfl ⟨rfl, ?_⟩
  (first | ((repeat' first | (with_reducible (first | exact Below.refl _ _ | assumption | refine Below.setCell ?_ ?_ _ | refine Below.alloc ?_ ?_ _ | refine Below.drew ?_ | refine below_drewN ?_ _ | refine Below.trans ?_ (Below.mono (by assumption) ?_))) | omega | (simp; omega) | (simp; done)); done) | (repeat' first | exact Below.refl _ _ | assumption | refine Below.setCell ?_ (by first | omega | (simp; omega) | (simp; done)) _ | refine Below.alloc ?_ (by first | omega | (simp; omega) | (simp; done)) _ | refine Below.drew ?_ | refine below_drewN ?_ _ | refine Below.trans ?_ (Below.mono (by assumption) (by first | omega | (simp; omega) | (simp; done)))))
theorem l_eqHtlc (x0 : Int) (x1 : Int) (x2 : Int) (x3 : Int) (x4 : Int) (x5 : Bool) (x6 : Int) (w : World) :
    Calls Tryd.prog 106 #[.agg #[.int .i64 x0, .int .i64 x1, .int .i64 x2, .int .i64 x3, .int .i64 x4, .bool x5, .int .i64 x6], .agg #[.int .i64 x0, .int .i64 x1, .int .i64 x2, .int .i64 x3, .int .i64 x4, .bool x5, .int .i64 x6]] w fun e w' => e = .returned (.bool true) ∧ Below w.heap.size w w' := by
  go_enter Tryd.func106, Tryd.ntmps106
  go_wp2
  go_ret
  refine ⟨rfl, ?_⟩
  (first | ((repeat' first | (with_reducible (first | exact Below.refl _ _ | assumption | refine Below.setCell ?_ ?_ _ | refine Below.alloc ?_ ?_ _ | refine Below.drew ?_ | refine below_drewN ?_ _ | refine Below.trans ?_ (Below.mono (by assumption) ?_))) | omega | (simp; omega) | (simp; done)); done) | (repeat' first | exact Below.refl _ _ | assumption | refine Below.setCell ?_ (by first | omega | (simp; omega) | (simp; done)) _ | refine Below.alloc ?_ (by first | omega | (simp; omega) | (simp; done)) _ | refine Below.drew ?_ | refine below_drewN ?_ _ | refine Below.trans ?_ (Below.mono (by assumption) (by first | omega | (simp; omega) | (simp; done)))))
theorem l_szHtlcS_ok (n cap : Nat) (A : Option Addr) (left : Int) (w : World) (h0 : left ≤ 1048576) (h : (n : Int) ≤ left) :
    Calls Tryd.prog 57 #[.slice A n cap, .int .i64 left] w fun e w' => e = .returned (.int .i64 (left - n)) ∧ w = w' := by
  go_enter Tryd.func57, Tryd.ntmps57
  go_wp2
  go_ret
  exact ⟨rfl, rfl⟩
theorem l_szHtlcS_no (n cap : Nat) (A : Option Addr) (left : Int) (w : World) (h0 : 0 ≤ left) (hm : n ≤ maxLen) (h : left < (n : Int)) :
    Calls Tryd.prog 57 #[.slice A n cap, .int .i64 left] w fun e w' => e = .returned (.int .i64 (-1)) ∧ w = w' := by
  unfold maxLen at hm
  go_enter Tryd.func57, Tryd.ntmps57
  go_wp2
  go_ret
  exact ⟨rfl, rfl⟩
theorem info_Htlc : (Tryd.prog.info? 97).map (fun i => (i.zero, i.size, i.bytes)) = some (some (.agg #[.int .i64 0, .int .i64 0, .int .i64 0, .int .i64 0, .int .i64 0, .bool false, .int .i64 0]), 7, 56) := by kernel_rfl
set_option maxHeartbeats 1000000 in
theorem l_toHtlcS (l : List Htlc) (A : Option Addr) (cap : Nat) (w : World) (hl : l.length ≤ 1048576) (hr : Rd w w.heap.size 7 A (l.map Htlc.cells)) :
    Calls Tryd.prog 62 #[.slice A l.length cap] w fun e w' => e = .returned (.slice (some ⟨w.heap.size, 0, none⟩) l.length l.length) ∧ Ow w' w.heap.size 97 7 (.slice (some ⟨w.heap.size, 0, none⟩) l.length l.length) (l.map Htlc.cells) ∧ Below w.heap.size w w' := by
  obtain ⟨i0, hi, hz0, hz1, hz2⟩ := info_parts info_Htlc
  have hmk := fun W => run_make_rowN (P := Tryd.prog) 56 97 i0 _ Tryd.underlying56 hi hz0 .i64 .i64 l.length l.length (Nat.le_refl _) (by rw [hz2]; omega) (by omega) W
  rw [hz1] at hmk
  have hfs : Fill (w.alloc (.cells (madeCells (.agg #[.int .i64 0, .int .i64 0, .int .i64 0, .int .i64 0, .int .i64 0, .bool false, .int .i64 0] : Value).cells (l.length * 7)) 97)) w.heap.size 97 (l.length * 7) 0 (l.map Htlc.cells).flatten := Fill.start _ (size_madeCells _ _)
  have HFS := Lib.hid hfs
  clear hfs hi hz0 hz1 hz2
  go_enter Tryd.func62, Tryd.ntmps62
  go_wp2_with fail
  go_loopw [4] (fun i wr => ∃ k : Nat, k ≤ l.length ∧ i = .int .i64 k ∧ Fill wr w.heap.size 97 (l.length * 7) (k * 7) (l.map Htlc.cells).flatten ∧ Below w.heap.size w wr) (fun i _ => l.length - (intOf i).toNat)
  case atStart => exact ⟨0, Nat.zero_le _, rfl, by rw [Nat.zero_mul]; exact HFS.out, (Below.refl _ _).alloc (Nat.le_refl _) _⟩
  case round =>
    obtain ⟨k, hk, rfl, hfill, hbw⟩ := hrel
    clear hmk HFS
    have hglt := hfill.lt
    by_cases hlt : k < l.length
    · obtain ⟨b, off, rfl, hbB, c0, c1, c2, c3, c4, c5, c6⟩ := Htlc.rd (hr.below hbw) hlt
      have HF := Lib.hid hfill
      clear hfill hr
      go_wp2_with fail
      refine (l_toHtlc _ _ _ _ _ _ _ _).mono ?_
      rintro e w1 ⟨rfl, hb1⟩
      have z1 := hb1.size
      try simp at z1
      have hf1 := HF.out.below hb1 hglt
      clear HF
      have hg1 : w.heap.size < w1.heap.size := by omega
      obtain ⟨o0, q0⟩ := hf1.cell (j := k * 7) (by omega)
      obtain ⟨o1, q1⟩ := hf1.cell (j := k * 7 + 1) (by omega)
      obtain ⟨o2, q2⟩ := hf1.cell (j := k * 7 + 2) (by omega)
      obtain ⟨o3, q3⟩ := hf1.cell (j := k * 7 + 3) (by omega)
      obtain ⟨o4, q4⟩ := hf1.cell (j := k * 7 + 4) (by omega)
      obtain ⟨o5, q5⟩ := hf1.cell (j := k * 7 + 5) (by omega)
      obtain ⟨o6, q6⟩ := hf1.cell (j := k * 7 + 6) (by omega)
      have hff := hf1.frozen
      have HF := Lib.hid hf1
      clear hf1
      go_wp2_with fail
      go_roundw
      case rel =>
        obtain ⟨f0, f1, f2, f3, f4, f5, f6⟩ := Htlc.fl l hlt
        have hend := (((((((HF.out.set f0 (by omega)).set f1 (by omega)).set f2 (by omega)).set f3 (by omega)).set f4 (by omega)).set f5 (by omega)).set f6 (by omega))
        exact ⟨k + 1, by omega, by go_num, by rw [Nat.succ_mul]; exact hend, by (first | ((repeat' first | (with_reducible (first | exact Below.refl _ _ | assumption | refine Below.setCell ?_ ?_ _ | refine Below.alloc ?_ ?_ _ | refine Below.drew ?_ | refine below_drewN ?_ _ | refine Below.trans ?_ (Below.mono (by assumption) ?_))) | omega | (simp; omega) | (simp; done)); done) | (repeat' first | exact Below.refl _ _ | assumption | refine Below.setCell ?_ (by first | omega | (simp; omega) | (simp; done)) _ | refine Below.alloc ?_ (by first | omega | (simp; omega) | (simp; done)) _ | refine Below.drew ?_ | refine below_drewN ?_ _ | refine Below.trans ?_ (Below.mono (by assumption) (by first | omega | (simp; omega) | (simp; done)))))⟩
      case measure => simp [intOf]; omega
    · obtain rfl : k = l.length := by omega
      have HF := Lib.hid hfill
      clear hfill
      go_wp2
      go_ret
      exact ⟨rfl, (by have h := Fill.ow (rows := l.map Htlc.cells) (size := 7) (by rw [List.length_map]; exact HF.out) (Htlc.uni l) (Nat.le_refl _) (by rw [List.length_map]; simp only [maxLen]; omega); rwa [List.length_map] at h), hbw⟩
set_option maxRecDepth 100000 in
set_option maxHeartbeats 1000000 in
theorem l_eqHtlcS (l : List Htlc) (A1 A2 : Option Addr) (cap1 cap2 : Nat) (w : World) (hl : l.length ≤ 1048576) (hr1 : Rd w w.heap.size 7 A1 (l.map Htlc.cells)) (hr2 : Rd w w.heap.size 7 A2 (l.map Htlc.cells)) :
    Calls Tryd.prog 66 #[.slice A1 l.length cap1, .slice A2 l.length cap2] w fun e w' => e = .returned (.bool true) ∧ Below w.heap.size w w' := by
  go_enter Tryd.func66, Tryd.ntmps66
  go_wp2_with fail
  go_loopw [5] (fun i wr => ∃ k : Nat, k ≤ l.length ∧ i = .int .i64 k ∧ Below w.heap.size w wr) (fun i _ => l.length - (intOf i).toNat)
  case atStart => exact ⟨0, Nat.zero_le _, rfl, Below.refl _ _⟩
  case round =>
    obtain ⟨k, hk, rfl, hbw⟩ := hrel
    have hbz := hbw.size
    by_cases hlt : k < l.length
    · obtain ⟨b, off, rfl, hbB, c0, c1, c2, c3, c4, c5, c6⟩ := Htlc.rd (hr1.below hbw) hlt
      obtain ⟨b', off', rfl, hbB', d0, d1, d2, d3, d4, d5, d6⟩ := Htlc.rd (hr2.below hbw) hlt
      clear hr1 hr2
      go_wp2_with fail
      go_still_tail 8, (by kernel_rfl)
      change wpList _ _ _ _ _ wr.drew
      go_wp2_with fail
      refine (l_eqHtlc _ _ _ _ _ _ _ _).mono ?_
      rintro e w1 ⟨rfl, hb1⟩
      go_wp2_with fail
      go_roundw
      case rel => exact ⟨k + 1, by omega, by go_num, by (first | ((repeat' first | (with_reducible (first | exact Below.refl _ _ | assumption | refine Below.setCell ?_ ?_ _ | refine Below.alloc ?_ ?_ _ | refine Below.drew ?_ | refine below_drewN ?_ _ | refine Below.trans ?_ (Below.mono (by assumption) ?_))) | omega | (simp; omega) | (simp; done)); done) | (repeat' first | exact Below.refl _ _ | assumption | refine Below.setCell ?_ (by first | omega | (simp; omega) | (simp; done)) _ | refine Below.alloc ?_ (by first | omega | (simp; omega) | (simp; done)) _ | refine Below.drew ?_ | refine below_drewN ?_ _ | refine Below.trans ?_ (Below.mono (by assumption) (by first | omega | (simp; omega) | (simp; done)))))⟩
      case measure => simp [intOf]; omega
    · obtain rfl : k = l.length := by omega
      clear hr1 hr2
      go_wp2
      go_ret
      exact ⟨rfl, hbw⟩
structure Circle where
  Key : Int
  From : Int
  To : Int
  Amt : Int
  Fee : Int
def Circle.cells (d : Circle) : List Value := [.int .i64 d.Key, .int .i64 d.From, .int .i64 d.To, .int .i64 d.Amt, .int .i64 d.Fee]
theorem Circle.uni (l : List Circle) : ∀ r ∈ l.map Circle.cells, r.length = 5 := by
  intro r hr
  obtain ⟨d, _, rfl⟩ := List.mem_map.1 hr
  rfl
theorem Circle.of_flat {cs : List Value} (h0 : flat [true, true, true, true, true] cs) : ∃ d : Circle, cs = d.cells ∧ True := by
  obtain ⟨a0, cs0, e0, h1⟩ := flat_i h0
  obtain ⟨a1, cs1, e1, h2⟩ := flat_i h1
  obtain ⟨a2, cs2, e2, h3⟩ := flat_i h2
  obtain ⟨a3, cs3, e3, h4⟩ := flat_i h3
  obtain ⟨a4, cs4, e4, h5⟩ := flat_i h4
  have e5 := flat_nil h5
  subst e0 e1 e2 e3 e4 e5
  exact ⟨⟨a0, a1, a2, a3, a4⟩, rfl, trivial⟩
theorem Circle.rd {w : World} {B : Nat} {A : Option Addr} {l : List Circle} (h : Rd w B 5 A (l.map Circle.cells)) {k : Nat} (hk : k < l.length) :
    ∃ b off, A = some ⟨b, off, none⟩ ∧ b < B ∧ w.cell? ⟨b, off + k * 5, none⟩ = some (.int .i64 l[k].Key) ∧ w.cell? ⟨b, off + k * 5 + 1, none⟩ = some (.int .i64 l[k].From) ∧ w.cell? ⟨b, off + k * 5 + 2, none⟩ = some (.int .i64 l[k].To) ∧ w.cell? ⟨b, off + k * 5 + 3, none⟩ = some (.int .i64 l[k].Amt) ∧ w.cell? ⟨b, off + k * 5 + 4, none⟩ = some (.int .i64 l[k].Fee) := by
  obtain ⟨b, off, e, hb, hc⟩ := h.2 (by rw [List.length_map]; omega)
  have hk' : (l.map Circle.cells)[k]? = some l[k].cells := by rw [List.getElem?_map, List.getElem?_eq_getElem hk]; rfl
  exact ⟨b, off, e, hb, hc k _ 0 _ hk' rfl, hc k _ 1 _ hk' rfl, hc k _ 2 _ hk' rfl, hc k _ 3 _ hk' rfl, hc k _ 4 _ hk' rfl⟩
theorem Circle.fl (l : List Circle) {k : Nat} (hk : k < l.length) : (l.map Circle.cells).flatten[k * 5]? = some (.int .i64 l[k].Key) ∧ (l.map Circle.cells).flatten[k * 5 + 1]? = some (.int .i64 l[k].From) ∧ (l.map Circle.cells).flatten[k * 5 + 2]? = some (.int .i64 l[k].To) ∧ (l.map Circle.cells).flatten[k * 5 + 3]? = some (.int .i64 l[k].Amt) ∧ (l.map Circle.cells).flatten[k * 5 + 4]? = some (.int .i64 l[k].Fee) := by
  have hk' : (l.map Circle.cells)[k]? = some l[k].cells := by rw [List.getElem?_map, List.getElem?_eq_getElem hk]; rfl
  exact ⟨flatten_get _ 5 (Circle.uni l) k 0 _ hk' (by omega), flatten_get _ 5 (Circle.uni l) k 1 _ hk' (by omega), flatten_get _ 5 (Circle.uni l) k 2 _ hk' (by omega), flatten_get _ 5 (Circle.uni l) k 3 _ hk' (by omega), flatten_get _ 5 (Circle.uni l) k 4 _ hk' (by omega)⟩
theorem l_toCircle (x0 : Int) (x1 : Int) (x2 : Int) (x3 : Int) (x4 : Int) (w : World) :
    Calls Tryd.prog 101 #[.agg #[.int .i64 x0, .int .i64 x1, .int .i64 x2, .int .i64 x3, .int .i64 x4]] w fun e w' => e = .returned (.agg #[.int .i64 x0, .int .i64 x1, .int .i64 x2, .int .i64 x3, .int .i64 x4]) ∧ Below w.heap.size w w' := by
  go_enter Tryd.func101, Tryd.ntmps101
  go_wp2
  refine bodyPost_ret (v := .agg #[.int .i64 x0, .int .i64 x1, .int .i64 x2, .int .i64 x3, .int .i64 x4]) (by simp [results, Tryd.results101, go_sem]) rfl ⟨rfl, ?_⟩
  (first | ((repeat' first | (with_reducible (first | exact Below.refl _ _ | assumption | refine Below.setCell ?_ ?_ _ | refine Below.alloc ?_ ?_ _ | refine Below.drew ?_ | refine below_drewN ?_ _ | refine Below.trans ?_ (Below.mono (by assumption) ?_))) | omega | (simp; omega) | (simp; done)); done) | (repeat' first | exact Below.refl _ _ | assumption | refine Below.setCell ?_ (by first | omega | (simp; omega) | (simp; done)) _ | refine Below.alloc ?_ (by first | omega | (simp; omega) | (simp; done)) _ | refine Below.drew ?_ | refine below_drewN ?_ _ | refine Below.trans ?_ (Below.mono (by assumption) (by first | omega | (simp; omega) | (simp; done)))))
theorem l_eqCircle (x0 : Int) (x1 : Int) (x2 : Int) (x3 : Int) (x4 : Int) (w : World) :
    Calls Tryd.prog 107 #[.agg #[.int .i64 x0, .int .i64 x1, .int .i64 x2, .int .i64 x3, .int .i64 x4], .agg #[.int .i64 x0, .int .i64 x1, .int .i64 x2, .int .i64 x3, .int .i64 x4]] w fun e w' => e = .returned (.bool true) ∧ Below w.heap.size w w' := by
  go_enter Tryd.func107, Tryd.ntmps107
  go_wp2
  go_ret
  refine ⟨rfl, ?_⟩
  (first | ((repeat' first | (with_reducible (first | exact Below.refl _ _ | assumption | refine Below.setCell ?_ ?_ _ | refine Below.alloc ?_ ?_ _ | refine Below.drew ?_ | refine below_drewN ?_ _ | refine Below.trans ?_ (Below.mono (by assumption) ?_))) | omega | (simp; omega) | (simp; done)); done) | (repeat' first | exact Below.refl _ _ | assumption | refine Below.setCell ?_ (by first | omega | (simp; omega) | (simp; done)) _ | refine Below.alloc ?_ (by first | omega | (simp; omega) | (simp; done)) _ | refine Below.drew ?_ | refine below_drewN ?_ _ | refine Below.trans ?_ (Below.mono (by assumption) (by first | omega | (simp; omega) | (simp; done)))))
theorem l_szCircleS_ok (n cap : Nat) (A : Option Addr) (left : Int) (w : World) (h0 : left ≤ 1048576) (h : (n : Int) ≤ left) :
    Calls Tryd.prog 58 #[.slice A n cap, .int .i64 left] w fun e w' => e = .returned (.int .i64 (left - n)) ∧ w = w' := by
  go_enter Tryd.func58, Tryd.ntmps58
  go_wp2
  go_ret
  exact ⟨rfl, rfl⟩
theorem l_szCircleS_no (n cap : Nat) (A : Option Addr) (left : Int) (w : World) (h0 : 0 ≤ left) (hm : n ≤ maxLen) (h : left < (n : Int)) :
    Calls Tryd.prog 58 #[.slice A n cap, .int .i64 left] w fun e w' => e = .returned (.int .i64 (-1)) ∧ w = w' := by
  unfold maxLen at hm
  go_enter Tryd.func58, Tryd.ntmps58
  go_wp2
  go_ret
  exact ⟨rfl, rfl⟩
theorem info_Circle : (Tryd.prog.info? 99).map (fun i => (i.zero, i.size, i.bytes)) = some (some (.agg #[.int .i64 0, .int .i64 0, .int .i64 0, .int .i64 0, .int .i64 0]), 5, 40) := by kernel_rfl
set_option maxHeartbeats 1000000 in
theorem l_toCircleS (l : List Circle) (A : Option Addr) (cap : Nat) (w : World) (hl : l.length ≤ 1048576) (hr : Rd w w.heap.size 5 A (l.map Circle.cells)) :
    Calls Tryd.prog 63 #[.slice A l.length cap] w fun e w' => e = .returned (.slice (some ⟨w.heap.size, 0, none⟩) l.length l.length) ∧ Ow w' w.heap.size 99 5 (.slice (some ⟨w.heap.size, 0, none⟩) l.length l.length) (l.map Circle.cells) ∧ Below w.heap.size w w' := by
  obtain ⟨i0, hi, hz0, hz1, hz2⟩ := info_parts info_Circle
  have hmk := fun W => run_make_rowN (P := Tryd.prog) 57 99 i0 _ Tryd.underlying57 hi hz0 .i64 .i64 l.length l.length (Nat.le_refl _) (by rw [hz2]; omega) (by omega) W
  rw [hz1] at hmk
  have hfs : Fill (w.alloc (.cells (madeCells (.agg #[.int .i64 0, .int .i64 0, .int .i64 0, .int .i64 0, .int .i64 0] : Value).cells (l.length * 5)) 99)) w.heap.size 99 (l.length * 5) 0 (l.map Circle.cells).flatten := Fill.start _ (size_madeCells _ _)
  have HFS := Lib.hid hfs
  clear hfs hi hz0 hz1 hz2
  go_enter Tryd.func63, Tryd.ntmps63
  go_wp2_with fail
  go_loopw [4] (fun i wr => ∃ k : Nat, k ≤ l.length ∧ i = .int .i64 k ∧ Fill wr w.heap.size 99 (l.length * 5) (k * 5) (l.map Circle.cells).flatten ∧ Below w.heap.size w wr) (fun i _ => l.length - (intOf i).toNat)
  case atStart => exact ⟨0, Nat.zero_le _, rfl, by rw [Nat.zero_mul]; exact HFS.out, (Below.refl _ _).alloc (Nat.le_refl _) _⟩
  case round =>
    obtain ⟨k, hk, rfl, hfill, hbw⟩ := hrel
    clear hmk HFS
    have hglt := hfill.lt
    by_cases hlt : k < l.length
    · obtain ⟨b, off, rfl, hbB, c0, c1, c2, c3, c4⟩ := Circle.rd (hr.below hbw) hlt
      have HF := Lib.hid hfill
      clear hfill hr
      go_wp2_with fail
      refine (l_toCircle _ _ _ _ _ _).mono ?_
      rintro e w1 ⟨rfl, hb1⟩
      have z1 := hb1.size
      try simp at z1
      have hf1 := HF.out.below hb1 hglt
      clear HF
      have hg1 : w.heap.size < w1.heap.size := by omega
      obtain ⟨o0, q0⟩ := hf1.cell (j := k * 5) (by omega)
      obtain ⟨o1, q1⟩ := hf1.cell (j := k * 5 + 1) (by omega)
      obtain ⟨o2, q2⟩ := hf1.cell (j := k * 5 + 2) (by omega)
      obtain ⟨o3, q3⟩ := hf1.cell (j := k * 5 + 3) (by omega)
      obtain ⟨o4, q4⟩ := hf1.cell (j := k * 5 + 4) (by omega)
      have hff := hf1.frozen
      have HF := Lib.hid hf1
      clear hf1
      go_wp2_with fail
      go_roundw
      case rel =>
        obtain ⟨f0, f1, f2, f3, f4⟩ := Circle.fl l hlt
        have hend := (((((HF.out.set f0 (by omega)).set f1 (by omega)).set f2 (by omega)).set f3 (by omega)).set f4 (by omega))
        exact ⟨k + 1, by omega, by go_num, by rw [Nat.succ_mul]; exact hend, by (first | ((repeat' first | (with_reducible (first | exact Below.refl _ _ | assumption | refine Below.setCell ?_ ?_ _ | refine Below.alloc ?_ ?_ _ | refine Below.drew ?_ | refine below_drewN ?_ _ | refine Below.trans ?_ (Below.mono (by assumption) ?_))) | omega | (simp; omega) | (simp; done)); done) | (repeat' first | exact Below.refl _ _ | assumption | refine Below.setCell ?_ (by first | omega | (simp; omega) | (simp; done)) _ | refine Below.alloc ?_ (by first | omega | (simp; omega) | (simp; done)) _ | refine Below.drew ?_ | refine below_drewN ?_ _ | refine Below.trans ?_ (Below.mono (by assumption) (by first | omega | (simp; omega) | (simp; done)))))⟩
      case measure => simp [intOf]; omega
    · obtain rfl : k = l.length := by omega
      have HF := Lib.hid hfill
      clear hfill
      go_wp2
      go_ret
      exact ⟨rfl, (by have h := Fill.ow (rows := l.map Circle.cells) (size := 5) (by rw [List.length_map]; exact HF.out) (Circle.uni l) (Nat.le_refl _) (by rw [List.length_map]; simp only [maxLen]; omega); rwa [List.length_map] at h), hbw⟩
set_option maxRecDepth 100000 in
set_option maxHeartbeats 1000000 in
theorem l_eqCircleS (l : List Circle) (A1 A2 : Option Addr) (cap1 cap2 : Nat) (w : World) (hl : l.length ≤ 1048576) (hr1 : Rd w w.heap.size 5 A1 (l.map Circle.cells)) (hr2 : Rd w w.heap.size 5 A2 (l.map Circle.cells)) :
    Calls Tryd.prog 67 #[.slice A1 l.length cap1, .slice A2 l.length cap2] w fun e w' => e = .returned (.bool true) ∧ Below w.heap.size w w' := by
  go_enter Tryd.func67, Tryd.ntmps67
  go_wp2_with fail
  go_loopw [5] (fun i wr => ∃ k : Nat, k ≤ l.length ∧ i = .int .i64 k ∧ Below w.heap.size w wr) (fun i _ => l.length - (intOf i).toNat)
  case atStart => exact ⟨0, Nat.zero_le _, rfl, Below.refl _ _⟩
  case round =>
    obtain ⟨k, hk, rfl, hbw⟩ := hrel
    have hbz := hbw.size
    by_cases hlt : k < l.length
    · obtain ⟨b, off, rfl, hbB, c0, c1, c2, c3, c4⟩ := Circle.rd (hr1.below hbw) hlt
      obtain ⟨b', off', rfl, hbB', d0, d1, d2, d3, d4⟩ := Circle.rd (hr2.below hbw) hlt
      clear hr1 hr2
      go_wp2_with fail
      go_still_tail 8, (by kernel_rfl)
      change wpList _ _ _ _ _ wr.drew
      go_wp2_with fail
      refine (l_eqCircle _ _ _ _ _ _).mono ?_
      rintro e w1 ⟨rfl, hb1⟩
      go_wp2_with fail
      go_roundw
      case rel => exact ⟨k + 1, by omega, by go_num, by (first | ((repeat' first | (with_reducible (first | exact Below.refl _ _ | assumption | refine Below.setCell ?_ ?_ _ | refine Below.alloc ?_ ?_ _ | refine Below.drew ?_ | refine below_drewN ?_ _ | refine Below.trans ?_ (Below.mono (by assumption) ?_))) | omega | (simp; omega) | (simp; done)); done) | (repeat' first | exact Below.refl _ _ | assumption | refine Below.setCell ?_ (by first | omega | (simp; omega) | (simp; done)) _ | refine Below.alloc ?_ (by first | omega | (simp; omega) | (simp; done)) _ | refine Below.drew ?_ | refine below_drewN ?_ _ | refine Below.trans ?_ (Below.mono (by assumption) (by first | omega | (simp; omega) | (simp; done)))))⟩
      case measure => simp [intOf]; omega
    · obtain rfl : k = l.length := by omega
      clear hr1 hr2
      go_wp2
      go_ret
      exact ⟨rfl, hbw⟩
structure RdBook (w : World) (B : Nat) (A1 : Option Addr) (cs : List Chan) (A2 : Option Addr) (hs : List Htlc) (A3 : Option Addr) (os : List Circle) : Prop where
  c : Rd w B 7 A1 (cs.map Chan.cells)
  h : Rd w B 7 A2 (hs.map Htlc.cells)
  o : Rd w B 5 A3 (os.map Circle.cells)
section
variable {w w' : World} {B B' : Nat} {A1 A2 A3 : Option Addr} {cs : List Chan} {hs : List Htlc} {os : List Circle}
theorem RdBook.below (h : RdBook w B A1 cs A2 hs A3 os) (hb : Below B w w') : RdBook w' B A1 cs A2 hs A3 os := ⟨h.c.below hb, h.h.below hb, h.o.below hb⟩
theorem RdBook.more (h : RdBook w B A1 cs A2 hs A3 os) (hB : B ≤ B') : RdBook w B' A1 cs A2 hs A3 os := ⟨h.c.more hB, h.h.more hB, h.o.more hB⟩
end
end Go.Proofs.YtgpledgjpjifcaaDoor
