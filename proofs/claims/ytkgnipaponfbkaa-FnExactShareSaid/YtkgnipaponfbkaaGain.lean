/- Gains: the laws' own helpers. -/
import Derived.Test.YtkgnipaponfbkaaRows
import Derived.Test.YtkgnipaponfbkaaAmt
import Derived.StillTailTactics
namespace Go.Proofs.Ytkgnipaponfbkaa
open Go.RowKit

structure Gain where
  Ch : Int
  Fees : Int
  Count : Int
  Failed : Int
def Gain.cells (d : Gain) : List Value := [.int .i64 d.Ch, .int .i64 d.Fees, .int .i64 d.Count, .int .i64 d.Failed]
theorem Gain.uni (l : List Gain) : ∀ r ∈ l.map Gain.cells, r.length = 4 := by
  intro r hr
  obtain ⟨d, _, rfl⟩ := List.mem_map.1 hr
  rfl
theorem Gain.of_flat {cs : List Value} (h0 : flat [true, true, true, true] cs) : ∃ d : Gain, cs = d.cells ∧ True := by
  obtain ⟨a0, cs0, e0, h1⟩ := flat_i h0
  obtain ⟨a1, cs1, e1, h2⟩ := flat_i h1
  obtain ⟨a2, cs2, e2, h3⟩ := flat_i h2
  obtain ⟨a3, cs3, e3, h4⟩ := flat_i h3
  have e4 := flat_nil h4
  subst e0 e1 e2 e3 e4
  exact ⟨⟨a0, a1, a2, a3⟩, rfl, trivial⟩
theorem Gain.rd {w : World} {B : Nat} {A : Option Addr} {l : List Gain} (h : Rd w B 4 A (l.map Gain.cells)) {k : Nat} (hk : k < l.length) :
    ∃ b off, A = some ⟨b, off, none⟩ ∧ b < B ∧ w.cell? ⟨b, off + k * 4, none⟩ = some (.int .i64 l[k].Ch) ∧ w.cell? ⟨b, off + k * 4 + 1, none⟩ = some (.int .i64 l[k].Fees) ∧ w.cell? ⟨b, off + k * 4 + 2, none⟩ = some (.int .i64 l[k].Count) ∧ w.cell? ⟨b, off + k * 4 + 3, none⟩ = some (.int .i64 l[k].Failed) := by
  obtain ⟨b, off, e, hb, hc⟩ := h.2 (by rw [List.length_map]; omega)
  have hk' : (l.map Gain.cells)[k]? = some l[k].cells := by rw [List.getElem?_map, List.getElem?_eq_getElem hk]; rfl
  exact ⟨b, off, e, hb, hc k _ 0 _ hk' rfl, hc k _ 1 _ hk' rfl, hc k _ 2 _ hk' rfl, hc k _ 3 _ hk' rfl⟩
theorem Gain.fl (l : List Gain) {k : Nat} (hk : k < l.length) : (l.map Gain.cells).flatten[k * 4]? = some (.int .i64 l[k].Ch) ∧ (l.map Gain.cells).flatten[k * 4 + 1]? = some (.int .i64 l[k].Fees) ∧ (l.map Gain.cells).flatten[k * 4 + 2]? = some (.int .i64 l[k].Count) ∧ (l.map Gain.cells).flatten[k * 4 + 3]? = some (.int .i64 l[k].Failed) := by
  have hk' : (l.map Gain.cells)[k]? = some l[k].cells := by rw [List.getElem?_map, List.getElem?_eq_getElem hk]; rfl
  exact ⟨flatten_get _ 4 (Gain.uni l) k 0 _ hk' (by omega), flatten_get _ 4 (Gain.uni l) k 1 _ hk' (by omega), flatten_get _ 4 (Gain.uni l) k 2 _ hk' (by omega), flatten_get _ 4 (Gain.uni l) k 3 _ hk' (by omega)⟩
theorem l_toGain (x0 : Int) (x1 : Int) (x2 : Int) (x3 : Int) (w : World) :
    Calls Try.prog 34 #[.agg #[.int .i64 x0, .int .i64 x1, .int .i64 x2, .int .i64 x3]] w fun e w' => e = .returned (.agg #[.int .i64 x0, .int .i64 x1, .int .i64 x2, .int .i64 x3]) ∧ Below w.heap.size w w' := by
  go_enter Try.func34, Try.ntmps34
  go_wp2
  refine bodyPost_ret (v := .agg #[.int .i64 x0, .int .i64 x1, .int .i64 x2, .int .i64 x3]) (by simp [results, Try.results34, go_sem]) rfl ⟨rfl, ?_⟩
  (repeat' first | exact Below.refl _ _ | assumption | refine Below.setCell ?_ (by first | omega | (simp; omega) | (simp; done)) _ | refine Below.alloc ?_ (by first | omega | (simp; omega) | (simp; done)) _ | refine Below.drew ?_ | refine below_drewN ?_ _ | refine Below.trans ?_ (Below.mono (by assumption) (by first | omega | (simp; omega) | (simp; done))))
theorem l_eqGain (x0 : Int) (x1 : Int) (x2 : Int) (x3 : Int) (w : World) :
    Calls Try.prog 103 #[.agg #[.int .i64 x0, .int .i64 x1, .int .i64 x2, .int .i64 x3], .agg #[.int .i64 x0, .int .i64 x1, .int .i64 x2, .int .i64 x3]] w fun e w' => e = .returned (.bool true) ∧ Below w.heap.size w w' := by
  go_enter Try.func103, Try.ntmps103
  go_wp2
  go_ret
  refine ⟨rfl, ?_⟩
  (repeat' first | exact Below.refl _ _ | assumption | refine Below.setCell ?_ (by first | omega | (simp; omega) | (simp; done)) _ | refine Below.alloc ?_ (by first | omega | (simp; omega) | (simp; done)) _ | refine Below.drew ?_ | refine below_drewN ?_ _ | refine Below.trans ?_ (Below.mono (by assumption) (by first | omega | (simp; omega) | (simp; done))))
theorem l_szGainS_ok (n cap : Nat) (A : Option Addr) (left : Int) (w : World) (h0 : left ≤ 1048576) (h : (n : Int) ≤ left) :
    Calls Try.prog 51 #[.slice A n cap, .int .i64 left] w fun e w' => e = .returned (.int .i64 (left - n)) ∧ w = w' := by
  go_enter Try.func51, Try.ntmps51
  go_wp2
  go_ret
  exact ⟨rfl, rfl⟩
theorem l_szGainS_no (n cap : Nat) (A : Option Addr) (left : Int) (w : World) (h0 : 0 ≤ left) (hm : n ≤ maxLen) (h : left < (n : Int)) :
    Calls Try.prog 51 #[.slice A n cap, .int .i64 left] w fun e w' => e = .returned (.int .i64 (-1)) ∧ w = w' := by
  unfold maxLen at hm
  go_enter Try.func51, Try.ntmps51
  go_wp2
  go_ret
  exact ⟨rfl, rfl⟩
theorem info_Gain : (Try.prog.info? 60).map (fun i => (i.zero, i.size, i.bytes)) = some (some (.agg #[.int .i64 0, .int .i64 0, .int .i64 0, .int .i64 0]), 4, 32) := by kernel_rfl
set_option maxHeartbeats 1000000 in
theorem l_toGainS (l : List Gain) (A : Option Addr) (cap : Nat) (w : World) (hl : l.length ≤ 1048576) (hr : Rd w w.heap.size 4 A (l.map Gain.cells)) :
    Calls Try.prog 53 #[.slice A l.length cap] w fun e w' => e = .returned (.slice (some ⟨w.heap.size, 0, none⟩) l.length l.length) ∧ Ow w' w.heap.size 60 4 (.slice (some ⟨w.heap.size, 0, none⟩) l.length l.length) (l.map Gain.cells) ∧ Below w.heap.size w w' := by
  obtain ⟨i0, hi, hz0, hz1, hz2⟩ := info_parts info_Gain
  have hmk := fun W => run_make_rowN (P := Try.prog) 83 60 i0 _ Try.underlying83 hi hz0 .i64 .i64 l.length l.length (Nat.le_refl _) (by rw [hz2]; omega) (by omega) W
  rw [hz1] at hmk
  have hfs : Fill (w.alloc (.cells (madeCells (.agg #[.int .i64 0, .int .i64 0, .int .i64 0, .int .i64 0] : Value).cells (l.length * 4)) 60)) w.heap.size 60 (l.length * 4) 0 (l.map Gain.cells).flatten := Fill.start _ (size_madeCells _ _)
  have HFS := Lib.hid hfs
  clear hfs hi hz0 hz1 hz2
  go_enter Try.func53, Try.ntmps53
  go_wp2_with fail
  go_loopw [4] (fun i wr => ∃ k : Nat, k ≤ l.length ∧ i = .int .i64 k ∧ Fill wr w.heap.size 60 (l.length * 4) (k * 4) (l.map Gain.cells).flatten ∧ Below w.heap.size w wr) (fun i _ => l.length - (intOf i).toNat)
  case atStart => exact ⟨0, Nat.zero_le _, rfl, by rw [Nat.zero_mul]; exact HFS.out, (Below.refl _ _).alloc (Nat.le_refl _) _⟩
  case round =>
    obtain ⟨k, hk, rfl, hfill, hbw⟩ := hrel
    clear hmk HFS
    have hglt := hfill.lt
    by_cases hlt : k < l.length
    · obtain ⟨b, off, rfl, hbB, c0, c1, c2, c3⟩ := Gain.rd (hr.below hbw) hlt
      have HF := Lib.hid hfill
      clear hfill hr
      go_wp2_with fail
      refine (l_toGain _ _ _ _ _).mono ?_
      rintro e w1 ⟨rfl, hb1⟩
      have z1 := hb1.size
      try simp at z1
      have hf1 := HF.out.below hb1 hglt
      clear HF
      have hg1 : w.heap.size < w1.heap.size := by omega
      obtain ⟨o0, q0⟩ := hf1.cell (j := k * 4) (by omega)
      obtain ⟨o1, q1⟩ := hf1.cell (j := k * 4 + 1) (by omega)
      obtain ⟨o2, q2⟩ := hf1.cell (j := k * 4 + 2) (by omega)
      obtain ⟨o3, q3⟩ := hf1.cell (j := k * 4 + 3) (by omega)
      have hff := hf1.frozen
      have HF := Lib.hid hf1
      clear hf1
      go_wp2_with fail
      go_roundw
      case rel =>
        obtain ⟨f0, f1, f2, f3⟩ := Gain.fl l hlt
        have hend := ((((HF.out.set f0 (by omega)).set f1 (by omega)).set f2 (by omega)).set f3 (by omega))
        exact ⟨k + 1, by omega, by go_num, by rw [Nat.succ_mul]; exact hend, by (repeat' first | exact Below.refl _ _ | assumption | refine Below.setCell ?_ (by first | omega | (simp; omega) | (simp; done)) _ | refine Below.alloc ?_ (by first | omega | (simp; omega) | (simp; done)) _ | refine Below.drew ?_ | refine below_drewN ?_ _ | refine Below.trans ?_ (Below.mono (by assumption) (by first | omega | (simp; omega) | (simp; done))))⟩
      case measure => simp [intOf]; omega
    · obtain rfl : k = l.length := by omega
      have HF := Lib.hid hfill
      clear hfill
      go_wp2
      go_ret
      exact ⟨rfl, (by have h := Fill.ow (rows := l.map Gain.cells) (size := 4) (by rw [List.length_map]; exact HF.out) (Gain.uni l) (Nat.le_refl _) (by rw [List.length_map]; simp only [maxLen]; omega); rwa [List.length_map] at h), hbw⟩
set_option maxRecDepth 100000 in
set_option maxHeartbeats 1000000 in
theorem l_eqGainS (l : List Gain) (A1 A2 : Option Addr) (cap1 cap2 : Nat) (w : World) (hl : l.length ≤ 1048576) (hr1 : Rd w w.heap.size 4 A1 (l.map Gain.cells)) (hr2 : Rd w w.heap.size 4 A2 (l.map Gain.cells)) :
    Calls Try.prog 55 #[.slice A1 l.length cap1, .slice A2 l.length cap2] w fun e w' => e = .returned (.bool true) ∧ Below w.heap.size w w' := by
  go_enter Try.func55, Try.ntmps55
  go_wp2_with fail
  go_loopw [5] (fun i wr => ∃ k : Nat, k ≤ l.length ∧ i = .int .i64 k ∧ Below w.heap.size w wr) (fun i _ => l.length - (intOf i).toNat)
  case atStart => exact ⟨0, Nat.zero_le _, rfl, Below.refl _ _⟩
  case round =>
    obtain ⟨k, hk, rfl, hbw⟩ := hrel
    have hbz := hbw.size
    by_cases hlt : k < l.length
    · obtain ⟨b, off, rfl, hbB, c0, c1, c2, c3⟩ := Gain.rd (hr1.below hbw) hlt
      obtain ⟨b', off', rfl, hbB', d0, d1, d2, d3⟩ := Gain.rd (hr2.below hbw) hlt
      clear hr1 hr2
      go_wp2_with fail
      go_still_tail 8, (by kernel_rfl)
      change wpList _ _ _ _ _ wr.drew
      go_wp2_with fail
      refine (l_eqGain _ _ _ _ _).mono ?_
      rintro e w1 ⟨rfl, hb1⟩
      go_wp2_with fail
      go_roundw
      case rel => exact ⟨k + 1, by omega, by go_num, by (repeat' first | exact Below.refl _ _ | assumption | refine Below.setCell ?_ (by first | omega | (simp; omega) | (simp; done)) _ | refine Below.alloc ?_ (by first | omega | (simp; omega) | (simp; done)) _ | refine Below.drew ?_ | refine below_drewN ?_ _ | refine Below.trans ?_ (Below.mono (by assumption) (by first | omega | (simp; omega) | (simp; done))))⟩
      case measure => simp [intOf]; omega
    · obtain rfl : k = l.length := by omega
      clear hr1 hr2
      go_wp2
      go_ret
      exact ⟨rfl, hbw⟩
end Go.Proofs.Ytkgnipaponfbkaa
