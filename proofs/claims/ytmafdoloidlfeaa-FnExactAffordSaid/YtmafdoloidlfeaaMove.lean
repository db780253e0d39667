/- Moves: the laws' own helpers. -/
import Derived.Test.YtmafdoloidlfeaaRows
import Derived.Test.YtmafdoloidlfeaaCoin
namespace Go.Proofs.Ytmafdoloidlfeaa
open Go.RowKit

structure Move where
  From : Int
  To : Int
  Amt : Int
  Ppm : Int
def Move.cells (d : Move) : List Value := [.int .i64 d.From, .int .i64 d.To, .int .i64 d.Amt, .int .i64 d.Ppm]
theorem Move.uni (l : List Move) : ∀ r ∈ l.map Move.cells, r.length = 4 := by
  intro r hr
  obtain ⟨d, _, rfl⟩ := List.mem_map.1 hr
  rfl
theorem Move.of_flat {cs : List Value} (h0 : flat [true, true, true, true] cs) : ∃ d : Move, cs = d.cells ∧ True := by
  obtain ⟨a0, cs0, e0, h1⟩ := flat_i h0
  obtain ⟨a1, cs1, e1, h2⟩ := flat_i h1
  obtain ⟨a2, cs2, e2, h3⟩ := flat_i h2
  obtain ⟨a3, cs3, e3, h4⟩ := flat_i h3
  have e4 := flat_nil h4
  subst e0 e1 e2 e3 e4
  exact ⟨⟨a0, a1, a2, a3⟩, rfl, trivial⟩
theorem Move.rd {w : World} {B : Nat} {A : Option Addr} {l : List Move} (h : Rd w B 4 A (l.map Move.cells)) {k : Nat} (hk : k < l.length) :
    ∃ b off, A = some ⟨b, off, none⟩ ∧ b < B ∧ w.cell? ⟨b, off + k * 4, none⟩ = some (.int .i64 l[k].From) ∧ w.cell? ⟨b, off + k * 4 + 1, none⟩ = some (.int .i64 l[k].To) ∧ w.cell? ⟨b, off + k * 4 + 2, none⟩ = some (.int .i64 l[k].Amt) ∧ w.cell? ⟨b, off + k * 4 + 3, none⟩ = some (.int .i64 l[k].Ppm) := by
  obtain ⟨b, off, e, hb, hc⟩ := h.2 (by rw [List.length_map]; omega)
  have hk' : (l.map Move.cells)[k]? = some l[k].cells := by rw [List.getElem?_map, List.getElem?_eq_getElem hk]; rfl
  exact ⟨b, off, e, hb, hc k _ 0 _ hk' rfl, hc k _ 1 _ hk' rfl, hc k _ 2 _ hk' rfl, hc k _ 3 _ hk' rfl⟩
theorem Move.fl (l : List Move) {k : Nat} (hk : k < l.length) : (l.map Move.cells).flatten[k * 4]? = some (.int .i64 l[k].From) ∧ (l.map Move.cells).flatten[k * 4 + 1]? = some (.int .i64 l[k].To) ∧ (l.map Move.cells).flatten[k * 4 + 2]? = some (.int .i64 l[k].Amt) ∧ (l.map Move.cells).flatten[k * 4 + 3]? = some (.int .i64 l[k].Ppm) := by
  have hk' : (l.map Move.cells)[k]? = some l[k].cells := by rw [List.getElem?_map, List.getElem?_eq_getElem hk]; rfl
  exact ⟨flatten_get _ 4 (Move.uni l) k 0 _ hk' (by omega), flatten_get _ 4 (Move.uni l) k 1 _ hk' (by omega), flatten_get _ 4 (Move.uni l) k 2 _ hk' (by omega), flatten_get _ 4 (Move.uni l) k 3 _ hk' (by omega)⟩
theorem l_toMove (x0 : Int) (x1 : Int) (x2 : Int) (x3 : Int) (w : World) :
    Calls Try.prog 72 #[.agg #[.int .i64 x0, .int .i64 x1, .int .i64 x2, .int .i64 x3]] w fun e w' => e = .returned (.agg #[.int .i64 x0, .int .i64 x1, .int .i64 x2, .int .i64 x3]) ∧ Below w.heap.size w w' := by
  go_enter Try.func72, Try.ntmps72
  go_wp2
  refine bodyPost_ret (v := .agg #[.int .i64 x0, .int .i64 x1, .int .i64 x2, .int .i64 x3]) (by simp [results, Try.results72, go_sem]) rfl ⟨rfl, ?_⟩
  (first | ((repeat' first | (with_reducible (first | exact Below.refl _ _ | assumption | refine Below.setCell ?_ ?_ _ | refine Below.alloc ?_ ?_ _ | refine Below.drew ?_ | refine below_drewN ?_ _ | refine Below.trans ?_ (Below.mono (by assumption) ?_))) | omega | (simp; omega) | (simp; done)); done) | (repeat' first | exact Below.refl _ _ | assumption | refine Below.setCell ?_ (by first | omega | (simp; omega) | (simp; done)) _ | refine Below.alloc ?_ (by first | omega | (simp; omega) | (simp; done)) _ | refine Below.drew ?_ | refine below_drewN ?_ _ | refine Below.trans ?_ (Below.mono (by assumption) (by first | omega | (simp; omega) | (simp; done)))))
theorem l_eqMove (x0 : Int) (x1 : Int) (x2 : Int) (x3 : Int) (w : World) :
    Calls Try.prog 76 #[.agg #[.int .i64 x0, .int .i64 x1, .int .i64 x2, .int .i64 x3], .agg #[.int .i64 x0, .int .i64 x1, .int .i64 x2, .int .i64 x3]] w fun e w' => e = .returned (.bool true) ∧ Below w.heap.size w w' := by
  go_enter Try.func76, Try.ntmps76
  go_wp2
  go_ret
  refine ⟨rfl, ?_⟩
  (first | ((repeat' first | (with_reducible (first | exact Below.refl _ _ | assumption | refine Below.setCell ?_ ?_ _ | refine Below.alloc ?_ ?_ _ | refine Below.drew ?_ | refine below_drewN ?_ _ | refine Below.trans ?_ (Below.mono (by assumption) ?_))) | omega | (simp; omega) | (simp; done)); done) | (repeat' first | exact Below.refl _ _ | assumption | refine Below.setCell ?_ (by first | omega | (simp; omega) | (simp; done)) _ | refine Below.alloc ?_ (by first | omega | (simp; omega) | (simp; done)) _ | refine Below.drew ?_ | refine below_drewN ?_ _ | refine Below.trans ?_ (Below.mono (by assumption) (by first | omega | (simp; omega) | (simp; done)))))
theorem l_szMoveS_ok (n cap : Nat) (A : Option Addr) (left : Int) (w : World) (h0 : left ≤ 1048576) (h : (n : Int) ≤ left) :
    Calls Try.prog 19 #[.slice A n cap, .int .i64 left] w fun e w' => e = .returned (.int .i64 (left - n)) ∧ w = w' := by
  go_enter Try.func19, Try.ntmps19
  go_wp2
  go_ret
  exact ⟨rfl, rfl⟩
theorem l_szMoveS_no (n cap : Nat) (A : Option Addr) (left : Int) (w : World) (h0 : 0 ≤ left) (hm : n ≤ maxLen) (h : left < (n : Int)) :
    Calls Try.prog 19 #[.slice A n cap, .int .i64 left] w fun e w' => e = .returned (.int .i64 (-1)) ∧ w = w' := by
  unfold maxLen at hm
  go_enter Try.func19, Try.ntmps19
  go_wp2
  go_ret
  exact ⟨rfl, rfl⟩
theorem info_Move : (Try.prog.info? 92).map (fun i => (i.zero, i.size, i.bytes)) = some (some (.agg #[.int .i64 0, .int .i64 0, .int .i64 0, .int .i64 0]), 4, 32) := by kernel_rfl
set_option maxHeartbeats 1000000 in
theorem l_toMoveS (l : List Move) (A : Option Addr) (cap : Nat) (w : World) (hl : l.length ≤ 1048576) (hr : Rd w w.heap.size 4 A (l.map Move.cells)) :
    Calls Try.prog 22 #[.slice A l.length cap] w fun e w' => e = .returned (.slice (some ⟨w.heap.size, 0, none⟩) l.length l.length) ∧ Ow w' w.heap.size 92 4 (.slice (some ⟨w.heap.size, 0, none⟩) l.length l.length) (l.map Move.cells) ∧ Below w.heap.size w w' := by
  obtain ⟨i0, hi, hz0, hz1, hz2⟩ := info_parts info_Move
  have hmk := fun W => run_make_rowN (P := Try.prog) 46 92 i0 _ Try.underlying46 hi hz0 .i64 .i64 l.length l.length (Nat.le_refl _) (by rw [hz2]; omega) (by omega) W
  rw [hz1] at hmk
  have hfs : Fill (w.alloc (.cells (madeCells (.agg #[.int .i64 0, .int .i64 0, .int .i64 0, .int .i64 0] : Value).cells (l.length * 4)) 92)) w.heap.size 92 (l.length * 4) 0 (l.map Move.cells).flatten := Fill.start _ (size_madeCells _ _)
  have HFS := Lib.hid hfs
  clear hfs hi hz0 hz1 hz2
  go_enter Try.func22, Try.ntmps22
  go_wp2_with fail
  go_loopw [4] (fun i wr => ∃ k : Nat, k ≤ l.length ∧ i = .int .i64 k ∧ Fill wr w.heap.size 92 (l.length * 4) (k * 4) (l.map Move.cells).flatten ∧ Below w.heap.size w wr) (fun i _ => l.length - (intOf i).toNat)
  case atStart => exact ⟨0, Nat.zero_le _, rfl, by rw [Nat.zero_mul]; exact HFS.out, (Below.refl _ _).alloc (Nat.le_refl _) _⟩
  case round =>
    obtain ⟨k, hk, rfl, hfill, hbw⟩ := hrel
    clear hmk HFS
    have hglt := hfill.lt
    by_cases hlt : k < l.length
    · obtain ⟨b, off, rfl, hbB, c0, c1, c2, c3⟩ := Move.rd (hr.below hbw) hlt
      have HF := Lib.hid hfill
      clear hfill hr
      go_wp2_with fail
      refine (l_toMove _ _ _ _ _).mono ?_
      rintro e w1 ⟨rfl, hb1⟩
      have z1 := hb1.size
      try simp at z1
      have hf1 := HF.out.below hb1 hglt
      clear HF
      have hg1 : w.heap.size < w1.heap.size := by omega
      obtain ⟨o0, q0⟩ := hf1.cell (j := k * 4) (by omega)
      obtain ⟨o1, q1⟩ := hf1.cell (j := k * 4 + 1) (by omega)
      obtain ⟨o2, q2⟩ := hf1.cell (j := k * 4 + 2) (by omega)
      obtain ⟨o3, q3⟩ := hf1.cell (j := k * 4 + 3) (by omega)
      have hff := hf1.frozen
      have HF := Lib.hid hf1
      clear hf1
      go_wp2_with fail
      go_roundw
      case rel =>
        obtain ⟨f0, f1, f2, f3⟩ := Move.fl l hlt
        have hend := ((((HF.out.set f0 (by omega)).set f1 (by omega)).set f2 (by omega)).set f3 (by omega))
        exact ⟨k + 1, by omega, by go_num, by rw [Nat.succ_mul]; exact hend, by (first | ((repeat' first | (with_reducible (first | exact Below.refl _ _ | assumption | refine Below.setCell ?_ ?_ _ | refine Below.alloc ?_ ?_ _ | refine Below.drew ?_ | refine below_drewN ?_ _ | refine Below.trans ?_ (Below.mono (by assumption) ?_))) | omega | (simp; omega) | (simp; done)); done) | (repeat' first | exact Below.refl _ _ | assumption | refine Below.setCell ?_ (by first | omega | (simp; omega) | (simp; done)) _ | refine Below.alloc ?_ (by first | omega | (simp; omega) | (simp; done)) _ | refine Below.drew ?_ | refine below_drewN ?_ _ | refine Below.trans ?_ (Below.mono (by assumption) (by first | omega | (simp; omega) | (simp; done)))))⟩
      case measure => simp [intOf]; omega
    · obtain rfl : k = l.length := by omega
      have HF := Lib.hid hfill
      clear hfill
      go_wp2
      go_ret
      exact ⟨rfl, (by have h := Fill.ow (rows := l.map Move.cells) (size := 4) (by rw [List.length_map]; exact HF.out) (Move.uni l) (Nat.le_refl _) (by rw [List.length_map]; simp only [maxLen]; omega); rwa [List.length_map] at h), hbw⟩
set_option maxRecDepth 100000 in
set_option maxHeartbeats 1000000 in
theorem l_eqMoveS (l : List Move) (A1 A2 : Option Addr) (cap1 cap2 : Nat) (w : World) (hl : l.length ≤ 1048576) (hr1 : Rd w w.heap.size 4 A1 (l.map Move.cells)) (hr2 : Rd w w.heap.size 4 A2 (l.map Move.cells)) :
    Calls Try.prog 24 #[.slice A1 l.length cap1, .slice A2 l.length cap2] w fun e w' => e = .returned (.bool true) ∧ Below w.heap.size w w' := by
  go_enter Try.func24, Try.ntmps24
  go_wp2_with fail
  go_loopw [5] (fun i wr => ∃ k : Nat, k ≤ l.length ∧ i = .int .i64 k ∧ Below w.heap.size w wr) (fun i _ => l.length - (intOf i).toNat)
  case atStart => exact ⟨0, Nat.zero_le _, rfl, Below.refl _ _⟩
  case round =>
    obtain ⟨k, hk, rfl, hbw⟩ := hrel
    have hbz := hbw.size
    by_cases hlt : k < l.length
    · obtain ⟨b, off, rfl, hbB, c0, c1, c2, c3⟩ := Move.rd (hr1.below hbw) hlt
      obtain ⟨b', off', rfl, hbB', d0, d1, d2, d3⟩ := Move.rd (hr2.below hbw) hlt
      clear hr1 hr2
      go_wp2_with fail
      go_still_tail 8, (by kernel_rfl)
      change wpList _ _ _ _ _ wr.drew
      go_wp2_with fail
      refine (l_eqMove _ _ _ _ _).mono ?_
      rintro e w1 ⟨rfl, hb1⟩
      go_wp2_with fail
      go_roundw
      case rel => exact ⟨k + 1, by omega, by go_num, by (first | ((repeat' first | (with_reducible (first | exact Below.refl _ _ | assumption | refine Below.setCell ?_ ?_ _ | refine Below.alloc ?_ ?_ _ | refine Below.drew ?_ | refine below_drewN ?_ _ | refine Below.trans ?_ (Below.mono (by assumption) ?_))) | omega | (simp; omega) | (simp; done)); done) | (repeat' first | exact Below.refl _ _ | assumption | refine Below.setCell ?_ (by first | omega | (simp; omega) | (simp; done)) _ | refine Below.alloc ?_ (by first | omega | (simp; omega) | (simp; done)) _ | refine Below.drew ?_ | refine below_drewN ?_ _ | refine Below.trans ?_ (Below.mono (by assumption) (by first | omega | (simp; omega) | (simp; done)))))⟩
      case measure => simp [intOf]; omega
    · obtain rfl : k = l.length := by omega
      clear hr1 hr2
      go_wp2
      go_ret
      exact ⟨rfl, hbw⟩
set_option maxRecDepth 100000 in
set_option maxHeartbeats 1000000 in
theorem l_markMoveS (B : Nat) (v : Value) (rows : List (List Value)) (k : Int) (w : World) (h0 : 0 ≤ k) (h1 : k ≤ 1099511627776) (hl : rows.length ≤ 1048576) (how : Ow w B 92 4 v rows) :
    Calls Try.prog 27 #[v, .int .i64 k] w fun e w' => e = .returned (.int .i64 (k + (rows.length * 4 : Nat))) ∧ (∀ A n cap, v = .slice A n cap → Marked w' A (rows.length * 4) k) ∧ w.grownBy w' v.ownBlock := by
  rcases how.open_ with ⟨rfl, rfl⟩ | ⟨g, cap, rfl, _, hcap, hgw⟩
  · clear how
    go_enter Try.func27, Try.ntmps27
    go_wp2_with fail
    go_loopw [1, 5] (fun q i wr => i = .int .i64 0 ∧ q = .int .i64 k ∧ wr = w) (fun _ i _ => 0)
    case atStart => exact ⟨rfl, rfl, rfl⟩
    case round =>
      obtain ⟨rfl, rfl, rfl⟩ := hrel
      go_wp2
      go_ret
      exact ⟨by simp, fun A n cap hv h => by simp at h, World.grownBy.refl _ _⟩
  · have hfs : Fill w g 92 (cap * 4) 0 (markRow k (rows.length * 4)) := Fill.of_ow how
    obtain ⟨m, hm⟩ : ∃ m, rows.length = m := ⟨_, rfl⟩
    rw [hm] at hfs hcap hl ⊢
    have hcm : m * 4 ≤ cap * 4 := Nat.mul_le_mul_right _ hcap
    have HFS := Lib.hid hfs
    clear hfs how hm
    go_enter Try.func27, Try.ntmps27
    go_wp2_with fail
    go_loopw [1, 5] (fun q i wr => ∃ j : Nat, j ≤ m ∧ i = .int .i64 j ∧ q = .int .i64 (k + (j * 4 : Nat)) ∧ Fill wr g 92 (cap * 4) (j * 4) (markRow k (m * 4)) ∧ w.grownBy wr (some g)) (fun _ i _ => m - (intOf i).toNat)
    case atStart => exact ⟨0, Nat.zero_le _, rfl, by simp, by rw [Nat.zero_mul]; exact HFS.out, World.grownBy.refl _ _⟩
    case round =>
      obtain ⟨i, hi, rfl, rfl, hfill, hgr⟩ := hrel
      have hglt := hfill.lt
      have hff := hfill.frozen
      have HF := Lib.hid hfill
      have HG := Lib.hid hgr
      by_cases hlt : i < m
      · have him : i * 4 + 4 ≤ m * 4 := by
          have := Nat.mul_le_mul_right 4 hlt
          rw [Nat.succ_mul] at this
          exact this
        obtain ⟨o0, q0⟩ := hfill.cell (j := i * 4) (by omega)
        obtain ⟨o1, q1⟩ := hfill.cell (j := i * 4 + 1) (by omega)
        obtain ⟨o2, q2⟩ := hfill.cell (j := i * 4 + 2) (by omega)
        obtain ⟨o3, q3⟩ := hfill.cell (j := i * 4 + 3) (by omega)
        clear hfill hgr HFS
        go_wp2_with fail
        go_roundw
        case rel => exact ⟨i + 1, by omega, by go_num, by congr 1; omega, by rw [Nat.succ_mul]; exact (Fill.set (Fill.set (Fill.set (Fill.set HF.out (by rw [markRow_get _ (by omega)]; congr 2 <;> omega) (by omega)) (by rw [markRow_get _ (by omega)]; congr 2 <;> omega) (by omega)) (by rw [markRow_get _ (by omega)]; congr 2 <;> omega) (by omega)) (by rw [markRow_get _ (by omega)]; congr 2 <;> omega) (by omega)), (grown_set (grown_set (grown_set (grown_set HG.out _ _) _ _) _ _) _ _)⟩
        case measure => simp [intOf]; omega
      · obtain rfl : i = m := by omega
        clear hfill hgr HFS
        go_wp2
        go_ret
        refine ⟨rfl, fun A n cap' hv => ?_, HG.out⟩
        injection hv with hv1
        rw [← hv1]
        exact Fill.marked HF.out
set_option maxHeartbeats 1000000 in
theorem l_heldMoveS (A : Option Addr) (m cap : Nat) (k : Int) (w : World) (h0 : 0 ≤ k) (h1 : k ≤ 1099511627776) (hl : m ≤ 1048576) (hmk : Marked w A (m * 4) k) :
    Calls Try.prog 28 #[.slice A m cap, .int .i64 k] w fun e w' => e = .returned (.int .i64 (k + (m * 4 : Nat))) ∧ w = w' := by
  have HM := Lib.hid hmk
  clear hmk
  go_enter Try.func28, Try.ntmps28
  go_wp2_with fail
  go_loop [1, 5] (fun q i => ∃ j : Nat, j ≤ m ∧ i = .int .i64 j ∧ q = .int .i64 (k + (j * 4 : Nat))) (fun _ i => m - (intOf i).toNat)
  case atStart => exact ⟨0, Nat.zero_le _, rfl, by simp⟩
  case round =>
    obtain ⟨i, hi, rfl, rfl⟩ := hrel
    by_cases hlt : i < m
    · have him : i * 4 + 4 ≤ m * 4 := by
        have := Nat.mul_le_mul_right 4 hlt
        rw [Nat.succ_mul] at this
        exact this
      obtain ⟨g, rfl, hg, hc⟩ := HM.out (by omega)
      have q0 := hc (i * 4) (by omega)
      have q1 := hc (i * 4 + 1) (by omega)
      have q2 := hc (i * 4 + 2) (by omega)
      have q3 := hc (i * 4 + 3) (by omega)
      clear hc
      go_wp2_with fail
      go_round
      case rel => exact ⟨i + 1, by omega, by go_num, by congr 1; omega⟩
      case measure => simp [intOf]; omega
    · obtain rfl : i = m := by omega
      go_wp2
      go_ret
      exact ⟨rfl, rfl⟩
end Go.Proofs.Ytmafdoloidlfeaa
