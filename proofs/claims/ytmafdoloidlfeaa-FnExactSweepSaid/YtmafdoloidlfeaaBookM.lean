/- Books: markBook. -/
import Derived.Test.YtmafdoloidlfeaaRows
import Derived.Test.YtmafdoloidlfeaaBookF
import Derived.IntWalk
namespace Go.Proofs.Ytmafdoloidlfeaa
open Go.RowKit

theorem Fill.put {w : World} {g N : Nat} {e : TypeId} (h : Fill w g e N 0 []) (c : Nat) (v : Value) : Fill (w.setCell ⟨g, c, none⟩ v) g e N 0 [] := by
  obtain ⟨cs, hh, hs, hx⟩ := h
  exact ⟨_, heap_set hh, by simpa using hs, fun j hj => absurd hj (Nat.not_lt_zero _)⟩
theorem Fill.grown {w w' : World} {g g' N : Nat} {e : TypeId} (h : Fill w g e N 0 []) (hg : w.grownBy w' (some g')) (hne : g ≠ g') : Fill w' g e N 0 [] := by
  obtain ⟨cs, hh, hs, hx⟩ := h
  exact ⟨cs, (hg.block g (Array.getElem?_eq_some_iff.1 hh).1 (fun e => hne (by injection e))).trans hh, hs, fun j hj => absurd hj (Nat.not_lt_zero _)⟩
theorem Fill.alloc0 {w : World} {g N : Nat} {e : TypeId} (h : Fill w g e N 0 []) (o : Obj) : Fill (w.alloc o) g e N 0 [] := by
  obtain ⟨cs, hh, hs, hx⟩ := h
  exact ⟨cs, heap_past (Array.getElem?_eq_some_iff.1 hh).1 hh, hs, fun j hj => absurd hj (Nat.not_lt_zero _)⟩
theorem Fill.differ {w : World} {g g' N N' : Nat} {e e' : TypeId} (h : Fill w g e N 0 []) (h' : Fill w g' e' N' 0 []) (hne : e ≠ e') : g ≠ g' := by
  rintro rfl
  obtain ⟨cs, hh, _⟩ := h
  obtain ⟨cs', hh', _⟩ := h'
  rw [hh] at hh'
  injection hh' with q
  injection q with _ q2
  exact hne q2
set_option maxRecDepth 100000 in
set_option maxHeartbeats 2000000 in
theorem l_markChanS_w (g m cap : Nat) (k : Int) (w : World) (h0 : 0 ≤ k) (h1 : k ≤ 1099511627776) (hl : m ≤ 1048576) (hcap : m ≤ cap) (hfs : Fill w g 88 (cap * 7) 0 []) :
    Calls Try.prog 86 #[.slice (some ⟨g, 0, none⟩) m cap, .int .i64 k] w fun e w' => e = .returned (.int .i64 (k + (m * 7 : Nat))) ∧ w.grownBy w' (some g) := by
  have hcm : m * 7 ≤ cap * 7 := Nat.mul_le_mul_right _ hcap
  have HFS := Lib.hid hfs
  clear hfs
  go_enter Try.func86, Try.ntmps86
  go_wp2_with fail
  go_loopw [1, 5] (fun q i wr => ∃ j : Nat, j ≤ m ∧ i = .int .i64 j ∧ q = .int .i64 (k + (j * 7 : Nat)) ∧ Fill wr g 88 (cap * 7) 0 [] ∧ w.grownBy wr (some g)) (fun _ i _ => m - (intOf i).toNat)
  case atStart => exact ⟨0, Nat.zero_le _, rfl, by simp, HFS.out, World.grownBy.refl _ _⟩
  case round =>
    obtain ⟨i, hi, rfl, rfl, hfill, hgr⟩ := hrel
    have hglt := hfill.lt
    have hff := hfill.frozen
    have HF := Lib.hid hfill
    have HG := Lib.hid hgr
    by_cases hlt : i < m
    · have him : i * 7 + 7 ≤ m * 7 := by
        have := Nat.mul_le_mul_right 7 hlt
        rw [Nat.succ_mul] at this
        exact this
      obtain ⟨o0, q0⟩ := hfill.cell (j := i * 7) (by omega)
      obtain ⟨o1, q1⟩ := hfill.cell (j := i * 7 + 1) (by omega)
      obtain ⟨o2, q2⟩ := hfill.cell (j := i * 7 + 2) (by omega)
      obtain ⟨o3, q3⟩ := hfill.cell (j := i * 7 + 3) (by omega)
      obtain ⟨o4, q4⟩ := hfill.cell (j := i * 7 + 4) (by omega)
      obtain ⟨o5, q5⟩ := hfill.cell (j := i * 7 + 5) (by omega)
      obtain ⟨o6, q6⟩ := hfill.cell (j := i * 7 + 6) (by omega)
      clear hfill hgr HFS
      go_wp2_with fail
      go_roundw
      case rel => exact ⟨i + 1, by omega, by go_num, by congr 1; omega, (Fill.put (Fill.put (Fill.put (Fill.put (Fill.put (Fill.put (Fill.put HF.out _ _) _ _) _ _) _ _) _ _) _ _) _ _), (grown_set (grown_set (grown_set (grown_set (grown_set (grown_set (grown_set HG.out _ _) _ _) _ _) _ _) _ _) _ _) _ _)⟩
      case measure => simp [intOf]; omega
    · obtain rfl : i = m := by omega
      clear hfill hgr HFS
      go_wp2
      go_ret
      exact ⟨rfl, HG.out⟩
set_option maxRecDepth 100000 in
set_option maxHeartbeats 2000000 in
theorem l_markHtlcS_w (g m cap : Nat) (k : Int) (w : World) (h0 : 0 ≤ k) (h1 : k ≤ 1099511627776) (hl : m ≤ 1048576) (hcap : m ≤ cap) (hfs : Fill w g 112 (cap * 7) 0 []) :
    Calls Try.prog 87 #[.slice (some ⟨g, 0, none⟩) m cap, .int .i64 k] w fun e w' => e = .returned (.int .i64 (k + (m * 7 : Nat))) ∧ w.grownBy w' (some g) := by
  have hcm : m * 7 ≤ cap * 7 := Nat.mul_le_mul_right _ hcap
  have HFS := Lib.hid hfs
  clear hfs
  go_enter Try.func87, Try.ntmps87
  go_wp2_with fail
  go_loopw [1, 5] (fun q i wr => ∃ j : Nat, j ≤ m ∧ i = .int .i64 j ∧ q = .int .i64 (k + (j * 7 : Nat)) ∧ Fill wr g 112 (cap * 7) 0 [] ∧ w.grownBy wr (some g)) (fun _ i _ => m - (intOf i).toNat)
  case atStart => exact ⟨0, Nat.zero_le _, rfl, by simp, HFS.out, World.grownBy.refl _ _⟩
  case round =>
    obtain ⟨i, hi, rfl, rfl, hfill, hgr⟩ := hrel
    have hglt := hfill.lt
    have hff := hfill.frozen
    have HF := Lib.hid hfill
    have HG := Lib.hid hgr
    by_cases hlt : i < m
    · have him : i * 7 + 7 ≤ m * 7 := by
        have := Nat.mul_le_mul_right 7 hlt
        rw [Nat.succ_mul] at this
        exact this
      obtain ⟨o0, q0⟩ := hfill.cell (j := i * 7) (by omega)
      obtain ⟨o1, q1⟩ := hfill.cell (j := i * 7 + 1) (by omega)
      obtain ⟨o2, q2⟩ := hfill.cell (j := i * 7 + 2) (by omega)
      obtain ⟨o3, q3⟩ := hfill.cell (j := i * 7 + 3) (by omega)
      obtain ⟨o4, q4⟩ := hfill.cell (j := i * 7 + 4) (by omega)
      obtain ⟨o5, q5⟩ := hfill.cell (j := i * 7 + 5) (by omega)
      obtain ⟨o6, q6⟩ := hfill.cell (j := i * 7 + 6) (by omega)
      clear hfill hgr HFS
      go_wp2_with fail
      go_roundw
      case rel => exact ⟨i + 1, by omega, by go_num, by congr 1; omega, (Fill.put (Fill.put (Fill.put (Fill.put (Fill.put (Fill.put (Fill.put HF.out _ _) _ _) _ _) _ _) _ _) _ _) _ _), (grown_set (grown_set (grown_set (grown_set (grown_set (grown_set (grown_set HG.out _ _) _ _) _ _) _ _) _ _) _ _) _ _)⟩
      case measure => simp [intOf]; omega
    · obtain rfl : i = m := by omega
      clear hfill hgr HFS
      go_wp2
      go_ret
      exact ⟨rfl, HG.out⟩
set_option maxRecDepth 100000 in
set_option maxHeartbeats 2000000 in
theorem l_markCircleS_w (g m cap : Nat) (k : Int) (w : World) (h0 : 0 ≤ k) (h1 : k ≤ 1099511627776) (hl : m ≤ 1048576) (hcap : m ≤ cap) (hfs : Fill w g 122 (cap * 5) 0 []) :
    Calls Try.prog 88 #[.slice (some ⟨g, 0, none⟩) m cap, .int .i64 k] w fun e w' => e = .returned (.int .i64 (k + (m * 5 : Nat))) ∧ w.grownBy w' (some g) := by
  have hcm : m * 5 ≤ cap * 5 := Nat.mul_le_mul_right _ hcap
  have HFS := Lib.hid hfs
  clear hfs
  go_enter Try.func88, Try.ntmps88
  go_wp2_with fail
  go_loopw [1, 5] (fun q i wr => ∃ j : Nat, j ≤ m ∧ i = .int .i64 j ∧ q = .int .i64 (k + (j * 5 : Nat)) ∧ Fill wr g 122 (cap * 5) 0 [] ∧ w.grownBy wr (some g)) (fun _ i _ => m - (intOf i).toNat)
  case atStart => exact ⟨0, Nat.zero_le _, rfl, by simp, HFS.out, World.grownBy.refl _ _⟩
  case round =>
    obtain ⟨i, hi, rfl, rfl, hfill, hgr⟩ := hrel
    have hglt := hfill.lt
    have hff := hfill.frozen
    have HF := Lib.hid hfill
    have HG := Lib.hid hgr
    by_cases hlt : i < m
    · have him : i * 5 + 5 ≤ m * 5 := by
        have := Nat.mul_le_mul_right 5 hlt
        rw [Nat.succ_mul] at this
        exact this
      obtain ⟨o0, q0⟩ := hfill.cell (j := i * 5) (by omega)
      obtain ⟨o1, q1⟩ := hfill.cell (j := i * 5 + 1) (by omega)
      obtain ⟨o2, q2⟩ := hfill.cell (j := i * 5 + 2) (by omega)
      obtain ⟨o3, q3⟩ := hfill.cell (j := i * 5 + 3) (by omega)
      obtain ⟨o4, q4⟩ := hfill.cell (j := i * 5 + 4) (by omega)
      clear hfill hgr HFS
      go_wp2_with fail
      go_roundw
      case rel => exact ⟨i + 1, by omega, by go_num, by congr 1; omega, (Fill.put (Fill.put (Fill.put (Fill.put (Fill.put HF.out _ _) _ _) _ _) _ _) _ _), (grown_set (grown_set (grown_set (grown_set (grown_set HG.out _ _) _ _) _ _) _ _) _ _)⟩
      case measure => simp [intOf]; omega
    · obtain rfl : i = m := by omega
      clear hfill hgr HFS
      go_wp2
      go_ret
      exact ⟨rfl, HG.out⟩
set_option maxRecDepth 100000 in
set_option maxHeartbeats 2000000 in
theorem l_markBook (bt bn bw : Int) (g1 g2 g3 m1 m2 m3 p1 p2 p3 : Nat) (k : Int) (w : World) (h0 : 0 ≤ k) (h1 : k ≤ 1048576) (l1 : m1 ≤ 1048576) (l2 : m2 ≤ 1048576) (l3 : m3 ≤ 1048576) (c1 : m1 ≤ p1) (c2 : m2 ≤ p2) (c3 : m3 ≤ p3)
    (f1 : Fill w g1 88 (p1 * 7) 0 []) (f2 : Fill w g2 112 (p2 * 7) 0 []) (f3 : Fill w g3 122 (p3 * 5) 0 []) :
    Calls Try.prog 40 #[.agg #[.int .i64 bt, .int .i64 bn, .int .i64 bw, .slice (some ⟨g1, 0, none⟩) m1 p1, .slice (some ⟨g2, 0, none⟩) m2 p2, .slice (some ⟨g3, 0, none⟩) m3 p3], .int .i64 k] w fun e w' => e = .returned (.int .i64 (k + (m1 * 7 : Nat) + (m2 * 7 : Nat) + (m3 * 5 : Nat))) ∧ ∃ wa wb, w.grownBy wa (some g1) ∧ wa.grownBy wb (some g2) ∧ wb.grownBy w' (some g3) := by
  have d12 := Fill.differ f1 f2 (by decide)
  have d13 := Fill.differ f1 f3 (by decide)
  have d23 := Fill.differ f2 f3 (by decide)
  have t1 := f1.lt
  have t2 := f2.lt
  have t3 := f3.lt
  have F1 := Lib.hid f1
  have F2 := Lib.hid f2
  have F3 := Lib.hid f3
  clear f1 f2 f3
  go_enter Try.func40, Try.ntmps40
  go_wp2_with fail
  refine (l_markChanS_w g1 m1 p1 k _ h0 (by omega) l1 c1 (F1.out.alloc0 _)).mono ?_
  rintro e w1 ⟨rfl, hg1⟩
  obtain ⟨kh, k0, k1, k2, k3, k4, k5, kf, kz⟩ := ownG6 hg1 (g := w.heap.size) (by simp; omega) (heap_at rfl)
  have A1 := Lib.hid (grown_trans (grown_of_below ((Below.refl w.heap.size w).alloc (Nat.le_refl _) _)) hg1)
  have G2 := Lib.hid ((F2.out.alloc0 _).grown hg1 (fun e => d12 e.symm))
  have G3 := Lib.hid ((F3.out.alloc0 _).grown hg1 (fun e => d13 e.symm))
  have KH := Lib.hid kh
  clear hg1 kh F1 F2 F3
  go_wp2_with fail
  refine (l_markHtlcS_w g2 m2 p2 _ _ (by omega) (by omega) l2 c2 G2.out).mono ?_
  rintro e w2 ⟨rfl, hg2⟩
  obtain ⟨jh, j0, j1, j2, j3, j4, j5, jf, jz⟩ := ownG6 hg2 (g := w.heap.size) (by simp; omega) KH.out
  have A2 := Lib.hid hg2
  have H3 := Lib.hid (G3.out.grown hg2 (fun e => d23 e.symm))
  clear hg2 jh k0 k1 k2 k3 k4 k5 kf kz KH G2 G3
  go_wp2_with fail
  refine (l_markCircleS_w g3 m3 p3 _ _ (by omega) (by omega) l3 c3 H3.out).mono ?_
  rintro e w3 ⟨rfl, hg3⟩
  have A3 := Lib.hid hg3
  clear hg3
  go_wp2_with fail
  go_ret
  exact ⟨rfl, w1, w2, A1.out, A2.out, A3.out⟩
end Go.Proofs.Ytmafdoloidlfeaa
