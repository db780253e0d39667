/- Draws of buckets. -/
import Derived.Test.YtplchgkppkibnaaRows
import Derived.Test.YtplchgkppkibnaaDraw
import Derived.Deep.RegionHeld3
namespace Go.Proofs.Ytplchgkppkibnaa
open Go.RowKit

theorem grown_alloc {a w : World} {r : Option Nat} (h : a.grownBy w r) (o : Obj) : a.grownBy (w.alloc o) r := grown_trans h (grown_of_below ((Below.refl _ _).alloc (Nat.le_refl _) o))
theorem grown_setNew {a w : World} {r : Option Nat} {b : Nat} (h : a.grownBy w r) (hb : a.heap.size ≤ b) (i : Nat) (u : Value) : a.grownBy (w.setCell ⟨b, i, none⟩ u) r :=
  ⟨h.os, h.tape, h.output, by simpa [World.setCell] using h.size, fun k hk hne => (Below.heap_setCell w ⟨b, i, none⟩ u k (fun e => by simp only at e; omega)).trans (h.block k hk hne)⟩
theorem sizeUp1 (w : World) (o : Obj) : (w.alloc o).heap.size = w.heap.size + 1 := by simp
theorem someNe {a b : Nat} (h : a ≠ b) : some a ≠ some b := fun e => h (Option.some.inj e)
theorem grown_undrew' {w w' : World} {r : Option Nat} (h : w.drew.grownBy w' r) : w.grownBy w' r := ⟨h.os, h.tape, h.output, h.size, h.block⟩
theorem cell_set_self {w : World} {g i : Nat} {u : Value} {t : TypeId} {cs : Array Value} (k : w.heap[g]? = some (.cells cs t (0, 0))) (hi : i < cs.size) : (w.setCell ⟨g, i, none⟩ u).cell? ⟨g, i, none⟩ = some u := by
  rw [blk_cell (heap_set k)]
  simp [hi]
def DrewB (g : Nat) (w : World) (e : Ending) (w' : World) : Prop := ∃ s r q t : Int, e = .returned (.agg #[.int .i64 s, .int .i64 r, .int .i64 q, .int .i64 t]) ∧ Crs w' g ∧ w.grownBy w' (some g)
set_option maxRecDepth 100000 in
set_option maxHeartbeats 4000000 in
theorem s_l18Draw (g : Nat) (w : World) (hc : Crs w g) :
    Calls Try.prog 49 #[.pointer (some ⟨g, 0, none⟩)] w (DrewB g w) := by
  have hgw := hc.lt
  go_enter Try.func49, Try.ntmps49
  go_wp2_with fail
  refine (s_l01Below g 100 _ (hc.alloc _) (by decide) (by decide)).mono ?_
  rintro e w1 ⟨x, xa, xb, rfl, hc1, hg1⟩
  have z1 := hg1.size
  try simp at z1
  have r1 : w1.heap[w.heap.size]? = some (.cells #[.int .i64 0, .int .i64 0, .int .i64 0, .int .i64 0] 24 (0, 0)) := heap_grown hg1 (someNe (by omega)) (heap_at rfl)
  go_wp2_with fail
  refine (s_l01Below g 5 _ hc1 (by decide) (by decide)).mono ?_
  rintro e w2 ⟨y, ya, yb, rfl, hc2, hg2⟩
  have z2 := hg2.size
  try simp at z2
  have r2 := heap_grown hg2 (someNe (by omega)) r1
  go_wp2_with fail
  refine (s_l01Below g 50 _ hc2 (by decide) (by decide)).mono ?_
  rintro e w3 ⟨z, za, zb, rfl, hc3, hg3⟩
  have z3 := hg3.size
  try simp at z3
  have r3 := heap_grown hg3 (someNe (by omega)) r2
  clear r1 r2
  go_wp2_with fail
  refine (s_l01Below g (x + 1) _ (hc3.alloc _) (by omega) (by omega)).mono ?_
  rintro e w4 ⟨u, ua, ub, rfl, hc4, hg4⟩
  have z4 := hg4.size
  try simp at z4
  have b4 : w4.heap[w3.heap.size]? = some (.cells #[.int .i64 x, .int .i64 y, .int .i64 0, .int .i64 z] 24 (0, 0)) := heap_grown hg4 (someNe (by omega)) (heap_at rfl)
  have r4 := heap_grown hg4 (someNe (by omega)) (heap_past (by omega) r3)
  obtain ⟨_, c0, c1, c2, c3, cf, cz⟩ := own4 (Below.refl w4.heap.size w4) (Array.getElem?_eq_some_iff.1 b4).1 b4
  have B4 := Lib.hid b4
  have R4 := Lib.hid r4
  clear b4 r4 r3
  go_wp2_with fail
  refine (s_l01Below g 16 _ (hc4.set (by omega)) (by decide) (by decide)).mono ?_
  rintro e w5 ⟨k, ka, kb, rfl, hc5, hg5⟩
  have z5 := hg5.size
  try simp at z5
  have b5 : w5.heap[w3.heap.size]? = some (.cells #[.int .i64 x, .int .i64 y, .int .i64 u, .int .i64 z] 24 (0, 0)) := heap_grown hg5 (someNe (by omega)) (heap_set B4.out)
  have r5 : w5.heap[w.heap.size]? = some (.cells #[.int .i64 0, .int .i64 0, .int .i64 0, .int .i64 0] 24 (0, 0)) := heap_grown hg5 (someNe (by omega)) (heap_far (by simp; omega) R4.out)
  obtain ⟨_, d0, d1, d2, d3, df, dz⟩ := own4 (Below.refl w5.heap.size w5) (Array.getElem?_eq_some_iff.1 b5).1 b5
  obtain ⟨_, f0, f1, f2, f3, ff, fz⟩ := own4 (Below.refl w5.heap.size w5) (Array.getElem?_eq_some_iff.1 r5).1 r5
  have B5 := Lib.hid b5
  have R5 := Lib.hid r5
  have hG5 : w.grownBy w5 (some g) := by (repeat' first | exact World.grownBy.refl _ _ | (with_reducible assumption) | refine grown_alloc ?_ _ | refine grown_setNew ?_ ?_ _ _ | refine grown_trans ?_ (by with_reducible assumption) | omega)
  clear b5 r5 c0 c1 c2 c3 cf hg1 hg2 hg3 hg4 hg5 hc1 hc2 hc3 hc4 hc B4 R4
  have hcase : k = 0 ∨ k = 1 ∨ k = 2 ∨ k = 3 ∨ k = 4 ∨ 5 ≤ k := by omega
  rcases hcase with rfl | rfl | rfl | rfl | rfl | hk
  · go_wp2_with fail
    refine (s_l01Raw g _ hc5).mono ?_
    rintro e w6 ⟨n, na, nb, rfl, hc6, hg6⟩
    have z6 := hg6.size
    try simp at z6
    have b6 := heap_grown hg6 (someNe (by omega)) B5.out
    have r6 := heap_grown hg6 (someNe (by omega)) R5.out
    obtain ⟨_, h0, h1, h2, h3, hf, hz⟩ := own4 (Below.refl w6.heap.size w6) (Array.getElem?_eq_some_iff.1 b6).1 b6
    obtain ⟨_, j0, j1, j2, j3, jf, jz⟩ := own4 (Below.refl w6.heap.size w6) (Array.getElem?_eq_some_iff.1 r6).1 r6
    have hG6 : w.grownBy w6 (some g) := grown_trans hG5 hg6
    have R6 := Lib.hid r6
    clear b6 r6 d0 d1 d2 d3 df f0 f1 f2 f3 ff hg6 hG5 B5 R5
    have hne : w.heap.size ≠ w3.heap.size := by omega
    have hne2 : w3.heap.size ≠ w.heap.size := by omega
    go_wp2_with fail
    have p0 : (w6.setCell ⟨w3.heap.size, 0, none⟩ (.int .i64 n)).heap[w.heap.size]? = some (.cells #[.int .i64 0, .int .i64 0, .int .i64 0, .int .i64 0] 24 (0, 0)) := heap_far hne R6.out
    have q0 : ((w6.setCell ⟨w3.heap.size, 0, none⟩ (.int .i64 n)).setCell ⟨w.heap.size, 0, none⟩ (.int .i64 n)).cell? ⟨w.heap.size, 0, none⟩ = some (.int .i64 n) := cell_set_self p0 (by simp)
    have p1 := heap_set (i := 0) (u := .int .i64 n) p0
    have q1 : (((w6.setCell ⟨w3.heap.size, 0, none⟩ (.int .i64 n)).setCell ⟨w.heap.size, 0, none⟩ (.int .i64 n)).setCell ⟨w.heap.size, 1, none⟩ (.int .i64 y)).cell? ⟨w.heap.size, 1, none⟩ = some (.int .i64 y) := cell_set_self p1 (by simp)
    have p2 := heap_set (i := 1) (u := .int .i64 y) p1
    have q2 : ((((w6.setCell ⟨w3.heap.size, 0, none⟩ (.int .i64 n)).setCell ⟨w.heap.size, 0, none⟩ (.int .i64 n)).setCell ⟨w.heap.size, 1, none⟩ (.int .i64 y)).setCell ⟨w.heap.size, 2, none⟩ (.int .i64 u)).cell? ⟨w.heap.size, 2, none⟩ = some (.int .i64 u) := cell_set_self p2 (by simp)
    have p3 := heap_set (i := 2) (u := .int .i64 u) p2
    have q3 : (((((w6.setCell ⟨w3.heap.size, 0, none⟩ (.int .i64 n)).setCell ⟨w.heap.size, 0, none⟩ (.int .i64 n)).setCell ⟨w.heap.size, 1, none⟩ (.int .i64 y)).setCell ⟨w.heap.size, 2, none⟩ (.int .i64 u)).setCell ⟨w.heap.size, 3, none⟩ (.int .i64 z)).cell? ⟨w.heap.size, 3, none⟩ = some (.int .i64 z) := cell_set_self p3 (by simp)
    have p4 := heap_set (i := 3) (u := .int .i64 z) p3
    refine bodyPost_ret (v := .agg #[.int .i64 n, .int .i64 y, .int .i64 u, .int .i64 z]) (by simp [results, Try.results49, go_sem, q0, q1, q2, q3]) rfl ⟨_, _, _, _, rfl, ((((hc6.set (by omega)).set (by omega)).set (by omega)).set (by omega)).set (by omega), ?_⟩
    (repeat' first | exact World.grownBy.refl _ _ | (with_reducible assumption) | refine grown_alloc ?_ _ | refine grown_setNew ?_ ?_ _ _ | refine grown_trans ?_ (by with_reducible assumption) | omega)
  · go_wp2_with fail
    refine (s_l01Raw g _ hc5).mono ?_
    rintro e w6 ⟨n, na, nb, rfl, hc6, hg6⟩
    have z6 := hg6.size
    try simp at z6
    have b6 := heap_grown hg6 (someNe (by omega)) B5.out
    have r6 := heap_grown hg6 (someNe (by omega)) R5.out
    obtain ⟨_, h0, h1, h2, h3, hf, hz⟩ := own4 (Below.refl w6.heap.size w6) (Array.getElem?_eq_some_iff.1 b6).1 b6
    obtain ⟨_, j0, j1, j2, j3, jf, jz⟩ := own4 (Below.refl w6.heap.size w6) (Array.getElem?_eq_some_iff.1 r6).1 r6
    have hG6 : w.grownBy w6 (some g) := grown_trans hG5 hg6
    have R6 := Lib.hid r6
    clear b6 r6 d0 d1 d2 d3 df f0 f1 f2 f3 ff hg6 hG5 B5 R5
    have hne : w.heap.size ≠ w3.heap.size := by omega
    have hne2 : w3.heap.size ≠ w.heap.size := by omega
    go_wp2_with fail
    have p0 : (w6.setCell ⟨w3.heap.size, 1, none⟩ (.int .i64 n)).heap[w.heap.size]? = some (.cells #[.int .i64 0, .int .i64 0, .int .i64 0, .int .i64 0] 24 (0, 0)) := heap_far hne R6.out
    have q0 : ((w6.setCell ⟨w3.heap.size, 1, none⟩ (.int .i64 n)).setCell ⟨w.heap.size, 0, none⟩ (.int .i64 x)).cell? ⟨w.heap.size, 0, none⟩ = some (.int .i64 x) := cell_set_self p0 (by simp)
    have p1 := heap_set (i := 0) (u := .int .i64 x) p0
    have q1 : (((w6.setCell ⟨w3.heap.size, 1, none⟩ (.int .i64 n)).setCell ⟨w.heap.size, 0, none⟩ (.int .i64 x)).setCell ⟨w.heap.size, 1, none⟩ (.int .i64 n)).cell? ⟨w.heap.size, 1, none⟩ = some (.int .i64 n) := cell_set_self p1 (by simp)
    have p2 := heap_set (i := 1) (u := .int .i64 n) p1
    have q2 : ((((w6.setCell ⟨w3.heap.size, 1, none⟩ (.int .i64 n)).setCell ⟨w.heap.size, 0, none⟩ (.int .i64 x)).setCell ⟨w.heap.size, 1, none⟩ (.int .i64 n)).setCell ⟨w.heap.size, 2, none⟩ (.int .i64 u)).cell? ⟨w.heap.size, 2, none⟩ = some (.int .i64 u) := cell_set_self p2 (by simp)
    have p3 := heap_set (i := 2) (u := .int .i64 u) p2
    have q3 : (((((w6.setCell ⟨w3.heap.size, 1, none⟩ (.int .i64 n)).setCell ⟨w.heap.size, 0, none⟩ (.int .i64 x)).setCell ⟨w.heap.size, 1, none⟩ (.int .i64 n)).setCell ⟨w.heap.size, 2, none⟩ (.int .i64 u)).setCell ⟨w.heap.size, 3, none⟩ (.int .i64 z)).cell? ⟨w.heap.size, 3, none⟩ = some (.int .i64 z) := cell_set_self p3 (by simp)
    have p4 := heap_set (i := 3) (u := .int .i64 z) p3
    refine bodyPost_ret (v := .agg #[.int .i64 x, .int .i64 n, .int .i64 u, .int .i64 z]) (by simp [results, Try.results49, go_sem, q0, q1, q2, q3]) rfl ⟨_, _, _, _, rfl, ((((hc6.set (by omega)).set (by omega)).set (by omega)).set (by omega)).set (by omega), ?_⟩
    (repeat' first | exact World.grownBy.refl _ _ | (with_reducible assumption) | refine grown_alloc ?_ _ | refine grown_setNew ?_ ?_ _ _ | refine grown_trans ?_ (by with_reducible assumption) | omega)
  · go_wp2_with fail
    refine (s_l01Raw g _ hc5).mono ?_
    rintro e w6 ⟨n, na, nb, rfl, hc6, hg6⟩
    have z6 := hg6.size
    try simp at z6
    have b6 := heap_grown hg6 (someNe (by omega)) B5.out
    have r6 := heap_grown hg6 (someNe (by omega)) R5.out
    obtain ⟨_, h0, h1, h2, h3, hf, hz⟩ := own4 (Below.refl w6.heap.size w6) (Array.getElem?_eq_some_iff.1 b6).1 b6
    obtain ⟨_, j0, j1, j2, j3, jf, jz⟩ := own4 (Below.refl w6.heap.size w6) (Array.getElem?_eq_some_iff.1 r6).1 r6
    have hG6 : w.grownBy w6 (some g) := grown_trans hG5 hg6
    have R6 := Lib.hid r6
    clear b6 r6 d0 d1 d2 d3 df f0 f1 f2 f3 ff hg6 hG5 B5 R5
    have hne : w.heap.size ≠ w3.heap.size := by omega
    have hne2 : w3.heap.size ≠ w.heap.size := by omega
    go_wp2_with fail
    have p0 : (w6.setCell ⟨w3.heap.size, 2, none⟩ (.int .i64 n)).heap[w.heap.size]? = some (.cells #[.int .i64 0, .int .i64 0, .int .i64 0, .int .i64 0] 24 (0, 0)) := heap_far hne R6.out
    have q0 : ((w6.setCell ⟨w3.heap.size, 2, none⟩ (.int .i64 n)).setCell ⟨w.heap.size, 0, none⟩ (.int .i64 x)).cell? ⟨w.heap.size, 0, none⟩ = some (.int .i64 x) := cell_set_self p0 (by simp)
    have p1 := heap_set (i := 0) (u := .int .i64 x) p0
    have q1 : (((w6.setCell ⟨w3.heap.size, 2, none⟩ (.int .i64 n)).setCell ⟨w.heap.size, 0, none⟩ (.int .i64 x)).setCell ⟨w.heap.size, 1, none⟩ (.int .i64 y)).cell? ⟨w.heap.size, 1, none⟩ = some (.int .i64 y) := cell_set_self p1 (by simp)
    have p2 := heap_set (i := 1) (u := .int .i64 y) p1
    have q2 : ((((w6.setCell ⟨w3.heap.size, 2, none⟩ (.int .i64 n)).setCell ⟨w.heap.size, 0, none⟩ (.int .i64 x)).setCell ⟨w.heap.size, 1, none⟩ (.int .i64 y)).setCell ⟨w.heap.size, 2, none⟩ (.int .i64 n)).cell? ⟨w.heap.size, 2, none⟩ = some (.int .i64 n) := cell_set_self p2 (by simp)
    have p3 := heap_set (i := 2) (u := .int .i64 n) p2
    have q3 : (((((w6.setCell ⟨w3.heap.size, 2, none⟩ (.int .i64 n)).setCell ⟨w.heap.size, 0, none⟩ (.int .i64 x)).setCell ⟨w.heap.size, 1, none⟩ (.int .i64 y)).setCell ⟨w.heap.size, 2, none⟩ (.int .i64 n)).setCell ⟨w.heap.size, 3, none⟩ (.int .i64 z)).cell? ⟨w.heap.size, 3, none⟩ = some (.int .i64 z) := cell_set_self p3 (by simp)
    have p4 := heap_set (i := 3) (u := .int .i64 z) p3
    refine bodyPost_ret (v := .agg #[.int .i64 x, .int .i64 y, .int .i64 n, .int .i64 z]) (by simp [results, Try.results49, go_sem, q0, q1, q2, q3]) rfl ⟨_, _, _, _, rfl, ((((hc6.set (by omega)).set (by omega)).set (by omega)).set (by omega)).set (by omega), ?_⟩
    (repeat' first | exact World.grownBy.refl _ _ | (with_reducible assumption) | refine grown_alloc ?_ _ | refine grown_setNew ?_ ?_ _ _ | refine grown_trans ?_ (by with_reducible assumption) | omega)
  · go_wp2_with fail
    refine (s_l01Raw g _ hc5).mono ?_
    rintro e w6 ⟨n, na, nb, rfl, hc6, hg6⟩
    have z6 := hg6.size
    try simp at z6
    have b6 := heap_grown hg6 (someNe (by omega)) B5.out
    have r6 := heap_grown hg6 (someNe (by omega)) R5.out
    obtain ⟨_, h0, h1, h2, h3, hf, hz⟩ := own4 (Below.refl w6.heap.size w6) (Array.getElem?_eq_some_iff.1 b6).1 b6
    obtain ⟨_, j0, j1, j2, j3, jf, jz⟩ := own4 (Below.refl w6.heap.size w6) (Array.getElem?_eq_some_iff.1 r6).1 r6
    have hG6 : w.grownBy w6 (some g) := grown_trans hG5 hg6
    have R6 := Lib.hid r6
    clear b6 r6 d0 d1 d2 d3 df f0 f1 f2 f3 ff hg6 hG5 B5 R5
    have hne : w.heap.size ≠ w3.heap.size := by omega
    have hne2 : w3.heap.size ≠ w.heap.size := by omega
    go_wp2_with fail
    have p0 : (w6.setCell ⟨w3.heap.size, 3, none⟩ (.int .i64 n)).heap[w.heap.size]? = some (.cells #[.int .i64 0, .int .i64 0, .int .i64 0, .int .i64 0] 24 (0, 0)) := heap_far hne R6.out
    have q0 : ((w6.setCell ⟨w3.heap.size, 3, none⟩ (.int .i64 n)).setCell ⟨w.heap.size, 0, none⟩ (.int .i64 x)).cell? ⟨w.heap.size, 0, none⟩ = some (.int .i64 x) := cell_set_self p0 (by simp)
    have p1 := heap_set (i := 0) (u := .int .i64 x) p0
    have q1 : (((w6.setCell ⟨w3.heap.size, 3, none⟩ (.int .i64 n)).setCell ⟨w.heap.size, 0, none⟩ (.int .i64 x)).setCell ⟨w.heap.size, 1, none⟩ (.int .i64 y)).cell? ⟨w.heap.size, 1, none⟩ = some (.int .i64 y) := cell_set_self p1 (by simp)
    have p2 := heap_set (i := 1) (u := .int .i64 y) p1
    have q2 : ((((w6.setCell ⟨w3.heap.size, 3, none⟩ (.int .i64 n)).setCell ⟨w.heap.size, 0, none⟩ (.int .i64 x)).setCell ⟨w.heap.size, 1, none⟩ (.int .i64 y)).setCell ⟨w.heap.size, 2, none⟩ (.int .i64 u)).cell? ⟨w.heap.size, 2, none⟩ = some (.int .i64 u) := cell_set_self p2 (by simp)
    have p3 := heap_set (i := 2) (u := .int .i64 u) p2
    have q3 : (((((w6.setCell ⟨w3.heap.size, 3, none⟩ (.int .i64 n)).setCell ⟨w.heap.size, 0, none⟩ (.int .i64 x)).setCell ⟨w.heap.size, 1, none⟩ (.int .i64 y)).setCell ⟨w.heap.size, 2, none⟩ (.int .i64 u)).setCell ⟨w.heap.size, 3, none⟩ (.int .i64 n)).cell? ⟨w.heap.size, 3, none⟩ = some (.int .i64 n) := cell_set_self p3 (by simp)
    have p4 := heap_set (i := 3) (u := .int .i64 n) p3
    refine bodyPost_ret (v := .agg #[.int .i64 x, .int .i64 y, .int .i64 u, .int .i64 n]) (by simp [results, Try.results49, go_sem, q0, q1, q2, q3]) rfl ⟨_, _, _, _, rfl, ((((hc6.set (by omega)).set (by omega)).set (by omega)).set (by omega)).set (by omega), ?_⟩
    (repeat' first | exact World.grownBy.refl _ _ | (with_reducible assumption) | refine grown_alloc ?_ _ | refine grown_setNew ?_ ?_ _ _ | refine grown_trans ?_ (by with_reducible assumption) | omega)
  · have hne : w.heap.size ≠ w3.heap.size := by omega
    have hne2 : w3.heap.size ≠ w.heap.size := by omega
    have B5' := Lib.hid (heap_set (i := 0) (u := .int .i64 1125899906842624) B5.out)
    have R5' := Lib.hid (heap_far (a := ⟨w3.heap.size, 0, none⟩) (u := .int .i64 1125899906842624) hne R5.out)
    go_wp2_with fail
    refine (s_l01Below g 2 _ (hc5.set (by omega)) (by decide) (by decide)).mono ?_
    rintro e w6 ⟨n, na, nb, rfl, hc6, hg6⟩
    have z6 := hg6.size
    try simp at z6
    have b6 : w6.heap[w3.heap.size]? = some (.cells #[.int .i64 1125899906842624, .int .i64 y, .int .i64 u, .int .i64 z] 24 (0, 0)) := heap_grown hg6 (someNe (by omega)) B5'.out
    have r6 := heap_grown hg6 (someNe (by omega)) R5'.out
    obtain ⟨_, h0, h1, h2, h3, hf, hz⟩ := own4 (Below.refl w6.heap.size w6) (Array.getElem?_eq_some_iff.1 b6).1 b6
    obtain ⟨_, j0, j1, j2, j3, jf, jz⟩ := own4 (Below.refl w6.heap.size w6) (Array.getElem?_eq_some_iff.1 r6).1 r6
    have hG6 : w.grownBy w6 (some g) := by (repeat' first | exact World.grownBy.refl _ _ | (with_reducible assumption) | refine grown_alloc ?_ _ | refine grown_setNew ?_ ?_ _ _ | refine grown_trans ?_ (by with_reducible assumption) | omega)
    have R6 := Lib.hid r6
    clear b6 r6 d0 d1 d2 d3 df f0 f1 f2 f3 ff hg6 hG5 B5 R5 B5' R5'
    go_wp2_with fail
    have p0 : (w6.setCell ⟨w3.heap.size, 1, none⟩ (.int .i64 (1125899906842624 - n))).heap[w.heap.size]? = some (.cells #[.int .i64 0, .int .i64 0, .int .i64 0, .int .i64 0] 24 (0, 0)) := heap_far hne R6.out
    have q0 : ((w6.setCell ⟨w3.heap.size, 1, none⟩ (.int .i64 (1125899906842624 - n))).setCell ⟨w.heap.size, 0, none⟩ (.int .i64 1125899906842624)).cell? ⟨w.heap.size, 0, none⟩ = some (.int .i64 1125899906842624) := cell_set_self p0 (by simp)
    have p1 := heap_set (i := 0) (u := .int .i64 1125899906842624) p0
    have q1 : (((w6.setCell ⟨w3.heap.size, 1, none⟩ (.int .i64 (1125899906842624 - n))).setCell ⟨w.heap.size, 0, none⟩ (.int .i64 1125899906842624)).setCell ⟨w.heap.size, 1, none⟩ (.int .i64 (1125899906842624 - n))).cell? ⟨w.heap.size, 1, none⟩ = some (.int .i64 (1125899906842624 - n)) := cell_set_self p1 (by simp)
    have p2 := heap_set (i := 1) (u := .int .i64 (1125899906842624 - n)) p1
    have q2 : ((((w6.setCell ⟨w3.heap.size, 1, none⟩ (.int .i64 (1125899906842624 - n))).setCell ⟨w.heap.size, 0, none⟩ (.int .i64 1125899906842624)).setCell ⟨w.heap.size, 1, none⟩ (.int .i64 (1125899906842624 - n))).setCell ⟨w.heap.size, 2, none⟩ (.int .i64 u)).cell? ⟨w.heap.size, 2, none⟩ = some (.int .i64 u) := cell_set_self p2 (by simp)
    have p3 := heap_set (i := 2) (u := .int .i64 u) p2
    have q3 : (((((w6.setCell ⟨w3.heap.size, 1, none⟩ (.int .i64 (1125899906842624 - n))).setCell ⟨w.heap.size, 0, none⟩ (.int .i64 1125899906842624)).setCell ⟨w.heap.size, 1, none⟩ (.int .i64 (1125899906842624 - n))).setCell ⟨w.heap.size, 2, none⟩ (.int .i64 u)).setCell ⟨w.heap.size, 3, none⟩ (.int .i64 z)).cell? ⟨w.heap.size, 3, none⟩ = some (.int .i64 z) := cell_set_self p3 (by simp)
    have p4 := heap_set (i := 3) (u := .int .i64 z) p3
    refine bodyPost_ret (v := .agg #[.int .i64 1125899906842624, .int .i64 (1125899906842624 - n), .int .i64 u, .int .i64 z]) (by simp [results, Try.results49, go_sem, q0, q1, q2, q3]) rfl ⟨_, _, _, _, rfl, ((((hc6.set (by omega)).set (by omega)).set (by omega)).set (by omega)).set (by omega), ?_⟩
    (repeat' first | exact World.grownBy.refl _ _ | (with_reducible assumption) | refine grown_alloc ?_ _ | refine grown_setNew ?_ ?_ _ _ | refine grown_trans ?_ (by with_reducible assumption) | omega)
  · have t0 : (k == 0) = false := by simp; omega
    have t1 : (k == 1) = false := by simp; omega
    have t2 : (k == 2) = false := by simp; omega
    have t3 : (k == 3) = false := by simp; omega
    have t4 : (k == 4) = false := by simp; omega
    have hne : w.heap.size ≠ w3.heap.size := by omega
    have hne2 : w3.heap.size ≠ w.heap.size := by omega
    go_wp2_with fail
    have p0 : (w5).heap[w.heap.size]? = some (.cells #[.int .i64 0, .int .i64 0, .int .i64 0, .int .i64 0] 24 (0, 0)) := R5.out
    have q0 : ((w5).setCell ⟨w.heap.size, 0, none⟩ (.int .i64 x)).cell? ⟨w.heap.size, 0, none⟩ = some (.int .i64 x) := cell_set_self p0 (by simp)
    have p1 := heap_set (i := 0) (u := .int .i64 x) p0
    have q1 : (((w5).setCell ⟨w.heap.size, 0, none⟩ (.int .i64 x)).setCell ⟨w.heap.size, 1, none⟩ (.int .i64 y)).cell? ⟨w.heap.size, 1, none⟩ = some (.int .i64 y) := cell_set_self p1 (by simp)
    have p2 := heap_set (i := 1) (u := .int .i64 y) p1
    have q2 : ((((w5).setCell ⟨w.heap.size, 0, none⟩ (.int .i64 x)).setCell ⟨w.heap.size, 1, none⟩ (.int .i64 y)).setCell ⟨w.heap.size, 2, none⟩ (.int .i64 u)).cell? ⟨w.heap.size, 2, none⟩ = some (.int .i64 u) := cell_set_self p2 (by simp)
    have p3 := heap_set (i := 2) (u := .int .i64 u) p2
    have q3 : (((((w5).setCell ⟨w.heap.size, 0, none⟩ (.int .i64 x)).setCell ⟨w.heap.size, 1, none⟩ (.int .i64 y)).setCell ⟨w.heap.size, 2, none⟩ (.int .i64 u)).setCell ⟨w.heap.size, 3, none⟩ (.int .i64 z)).cell? ⟨w.heap.size, 3, none⟩ = some (.int .i64 z) := cell_set_self p3 (by simp)
    have p4 := heap_set (i := 3) (u := .int .i64 z) p3
    refine bodyPost_ret (v := .agg #[.int .i64 x, .int .i64 y, .int .i64 u, .int .i64 z]) (by simp [results, Try.results49, go_sem, q0, q1, q2, q3]) rfl ⟨_, _, _, _, rfl, (((hc5.set (by omega)).set (by omega)).set (by omega)).set (by omega), ?_⟩
    (repeat' first | exact World.grownBy.refl _ _ | (with_reducible assumption) | refine grown_alloc ?_ _ | refine grown_setNew ?_ ?_ _ _ | refine grown_trans ?_ (by with_reducible assumption) | omega)
end Go.Proofs.Ytplchgkppkibnaa
