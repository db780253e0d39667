/- Every drawn bucket: what is removed is gone and can be filled in again: the walk. -/
import Derived.Test.YtplchgkppkibnaaRows
import Derived.Test.YtplchgkppkibnaaFnBucket
import Derived.Test.YtplchgkppkibnaaBktT
import Derived.Test.YtplchgkppkibnaaBkt
namespace Go.Proofs.Ytplchgkppkibnaa
open Go.ChangeShapes Go.WideShapes Go.ChangeAt Go.RowKit

set_option maxRecDepth 100000 in
set_option maxHeartbeats 4000000 in
theorem s_l18At (g : Nat) (s r q t : Int) (w : World) (hc : Crs w g) :
    Calls Try.prog 71 #[.pointer (some ⟨g, 0, none⟩), .agg #[.int .i64 s, .int .i64 r, .int .i64 q, .int .i64 t]] w (DrewI g w (-9223372036854775808) 9223372036854775807) := by
  have hgw := hc.lt
  go_enter Try.func71, Try.ntmps71
  go_wp2_with fail
  refine (s_l01Below g 9 _ (hc.alloc _) (by decide) (by decide)).mono ?_
  rintro e w1 ⟨k, k1, k2, rfl, hc1, hg1⟩
  have z1 := hg1.size
  try simp at z1
  have b1 : w1.heap[w.heap.size]? = some (.cells #[.int .i64 s, .int .i64 r, .int .i64 q, .int .i64 t] 24 (0, 0)) := heap_grown hg1 (someNe (by omega)) (heap_at rfl)
  have hG1 : w.grownBy w1 (some g) := grown_trans (grown_alloc (World.grownBy.refl _ _) _) hg1
  clear hg1
  have hcase : k = 0 ∨ k = 1 ∨ (2 ≤ k) := by omega
  rcases hcase with rfl | rfl | hk
  · go_wp2_with fail
    refine (s_l01Raw g _ hc1).mono ?_
    rintro e w2 ⟨x, x1, x2, rfl, hc2, hg2⟩
    go_wp2_with fail
    go_ret
    exact ⟨x, x1, x2, rfl, hc2, grown_trans hG1 hg2⟩
  · go_wp2_with fail
    go_ret
    exact ⟨_, by decide, by decide, rfl, hc1, hG1⟩
  · have t0 : (k == 0) = false := by simp; omega
    have t1 : (k == 1) = false := by simp; omega
    obtain ⟨_, c0, c1, c2, c3, cf, cz⟩ := own4 (Below.refl w1.heap.size w1) (Array.getElem?_eq_some_iff.1 b1).1 b1
    go_wp2_with fail
    go_region_held3 (fun w' => w'.cell? ⟨w.heap.size, 3, none⟩ = some (.int .i64 t)) (first | exact c3 | exact d3)
      ((go_at_call 50; refine (s_l01Below g 40 _ (hc1.below ((Below.refl _ _).drew)) (by decide) (by decide)).mono ?_; rintro e w2 ⟨x, x1, x2, rfl, hc2, hg2⟩; have d3 := (blk_cell (heap_grown (grown_undrew' hg2) (someNe (by omega)) b1) 3)))
    go_wp2_with fail
    go_ret
    exact ⟨_, (wf_i64_le (wf_wrap .i64 _)).1, (wf_i64_le (wf_wrap .i64 _)).2, rfl, hc2, grown_trans hG1 (grown_undrew' hg2)⟩
def DrawnBAN (w : World) (e : Ending) (w' : World) : Prop := ∃ s r q t a n : Int, e = .returned (.tuple #[.agg #[.int .i64 s, .int .i64 r, .int .i64 q, .int .i64 t], .int .i64 a, .int .i64 n]) ∧ Below w.heap.size w w'
set_option maxRecDepth 100000 in
set_option maxHeartbeats 4000000 in
theorem s_DrawBucketTake (A : Option Addr) (n cap : Nat) (w : World) (hc : Code w w.heap.size A n cap) :
    Calls Try.prog 29 #[.slice A n cap] w (DrawnBAN w) := by
  go_enter Try.func29, Try.ntmps29
  go_wp2_with fail
  refine (s_l01New A n cap _ ((hc.below ((Below.refl _ _).alloc (Nat.le_refl _) _)).more (by simp))).mono ?_
  rintro e w1 ⟨rfl, hc1, hb1, z1⟩
  simp only [sizeUp1] at hc1 hb1 z1 ⊢
  have r1 : w1.heap[w.heap.size]? = some (.cells #[.int .i64 0, .int .i64 0, .int .i64 0, .int .i64 0] 24 (0, 0)) := heap_below hb1 (by omega) (heap_at rfl)
  have hB1 : Below w.heap.size w w1 := by (first | ((repeat' first | (with_reducible (first | exact Below.refl _ _ | assumption | refine Below.setCell ?_ ?_ _ | refine Below.alloc ?_ ?_ _ | refine Below.drew ?_ | refine below_drewN ?_ _ | refine Below.trans ?_ (Below.mono (by assumption) ?_))) | omega | (simp; omega) | (simp; done)); done) | (repeat' first | exact Below.refl _ _ | assumption | refine Below.setCell ?_ (by first | omega | (simp; omega) | (simp; done)) _ | refine Below.alloc ?_ (by first | omega | (simp; omega) | (simp; done)) _ | refine Below.drew ?_ | refine below_drewN ?_ _ | refine Below.trans ?_ (Below.mono (by assumption) (by first | omega | (simp; omega) | (simp; done)))))
  clear hb1
  go_wp2_with fail
  refine (s_l18Draw _ _ hc1).mono ?_
  rintro e w2 ⟨s, r, q, t, rfl, hc2, hg2⟩
  have z2 := hg2.size
  have r2 := heap_grown hg2 (by simp) r1
  have hB2 := grown_below hB1 hg2 (by omega)
  clear r1 hg2 hB1
  go_wp2_with fail
  refine (s_l18At _ s r q t _ (hc2.alloc _)).mono ?_
  rintro e w3 ⟨at_, at_1, at_2, rfl, hc3, hg3⟩
  have z3 := hg3.size
  try simp at z3
  have b3 : w3.heap[w2.heap.size]? = some (.cells #[.int .i64 s, .int .i64 r, .int .i64 q, .int .i64 t] 24 (0, 0)) := heap_grown hg3 (by simp; omega) (heap_at rfl)
  have r3 := heap_grown hg3 (by simp) (heap_past (by omega) r2)
  have hB3 := grown_below (hB2.alloc (by omega) _) hg3 (by omega)
  clear r2 hg3 hB2
  go_wp2_with fail
  refine (s_l01Below _ 110 _ hc3 (by decide) (by decide)).mono ?_
  rintro e w4 ⟨n1, n1a, n1b, rfl, hc4, hg4⟩
  have z4 := hg4.size
  have b4 := heap_grown hg4 (by simp; omega) b3
  have r4 := heap_grown hg4 (by simp) r3
  have hB4 := grown_below hB3 hg4 (by omega)
  clear b3 r3 hg4 hB3
  go_wp2_with fail
  refine (s_l01Below _ 9 _ hc4 (by decide) (by decide)).mono ?_
  rintro e w5 ⟨k, ka, kb, rfl, hc5, hg5⟩
  have z5 := hg5.size
  have b5 := heap_grown hg5 (by simp; omega) b4
  have r5 := heap_grown hg5 (by simp) r4
  have hB5 := grown_below hB4 hg5 (by omega)
  clear b4 r4 hg5 hB4
  obtain ⟨_, c0, c1, c2, c3, cf, cz⟩ := own4 (Below.refl w5.heap.size w5) (Array.getElem?_eq_some_iff.1 b5).1 b5
  obtain ⟨_, d0, d1, d2, d3, df, dz⟩ := own4 (Below.refl w5.heap.size w5) (Array.getElem?_eq_some_iff.1 r5).1 r5
  have RR5 := Lib.hid r5
  have hne : w.heap.size ≠ w2.heap.size := by omega
  have hne2 : w2.heap.size ≠ w.heap.size := by omega
  cases hk : (k == 0)
  · clear b5 r5
    go_wp2_with fail
    have p0 : (w5).heap[w.heap.size]? = some (.cells #[.int .i64 0, .int .i64 0, .int .i64 0, .int .i64 0] 24 (0, 0)) := RR5.out
    have q0 : (w5.setCell ⟨w.heap.size, 0, none⟩ (.int .i64 s)).cell? ⟨w.heap.size, 0, none⟩ = some (.int .i64 s) := cell_set_self p0 (by simp)
    have p1 := heap_set (i := 0) (u := .int .i64 s) p0
    have q1 : ((w5.setCell ⟨w.heap.size, 0, none⟩ (.int .i64 s)).setCell ⟨w.heap.size, 1, none⟩ (.int .i64 r)).cell? ⟨w.heap.size, 1, none⟩ = some (.int .i64 r) := cell_set_self p1 (by simp)
    have p2 := heap_set (i := 1) (u := .int .i64 r) p1
    have q2 : (((w5.setCell ⟨w.heap.size, 0, none⟩ (.int .i64 s)).setCell ⟨w.heap.size, 1, none⟩ (.int .i64 r)).setCell ⟨w.heap.size, 2, none⟩ (.int .i64 q)).cell? ⟨w.heap.size, 2, none⟩ = some (.int .i64 q) := cell_set_self p2 (by simp)
    have p3 := heap_set (i := 2) (u := .int .i64 q) p2
    have q3 : ((((w5.setCell ⟨w.heap.size, 0, none⟩ (.int .i64 s)).setCell ⟨w.heap.size, 1, none⟩ (.int .i64 r)).setCell ⟨w.heap.size, 2, none⟩ (.int .i64 q)).setCell ⟨w.heap.size, 3, none⟩ (.int .i64 t)).cell? ⟨w.heap.size, 3, none⟩ = some (.int .i64 t) := cell_set_self p3 (by simp)
    have p4 := heap_set (i := 3) (u := .int .i64 t) p3
    refine bodyPost_ret (v := .tuple #[.agg #[.int .i64 s, .int .i64 r, .int .i64 q, .int .i64 t], .int .i64 at_, .int .i64 n1]) (by simp [results, Try.results29, go_sem, q0, q1, q2, q3]) rfl ⟨_, _, _, _, _, _, rfl, ?_⟩
    (first | ((repeat' first | (with_reducible (first | exact Below.refl _ _ | assumption | refine Below.setCell ?_ ?_ _ | refine Below.alloc ?_ ?_ _ | refine Below.drew ?_ | refine below_drewN ?_ _ | refine Below.trans ?_ (Below.mono (by assumption) ?_))) | omega | (simp; omega) | (simp; done)); done) | (repeat' first | exact Below.refl _ _ | assumption | refine Below.setCell ?_ (by first | omega | (simp; omega) | (simp; done)) _ | refine Below.alloc ?_ (by first | omega | (simp; omega) | (simp; done)) _ | refine Below.drew ?_ | refine below_drewN ?_ _ | refine Below.trans ?_ (Below.mono (by assumption) (by first | omega | (simp; omega) | (simp; done)))))
  · clear c0 c1 c2 c3 cf cz d0 d1 d2 d3 df dz
    go_wp2_with fail
    refine (s_l01Raw _ _ hc5).mono ?_
    rintro e w6 ⟨n2, n2a, n2b, rfl, hc6, hg6⟩
    have z6 := hg6.size
    have b6 := heap_grown hg6 (by simp; omega) b5
    have r6 := heap_grown hg6 (by simp) r5
    have hB6 := grown_below hB5 hg6 (by omega)
    obtain ⟨_, c0, c1, c2, c3, cf, cz⟩ := own4 (Below.refl w6.heap.size w6) (Array.getElem?_eq_some_iff.1 b6).1 b6
    obtain ⟨_, d0, d1, d2, d3, df, dz⟩ := own4 (Below.refl w6.heap.size w6) (Array.getElem?_eq_some_iff.1 r6).1 r6
    have RR6 := Lib.hid r6
    clear b5 r5 b6 r6 hg6 hB5
    go_wp2_with fail
    have p0 : (w6).heap[w.heap.size]? = some (.cells #[.int .i64 0, .int .i64 0, .int .i64 0, .int .i64 0] 24 (0, 0)) := RR6.out
    have q0 : (w6.setCell ⟨w.heap.size, 0, none⟩ (.int .i64 s)).cell? ⟨w.heap.size, 0, none⟩ = some (.int .i64 s) := cell_set_self p0 (by simp)
    have p1 := heap_set (i := 0) (u := .int .i64 s) p0
    have q1 : ((w6.setCell ⟨w.heap.size, 0, none⟩ (.int .i64 s)).setCell ⟨w.heap.size, 1, none⟩ (.int .i64 r)).cell? ⟨w.heap.size, 1, none⟩ = some (.int .i64 r) := cell_set_self p1 (by simp)
    have p2 := heap_set (i := 1) (u := .int .i64 r) p1
    have q2 : (((w6.setCell ⟨w.heap.size, 0, none⟩ (.int .i64 s)).setCell ⟨w.heap.size, 1, none⟩ (.int .i64 r)).setCell ⟨w.heap.size, 2, none⟩ (.int .i64 q)).cell? ⟨w.heap.size, 2, none⟩ = some (.int .i64 q) := cell_set_self p2 (by simp)
    have p3 := heap_set (i := 2) (u := .int .i64 q) p2
    have q3 : ((((w6.setCell ⟨w.heap.size, 0, none⟩ (.int .i64 s)).setCell ⟨w.heap.size, 1, none⟩ (.int .i64 r)).setCell ⟨w.heap.size, 2, none⟩ (.int .i64 q)).setCell ⟨w.heap.size, 3, none⟩ (.int .i64 t)).cell? ⟨w.heap.size, 3, none⟩ = some (.int .i64 t) := cell_set_self p3 (by simp)
    have p4 := heap_set (i := 3) (u := .int .i64 t) p3
    refine bodyPost_ret (v := .tuple #[.agg #[.int .i64 s, .int .i64 r, .int .i64 q, .int .i64 t], .int .i64 at_, .int .i64 n2]) (by simp [results, Try.results29, go_sem, q0, q1, q2, q3]) rfl ⟨_, _, _, _, _, _, rfl, ?_⟩
    (first | ((repeat' first | (with_reducible (first | exact Below.refl _ _ | assumption | refine Below.setCell ?_ ?_ _ | refine Below.alloc ?_ ?_ _ | refine Below.drew ?_ | refine below_drewN ?_ _ | refine Below.trans ?_ (Below.mono (by assumption) ?_))) | omega | (simp; omega) | (simp; done)); done) | (repeat' first | exact Below.refl _ _ | assumption | refine Below.setCell ?_ (by first | omega | (simp; omega) | (simp; done)) _ | refine Below.alloc ?_ (by first | omega | (simp; omega) | (simp; done)) _ | refine Below.drew ?_ | refine below_drewN ?_ _ | refine Below.trans ?_ (Below.mono (by assumption) (by first | omega | (simp; omega) | (simp; done)))))
set_option maxRecDepth 100000 in
set_option maxHeartbeats 4000000 in
theorem l_FnTake2 (A : Option Addr) (n cap : Nat) (w : World) (hc : CodeIn w A n cap) :
    Calls Try.prog 6 #[.slice A n cap] w fun e w' => e = .returned (.bool true) ∧ Below w.heap.size w w' := by
  have hnm := hc.len
  unfold maxLen at hnm
  by_cases hn : n ≤ 1048576
  · have HC := Lib.hid (hc.code hn)
    clear hc
    go_enter Try.func6, Try.ntmps6
    go_wp2_with fail
    refine (s_DrawBucketTake A n cap _ HC.out).mono ?_
    rintro e w1 ⟨s, r, q, t, a, m, rfl, hb1⟩
    have z1 := hb1.size
    have hcase : ((bktB s r q t && inB a t 1000000000 && amtB m) = false) ∨ ((bktB s r q t = true ∧ inB a t 1000000000 = true) ∧ amtB m = true ∧ bktHave s r q t a < m) ∨ ((bktB s r q t = true ∧ inB a t 1000000000 = true) ∧ amtB m = true ∧ m ≤ bktHave s r q t a) := by
      cases bktB s r q t <;> cases inB a t 1000000000 <;> cases amtB m <;> simp <;> omega
    rcases hcase with hno | ⟨h1, h2, h3⟩ | ⟨h1, h2, h3⟩
    · have HNO := Lib.hid hno
      clear hno
      go_wp2_with fail
      refine (i_BucketTake_1 s r q t a m _ HNO.out).mono ?_
      rintro e w2 ⟨rfl, hb2⟩
      have z2 := hb2.size
      try simp at z2
      obtain ⟨ah, a0, a1, a2, a3, af, az⟩ := own4 (g := w1.heap.size) hb2 (by first | omega | (simp; omega) | (simp; done)) (by (first | ((repeat' first | (with_reducible (first | assumption | (refine heap_at ?_; (first | rfl | (simp; done))) | refine heap_drew ?_ | refine heap_drewN ?_ | refine heap_past ?_ ?_ | refine heap_far ?_ ?_)) | (simp; done) | (simp; omega)); done) | (repeat' first | assumption | (refine heap_at ?_; (simp; done)) | refine heap_drew ?_ | refine heap_drewN ?_ | (refine heap_past ?_ ?_ <;> try (simp; done)) | (refine heap_far ?_ ?_ <;> try (simp; done)))))
      go_wp2_with fail
      refine (s_BucketTake_1 s r q t a m _ HNO.out).mono ?_
      rintro e w3 ⟨rfl, hb3⟩
      have z3 := hb3.size
      try simp at z3
      obtain ⟨bh, b0, b1, b2, b3, bf, bz⟩ := own4 (g := w2.heap.size) hb3 (by first | omega | (simp; omega) | (simp; done)) (by (first | ((repeat' first | (with_reducible (first | assumption | (refine heap_at ?_; (first | rfl | (simp; done))) | refine heap_drew ?_ | refine heap_drewN ?_ | refine heap_past ?_ ?_ | refine heap_far ?_ ?_)) | (simp; done) | (simp; omega)); done) | (repeat' first | assumption | (refine heap_at ?_; (simp; done)) | refine heap_drew ?_ | refine heap_drewN ?_ | (refine heap_past ?_ ?_ <;> try (simp; done)) | (refine heap_far ?_ ?_ <;> try (simp; done)))))
      go_wp2_with fail
      go_ret
      refine ⟨rfl, ?_⟩
      (first | ((repeat' first | (with_reducible (first | exact Below.refl _ _ | assumption | refine Below.setCell ?_ ?_ _ | refine Below.alloc ?_ ?_ _ | refine Below.drew ?_ | refine below_drewN ?_ _ | refine Below.trans ?_ (Below.mono (by assumption) ?_))) | omega | (simp; omega) | (simp; done)); done) | (repeat' first | exact Below.refl _ _ | assumption | refine Below.setCell ?_ (by first | omega | (simp; omega) | (simp; done)) _ | refine Below.alloc ?_ (by first | omega | (simp; omega) | (simp; done)) _ | refine Below.drew ?_ | refine below_drewN ?_ _ | refine Below.trans ?_ (Below.mono (by assumption) (by first | omega | (simp; omega) | (simp; done)))))
    · have HH := Lib.hid (And.intro h1 (And.intro h2 h3))
      clear h1 h2 h3
      go_wp2_with fail
      refine (i_BucketTake_2 s r q t a m _ HH.out.1 HH.out.2.1 HH.out.2.2).mono ?_
      rintro e w2 ⟨rfl, hb2⟩
      have z2 := hb2.size
      try simp at z2
      obtain ⟨ah, a0, a1, a2, a3, af, az⟩ := own4 (g := w1.heap.size) hb2 (by first | omega | (simp; omega) | (simp; done)) (by (first | ((repeat' first | (with_reducible (first | assumption | (refine heap_at ?_; (first | rfl | (simp; done))) | refine heap_drew ?_ | refine heap_drewN ?_ | refine heap_past ?_ ?_ | refine heap_far ?_ ?_)) | (simp; done) | (simp; omega)); done) | (repeat' first | assumption | (refine heap_at ?_; (simp; done)) | refine heap_drew ?_ | refine heap_drewN ?_ | (refine heap_past ?_ ?_ <;> try (simp; done)) | (refine heap_far ?_ ?_ <;> try (simp; done)))))
      go_wp2_with fail
      refine (s_BucketTake_2 s r q t a m _ HH.out.1 HH.out.2.1 HH.out.2.2).mono ?_
      rintro e w3 ⟨rfl, hb3⟩
      have z3 := hb3.size
      try simp at z3
      obtain ⟨bh, b0, b1, b2, b3, bf, bz⟩ := own4 (g := w2.heap.size) hb3 (by first | omega | (simp; omega) | (simp; done)) (by (first | ((repeat' first | (with_reducible (first | assumption | (refine heap_at ?_; (first | rfl | (simp; done))) | refine heap_drew ?_ | refine heap_drewN ?_ | refine heap_past ?_ ?_ | refine heap_far ?_ ?_)) | (simp; done) | (simp; omega)); done) | (repeat' first | assumption | (refine heap_at ?_; (simp; done)) | refine heap_drew ?_ | refine heap_drewN ?_ | (refine heap_past ?_ ?_ <;> try (simp; done)) | (refine heap_far ?_ ?_ <;> try (simp; done)))))
      go_wp2_with fail
      go_ret
      refine ⟨rfl, ?_⟩
      (first | ((repeat' first | (with_reducible (first | exact Below.refl _ _ | assumption | refine Below.setCell ?_ ?_ _ | refine Below.alloc ?_ ?_ _ | refine Below.drew ?_ | refine below_drewN ?_ _ | refine Below.trans ?_ (Below.mono (by assumption) ?_))) | omega | (simp; omega) | (simp; done)); done) | (repeat' first | exact Below.refl _ _ | assumption | refine Below.setCell ?_ (by first | omega | (simp; omega) | (simp; done)) _ | refine Below.alloc ?_ (by first | omega | (simp; omega) | (simp; done)) _ | refine Below.drew ?_ | refine below_drewN ?_ _ | refine Below.trans ?_ (Below.mono (by assumption) (by first | omega | (simp; omega) | (simp; done)))))
    · have HH := Lib.hid (And.intro h1 (And.intro h2 h3))
      obtain ⟨v1, v2⟩ := bktHave_bd h1.1 h1.2
      obtain ⟨⟨s1, s2⟩, ⟨r1, r2⟩, ⟨q1, q2⟩, t1, t2⟩ := bktB_iff.1 h1.1
      obtain ⟨m1, m2⟩ := amtB_iff.1 h2
      obtain ⟨a1, a2⟩ := inB_iff.1 h1.2
      have CT := Lib.hid (fun W => i_BucketTake_0 s r q t a m W HH.out.1 HH.out.2.1 HH.out.2.2)
      have CS := Lib.hid (fun W => s_BucketTake_0 s r q t a m W HH.out.1 HH.out.2.1 HH.out.2.2)
      have CA := Lib.hid (fun W => i_BucketAt_yes s r q t a W HH.out.1.1 HH.out.1.2)
      obtain ⟨HV, hHV⟩ : ∃ H, bktHave s r q t a = H := ⟨_, rfl⟩
      rw [hHV] at CT CS CA v1 v2 h3
      have CF := Lib.hid (fun W => i_BucketFill_yes s r (HV - m) a m W (bktB_iff.2 ⟨⟨s1, s2⟩, ⟨r1, r2⟩, ⟨by omega, by omega⟩, by omega, a2⟩) (amtB_iff.2 ⟨m1, m2⟩))
      rw [show min (HV - m + m) s = HV by omega] at CF
      clear hHV h1 h2 HH
      go_wp2_with fail
      refine (CT.out _).mono ?_
      rintro e w2 ⟨rfl, hb2⟩
      have z2 := hb2.size
      try simp at z2
      obtain ⟨ah, a0, a1, a2, a3, af, az⟩ := own4 (g := w1.heap.size) hb2 (by first | omega | (simp; omega) | (simp; done)) (by (first | ((repeat' first | (with_reducible (first | assumption | (refine heap_at ?_; (first | rfl | (simp; done))) | refine heap_drew ?_ | refine heap_drewN ?_ | refine heap_past ?_ ?_ | refine heap_far ?_ ?_)) | (simp; done) | (simp; omega)); done) | (repeat' first | assumption | (refine heap_at ?_; (simp; done)) | refine heap_drew ?_ | refine heap_drewN ?_ | (refine heap_past ?_ ?_ <;> try (simp; done)) | (refine heap_far ?_ ?_ <;> try (simp; done)))))
      go_wp2_with fail
      refine (CS.out _).mono ?_
      rintro e w3 ⟨rfl, hb3⟩
      have z3 := hb3.size
      try simp at z3
      obtain ⟨bh, b0, b1, b2, b3, bf, bz⟩ := own4 (g := w1.heap.size) hb3 (by first | omega | (simp; omega) | (simp; done)) (by (first | ((repeat' first | (with_reducible (first | assumption | (refine heap_at ?_; (first | rfl | (simp; done))) | refine heap_drew ?_ | refine heap_drewN ?_ | refine heap_past ?_ ?_ | refine heap_far ?_ ?_)) | (simp; done) | (simp; omega)); done) | (repeat' first | assumption | (refine heap_at ?_; (simp; done)) | refine heap_drew ?_ | refine heap_drewN ?_ | (refine heap_past ?_ ?_ <;> try (simp; done)) | (refine heap_far ?_ ?_ <;> try (simp; done)))))
      obtain ⟨ch, c0, c1, c2, c3, cf, cz⟩ := own4 (g := w2.heap.size) hb3 (by first | omega | (simp; omega) | (simp; done)) (by (first | ((repeat' first | (with_reducible (first | assumption | (refine heap_at ?_; (first | rfl | (simp; done))) | refine heap_drew ?_ | refine heap_drewN ?_ | refine heap_past ?_ ?_ | refine heap_far ?_ ?_)) | (simp; done) | (simp; omega)); done) | (repeat' first | assumption | (refine heap_at ?_; (simp; done)) | refine heap_drew ?_ | refine heap_drewN ?_ | (refine heap_past ?_ ?_ <;> try (simp; done)) | (refine heap_far ?_ ?_ <;> try (simp; done)))))
      clear ah a0 a1 a2 a3 af
      go_wp2_with fail
      refine (CA.out _).mono ?_
      rintro e w4 ⟨rfl, hb4⟩
      have z4 := hb4.size
      try simp at z4
      obtain ⟨dh, d0, d1, d2, d3, df, dz⟩ := own4 (g := w2.heap.size) hb4 (by first | omega | (simp; omega) | (simp; done)) (by (first | ((repeat' first | (with_reducible (first | assumption | (refine heap_at ?_; (first | rfl | (simp; done))) | refine heap_drew ?_ | refine heap_drewN ?_ | refine heap_past ?_ ?_ | refine heap_far ?_ ?_)) | (simp; done) | (simp; omega)); done) | (repeat' first | assumption | (refine heap_at ?_; (simp; done)) | refine heap_drew ?_ | refine heap_drewN ?_ | (refine heap_past ?_ ?_ <;> try (simp; done)) | (refine heap_far ?_ ?_ <;> try (simp; done)))))
      clear bh b0 b1 b2 b3 bf ch c0 c1 c2 c3 cf
      go_wp2_with fail
      refine (CF.out _).mono ?_
      rintro e w5 ⟨rfl, hb5⟩
      have z5 := hb5.size
      try simp at z5
      obtain ⟨eh, e0, e1, e2, e3, ef, ez⟩ := own4 (g := w2.heap.size) hb5 (by first | omega | (simp; omega) | (simp; done)) (by (first | ((repeat' first | (with_reducible (first | assumption | (refine heap_at ?_; (first | rfl | (simp; done))) | refine heap_drew ?_ | refine heap_drewN ?_ | refine heap_past ?_ ?_ | refine heap_far ?_ ?_)) | (simp; done) | (simp; omega)); done) | (repeat' first | assumption | (refine heap_at ?_; (simp; done)) | refine heap_drew ?_ | refine heap_drewN ?_ | (refine heap_past ?_ ?_ <;> try (simp; done)) | (refine heap_far ?_ ?_ <;> try (simp; done)))))
      obtain ⟨fh, f0, f1, f2, f3, ff, fz⟩ := own4 (g := w4.heap.size) hb5 (by first | omega | (simp; omega) | (simp; done)) (by (first | ((repeat' first | (with_reducible (first | assumption | (refine heap_at ?_; (first | rfl | (simp; done))) | refine heap_drew ?_ | refine heap_drewN ?_ | refine heap_past ?_ ?_ | refine heap_far ?_ ?_)) | (simp; done) | (simp; omega)); done) | (repeat' first | assumption | (refine heap_at ?_; (simp; done)) | refine heap_drew ?_ | refine heap_drewN ?_ | (refine heap_past ?_ ?_ <;> try (simp; done)) | (refine heap_far ?_ ?_ <;> try (simp; done)))))
      clear dh d0 d1 d2 d3 df
      go_wp2_with fail
      go_ret
      refine ⟨rfl, ?_⟩
      (first | ((repeat' first | (with_reducible (first | exact Below.refl _ _ | assumption | refine Below.setCell ?_ ?_ _ | refine Below.alloc ?_ ?_ _ | refine Below.drew ?_ | refine below_drewN ?_ _ | refine Below.trans ?_ (Below.mono (by assumption) ?_))) | omega | (simp; omega) | (simp; done)); done) | (repeat' first | exact Below.refl _ _ | assumption | refine Below.setCell ?_ (by first | omega | (simp; omega) | (simp; done)) _ | refine Below.alloc ?_ (by first | omega | (simp; omega) | (simp; done)) _ | refine Below.drew ?_ | refine below_drewN ?_ _ | refine Below.trans ?_ (Below.mono (by assumption) (by first | omega | (simp; omega) | (simp; done)))))
  · have hn' : decide ((1048576 : Int) < (n : Int)) = true := decide_eq_true (by omega)
    go_enter Try.func6, Try.ntmps6
    go_wp2_with fail
    go_ret
    exact ⟨rfl, Below.refl _ _⟩
end Go.Proofs.Ytplchgkppkibnaa
