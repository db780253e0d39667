/- Every drawn bucket: filling in steps equals filling at once, and the awaited amount is there exactly at the returned time: the walk. -/
import Derived.Test.YtplchgkppkibnaaRows
import Derived.Test.YtplchgkppkibnaaDrawB
import Derived.Test.YtplchgkppkibnaaBktW
import Derived.Test.YtplchgkppkibnaaBktLaw
namespace Go.Proofs.Ytplchgkppkibnaa
open Go.ChangeShapes Go.WideShapes Go.ChangeAt Go.RowKit

def DrawnBN (w : World) (e : Ending) (w' : World) : Prop := ∃ s r q t n : Int, e = .returned (.tuple #[.agg #[.int .i64 s, .int .i64 r, .int .i64 q, .int .i64 t], .int .i64 n]) ∧ Below w.heap.size w w'
theorem grown_below {a b c : World} {g : Nat} (h : Below a.heap.size a b) (k : b.grownBy c (some g)) (hg : a.heap.size ≤ g) : Below a.heap.size a c := h.grown k h.size (fun k e => by cases e; exact hg)
set_option maxRecDepth 100000 in
set_option maxHeartbeats 4000000 in
theorem s_DrawBucketWhen (A : Option Addr) (n cap : Nat) (w : World) (hc : Code w w.heap.size A n cap) :
    Calls Try.prog 10 #[.slice A n cap] w (DrawnBN w) := by
  go_enter Try.func10, Try.ntmps10
  go_wp2_with fail
  refine (s_l01New A n cap _ ((hc.below ((Below.refl _ _).alloc (Nat.le_refl _) _)).more (by simp))).mono ?_
  rintro e w1 ⟨rfl, hc1, hb1, z1⟩
  simp only [sizeUp1] at hc1 hb1 z1 ⊢
  have r1 : w1.heap[w.heap.size]? = some (.cells #[.int .i64 0, .int .i64 0, .int .i64 0, .int .i64 0] 24 (0, 0)) := heap_below hb1 (by omega) (heap_at rfl)
  have hB1 : Below w.heap.size w w1 := by (first | ((repeat' first | (with_reducible (first | exact Below.refl _ _ | assumption | refine Below.setCell ?_ ?_ _ | refine Below.alloc ?_ ?_ _ | refine Below.drew ?_ | refine below_drewN ?_ _ | refine Below.trans ?_ (Below.mono (by assumption) ?_))) | omega | (simp; omega) | (simp; done)); done) | (repeat' first | exact Below.refl _ _ | assumption | refine Below.setCell ?_ (by first | omega | (simp; omega) | (simp; done)) _ | refine Below.alloc ?_ (by first | omega | (simp; omega) | (simp; done)) _ | refine Below.drew ?_ | refine below_drewN ?_ _ | refine Below.trans ?_ (Below.mono (by assumption) (by first | omega | (simp; omega) | (simp; done)))))
  clear hb1
  go_wp2_with fail
  refine (s_l18Draw _ _ hc1).mono ?_
  rintro e w2 ⟨s, r, q, t, rfl, hc2, hg2⟩
  have z2 := hg2.size
  have r2 := heap_grown hg2 (by simp) r1
  have hB2 := grown_below hB1 hg2 (by omega)
  clear r1 hg2 hB1
  go_wp2_with fail
  refine (s_l01Below _ 110 _ (hc2.alloc _) (by decide) (by decide)).mono ?_
  rintro e w3 ⟨n1, n1a, n1b, rfl, hc3, hg3⟩
  have z3 := hg3.size
  try simp at z3
  have b3 : w3.heap[w2.heap.size]? = some (.cells #[.int .i64 s, .int .i64 r, .int .i64 q, .int .i64 t] 24 (0, 0)) := heap_grown hg3 (by simp; omega) (heap_at rfl)
  have r3 := heap_grown hg3 (by simp) (heap_past (by omega) r2)
  have hB3 := grown_below (hB2.alloc (by omega) _) hg3 (by omega)
  clear r2 hg3 hB2
  go_wp2_with fail
  refine (s_l01Below _ 9 _ hc3 (by decide) (by decide)).mono ?_
  rintro e w4 ⟨k, ka, kb, rfl, hc4, hg4⟩
  have z4 := hg4.size
  have b4 := heap_grown hg4 (by simp; omega) b3
  have r4 := heap_grown hg4 (by simp) r3
  have hB4 := grown_below hB3 hg4 (by omega)
  obtain ⟨_, c0, c1, c2, c3, cf, cz⟩ := own4 (Below.refl w4.heap.size w4) (Array.getElem?_eq_some_iff.1 b4).1 b4
  obtain ⟨_, d0, d1, d2, d3, df, dz⟩ := own4 (Below.refl w4.heap.size w4) (Array.getElem?_eq_some_iff.1 r4).1 r4
  have RR4 := Lib.hid r4
  have hne : w.heap.size ≠ w2.heap.size := by omega
  have hne2 : w2.heap.size ≠ w.heap.size := by omega
  cases hk : (k == 0)
  · clear b3 b4 r3 r4 hg4 hB3
    go_wp2_with fail
    have p0 : (w4).heap[w.heap.size]? = some (.cells #[.int .i64 0, .int .i64 0, .int .i64 0, .int .i64 0] 24 (0, 0)) := RR4.out
    have q0 : (w4.setCell ⟨w.heap.size, 0, none⟩ (.int .i64 s)).cell? ⟨w.heap.size, 0, none⟩ = some (.int .i64 s) := cell_set_self p0 (by simp)
    have p1 := heap_set (i := 0) (u := .int .i64 s) p0
    have q1 : ((w4.setCell ⟨w.heap.size, 0, none⟩ (.int .i64 s)).setCell ⟨w.heap.size, 1, none⟩ (.int .i64 r)).cell? ⟨w.heap.size, 1, none⟩ = some (.int .i64 r) := cell_set_self p1 (by simp)
    have p2 := heap_set (i := 1) (u := .int .i64 r) p1
    have q2 : (((w4.setCell ⟨w.heap.size, 0, none⟩ (.int .i64 s)).setCell ⟨w.heap.size, 1, none⟩ (.int .i64 r)).setCell ⟨w.heap.size, 2, none⟩ (.int .i64 q)).cell? ⟨w.heap.size, 2, none⟩ = some (.int .i64 q) := cell_set_self p2 (by simp)
    have p3 := heap_set (i := 2) (u := .int .i64 q) p2
    have q3 : ((((w4.setCell ⟨w.heap.size, 0, none⟩ (.int .i64 s)).setCell ⟨w.heap.size, 1, none⟩ (.int .i64 r)).setCell ⟨w.heap.size, 2, none⟩ (.int .i64 q)).setCell ⟨w.heap.size, 3, none⟩ (.int .i64 t)).cell? ⟨w.heap.size, 3, none⟩ = some (.int .i64 t) := cell_set_self p3 (by simp)
    have p4 := heap_set (i := 3) (u := .int .i64 t) p3
    refine bodyPost_ret (v := .tuple #[.agg #[.int .i64 s, .int .i64 r, .int .i64 q, .int .i64 t], .int .i64 n1]) (by simp [results, Try.results10, go_sem, q0, q1, q2, q3]) rfl ⟨_, _, _, _, _, rfl, ?_⟩
    (first | ((repeat' first | (with_reducible (first | exact Below.refl _ _ | assumption | refine Below.setCell ?_ ?_ _ | refine Below.alloc ?_ ?_ _ | refine Below.drew ?_ | refine below_drewN ?_ _ | refine Below.trans ?_ (Below.mono (by assumption) ?_))) | omega | (simp; omega) | (simp; done)); done) | (repeat' first | exact Below.refl _ _ | assumption | refine Below.setCell ?_ (by first | omega | (simp; omega) | (simp; done)) _ | refine Below.alloc ?_ (by first | omega | (simp; omega) | (simp; done)) _ | refine Below.drew ?_ | refine below_drewN ?_ _ | refine Below.trans ?_ (Below.mono (by assumption) (by first | omega | (simp; omega) | (simp; done)))))
  · clear c0 c1 c2 c3 cf cz d0 d1 d2 d3 df dz
    go_wp2_with fail
    refine (s_l01Raw _ _ hc4).mono ?_
    rintro e w5 ⟨n2, n2a, n2b, rfl, hc5, hg5⟩
    have z5 := hg5.size
    have b5 := heap_grown hg5 (by simp; omega) b4
    have r5 := heap_grown hg5 (by simp) r4
    have hB5 := grown_below hB4 hg5 (by omega)
    obtain ⟨_, c0, c1, c2, c3, cf, cz⟩ := own4 (Below.refl w5.heap.size w5) (Array.getElem?_eq_some_iff.1 b5).1 b5
    obtain ⟨_, d0, d1, d2, d3, df, dz⟩ := own4 (Below.refl w5.heap.size w5) (Array.getElem?_eq_some_iff.1 r5).1 r5
    have RR5 := Lib.hid r5
    clear b3 b4 r3 r4 hg4 hg5 b5 r5 hB3 hB4
    go_wp2_with fail
    have p0 : (w5).heap[w.heap.size]? = some (.cells #[.int .i64 0, .int .i64 0, .int .i64 0, .int .i64 0] 24 (0, 0)) := RR5.out
    have q0 : (w5.setCell ⟨w.heap.size, 0, none⟩ (.int .i64 s)).cell? ⟨w.heap.size, 0, none⟩ = some (.int .i64 s) := cell_set_self p0 (by simp)
    have p1 := heap_set (i := 0) (u := .int .i64 s) p0
    have q1 : ((w5.setCell ⟨w.heap.size, 0, none⟩ (.int .i64 s)).setCell ⟨w.heap.size, 1, none⟩ (.int .i64 r)).cell? ⟨w.heap.size, 1, none⟩ = some (.int .i64 r) := cell_set_self p1 (by simp)
    have p2 := heap_set (i := 1) (u := .int .i64 r) p1
    have q2 : (((w5.setCell ⟨w.heap.size, 0, none⟩ (.int .i64 s)).setCell ⟨w.heap.size, 1, none⟩ (.int .i64 r)).setCell ⟨w.heap.size, 2, none⟩ (.int .i64 q)).cell? ⟨w.heap.size, 2, none⟩ = some (.int .i64 q) := cell_set_self p2 (by simp)
    have p3 := heap_set (i := 2) (u := .int .i64 q) p2
    have q3 : ((((w5.setCell ⟨w.heap.size, 0, none⟩ (.int .i64 s)).setCell ⟨w.heap.size, 1, none⟩ (.int .i64 r)).setCell ⟨w.heap.size, 2, none⟩ (.int .i64 q)).setCell ⟨w.heap.size, 3, none⟩ (.int .i64 t)).cell? ⟨w.heap.size, 3, none⟩ = some (.int .i64 t) := cell_set_self p3 (by simp)
    have p4 := heap_set (i := 3) (u := .int .i64 t) p3
    refine bodyPost_ret (v := .tuple #[.agg #[.int .i64 s, .int .i64 r, .int .i64 q, .int .i64 t], .int .i64 n2]) (by simp [results, Try.results10, go_sem, q0, q1, q2, q3]) rfl ⟨_, _, _, _, _, rfl, ?_⟩
    (first | ((repeat' first | (with_reducible (first | exact Below.refl _ _ | assumption | refine Below.setCell ?_ ?_ _ | refine Below.alloc ?_ ?_ _ | refine Below.drew ?_ | refine below_drewN ?_ _ | refine Below.trans ?_ (Below.mono (by assumption) ?_))) | omega | (simp; omega) | (simp; done)); done) | (repeat' first | exact Below.refl _ _ | assumption | refine Below.setCell ?_ (by first | omega | (simp; omega) | (simp; done)) _ | refine Below.alloc ?_ (by first | omega | (simp; omega) | (simp; done)) _ | refine Below.drew ?_ | refine below_drewN ?_ _ | refine Below.trans ?_ (Below.mono (by assumption) (by first | omega | (simp; omega) | (simp; done)))))
set_option maxRecDepth 100000 in
set_option maxHeartbeats 4000000 in
theorem l_FnBucket (A : Option Addr) (n cap : Nat) (w : World) (hc : CodeIn w A n cap) :
    Calls Try.prog 3 #[.slice A n cap] w fun e w' => e = .returned (.bool true) ∧ Below w.heap.size w w' := by
  have hnm := hc.len
  unfold maxLen at hnm
  by_cases hn : n ≤ 1048576
  · have HC := Lib.hid (hc.code hn)
    clear hc
    go_enter Try.func3, Try.ntmps3
    go_wp2_with fail
    refine (s_DrawBucketWhen A n cap _ HC.out).mono ?_
    rintro e w1 ⟨s, r, q, t, m, rfl, hb1⟩
    have z1 := hb1.size
    go_wp2_with fail
    refine (i_BucketWhen s r q t m _).mono ?_
    rintro e w2 ⟨rfl, hb2⟩
    have z2 := hb2.size
    try simp at z2
    obtain ⟨ah, a0, a1, a2, a3, af, az⟩ := own4 (g := w1.heap.size) hb2 (by first | omega | (simp; omega) | (simp; done)) (by (first | ((repeat' first | (with_reducible (first | assumption | (refine heap_at ?_; (first | rfl | (simp; done))) | refine heap_drew ?_ | refine heap_drewN ?_ | refine heap_past ?_ ?_ | refine heap_far ?_ ?_)) | (simp; done) | (simp; omega)); done) | (repeat' first | assumption | (refine heap_at ?_; (simp; done)) | refine heap_drew ?_ | refine heap_drewN ?_ | (refine heap_past ?_ ?_ <;> try (simp; done)) | (refine heap_far ?_ ?_ <;> try (simp; done)))))
    go_wp2_with fail
    refine (s_BucketWhen s r q t m _).mono ?_
    rintro e w3 ⟨rfl, hb3⟩
    have z3 := hb3.size
    try simp at z3
    obtain ⟨bh, b0, b1, b2, b3, bf, bz⟩ := own4 (g := w1.heap.size) hb3 (by first | omega | (simp; omega) | (simp; done)) (by (first | ((repeat' first | (with_reducible (first | assumption | (refine heap_at ?_; (first | rfl | (simp; done))) | refine heap_drew ?_ | refine heap_drewN ?_ | refine heap_past ?_ ?_ | refine heap_far ?_ ?_)) | (simp; done) | (simp; omega)); done) | (repeat' first | assumption | (refine heap_at ?_; (simp; done)) | refine heap_drew ?_ | refine heap_drewN ?_ | (refine heap_past ?_ ?_ <;> try (simp; done)) | (refine heap_far ?_ ?_ <;> try (simp; done)))))
    clear ah a0 a1 a2 a3 af
    have HNEG := Lib.hid (@when_neg s r q t m)
    have HOK := Lib.hid (@when_ok s r q t m)
    obtain ⟨AT, hAT⟩ : ∃ AT, bktWhen s r q t m = AT := ⟨_, rfl⟩
    rw [hAT] at HNEG HOK ⊢
    clear hAT
    by_cases hneg : AT < 0
    · obtain rfl := HNEG.out hneg
      go_wp2_with fail
      go_ret
      refine ⟨rfl, ?_⟩
      (first | ((repeat' first | (with_reducible (first | exact Below.refl _ _ | assumption | refine Below.setCell ?_ ?_ _ | refine Below.alloc ?_ ?_ _ | refine Below.drew ?_ | refine below_drewN ?_ _ | refine Below.trans ?_ (Below.mono (by assumption) ?_))) | omega | (simp; omega) | (simp; done)); done) | (repeat' first | exact Below.refl _ _ | assumption | refine Below.setCell ?_ (by first | omega | (simp; omega) | (simp; done)) _ | refine Below.alloc ?_ (by first | omega | (simp; omega) | (simp; done)) _ | refine Below.drew ?_ | refine below_drewN ?_ _ | refine Below.trans ?_ (Below.mono (by assumption) (by first | omega | (simp; omega) | (simp; done)))))
    · obtain ⟨hb, a1, a2, hen, hea⟩ := HOK.out hneg
      clear HNEG HOK
      obtain ⟨⟨s1, s2⟩, ⟨r1, r2⟩, ⟨q1, q2⟩, t1, t2⟩ := bktB_iff.1 hb
      have hin : inB AT t 1000000000 = true := inB_iff.2 ⟨a1, a2⟩
      have hm1 : t ≤ t + (AT - t) / 2 := by omega
      have hm2 : t + (AT - t) / 2 ≤ AT := by omega
      obtain ⟨hbm, hmid⟩ := have_mid hb hm1 hm2 a2
      have hinm : inB (t + (AT - t) / 2) t 1000000000 = true := inB_iff.2 ⟨hm1, by omega⟩
      have hiny : inB AT (t + (AT - t) / 2) 1000000000 = true := inB_iff.2 ⟨hm2, a2⟩
      have hvb := bktHave_bd hb hin
      have CX := Lib.hid (fun W => i_BucketAt_yes s r q t AT W hb hin)
      have CM := Lib.hid (fun W => i_BucketAt_yes s r q t (t + (AT - t) / 2) W hb hinm)
      have CY := Lib.hid (fun W => i_BucketAt_yes s r (bktHave s r q t (t + (AT - t) / 2)) (t + (AT - t) / 2) AT W hbm hiny)
      have CZ := Lib.hid (fun (h : t < AT) W => i_BucketAt_yes s r q t (AT - 1) W hb (inB_iff.2 ⟨by omega, by omega⟩))
      obtain ⟨MT, hMT⟩ : ∃ M, t + (AT - t) / 2 = M := ⟨_, rfl⟩
      rw [hMT] at CM CY hmid hm1 hm2
      have HMT := Lib.hid hMT
      obtain ⟨HV, hHV⟩ : ∃ H, bktHave s r q t AT = H := ⟨_, rfl⟩
      rw [hHV] at CX hmid hen hvb
      rw [hmid] at CY
      obtain ⟨MV, hMV⟩ : ∃ H, bktHave s r q t MT = H := ⟨_, rfl⟩
      rw [hMV] at CM CY
      obtain ⟨ZV, hZV⟩ : ∃ H, bktHave s r q t (AT - 1) = H := ⟨_, rfl⟩
      rw [hZV] at hea CZ
      have HEA := Lib.hid hea
      clear hb hin hbm hmid hinm hiny hMT hHV hMV hZV hea
      obtain ⟨hv1, hv2⟩ := hvb
      have hz0 : decide (AT < 0) = false := decide_eq_false hneg
      go_wp2_with fail
      refine (CX.out _).mono ?_
      rintro e w4 ⟨rfl, hb4⟩
      have z4 := hb4.size
      try simp at z4
      obtain ⟨ch, c0, c1, c2, c3, cf, cz⟩ := own4 (g := w1.heap.size) hb4 (by first | omega | (simp; omega) | (simp; done)) (by (first | ((repeat' first | (with_reducible (first | assumption | (refine heap_at ?_; (first | rfl | (simp; done))) | refine heap_drew ?_ | refine heap_drewN ?_ | refine heap_past ?_ ?_ | refine heap_far ?_ ?_)) | (simp; done) | (simp; omega)); done) | (repeat' first | assumption | (refine heap_at ?_; (simp; done)) | refine heap_drew ?_ | refine heap_drewN ?_ | (refine heap_past ?_ ?_ <;> try (simp; done)) | (refine heap_far ?_ ?_ <;> try (simp; done)))))
      clear bh b0 b1 b2 b3 bf
      go_wp2_with fail
      rw [HMT.out]
      refine (CM.out _).mono ?_
      rintro e w5 ⟨rfl, hb5⟩
      have z5 := hb5.size
      try simp at z5
      obtain ⟨dh, d0, d1, d2, d3, df, dz⟩ := own4 (g := w1.heap.size) hb5 (by first | omega | (simp; omega) | (simp; done)) (by (first | ((repeat' first | (with_reducible (first | assumption | (refine heap_at ?_; (first | rfl | (simp; done))) | refine heap_drew ?_ | refine heap_drewN ?_ | refine heap_past ?_ ?_ | refine heap_far ?_ ?_)) | (simp; done) | (simp; omega)); done) | (repeat' first | assumption | (refine heap_at ?_; (simp; done)) | refine heap_drew ?_ | refine heap_drewN ?_ | (refine heap_past ?_ ?_ <;> try (simp; done)) | (refine heap_far ?_ ?_ <;> try (simp; done)))))
      obtain ⟨eh, e0, e1, e2, e3, ef, ez⟩ := own4 (g := w4.heap.size) hb5 (by first | omega | (simp; omega) | (simp; done)) (by (first | ((repeat' first | (with_reducible (first | assumption | (refine heap_at ?_; (first | rfl | (simp; done))) | refine heap_drew ?_ | refine heap_drewN ?_ | refine heap_past ?_ ?_ | refine heap_far ?_ ?_)) | (simp; done) | (simp; omega)); done) | (repeat' first | assumption | (refine heap_at ?_; (simp; done)) | refine heap_drew ?_ | refine heap_drewN ?_ | (refine heap_past ?_ ?_ <;> try (simp; done)) | (refine heap_far ?_ ?_ <;> try (simp; done)))))
      clear ch c0 c1 c2 c3 cf
      go_wp2_with fail
      refine (CY.out _).mono ?_
      rintro e w6 ⟨rfl, hb6⟩
      have z6 := hb6.size
      try simp at z6
      obtain ⟨fh, f0, f1, f2, f3, ff, fz⟩ := own4 (g := w1.heap.size) hb6 (by first | omega | (simp; omega) | (simp; done)) (by (first | ((repeat' first | (with_reducible (first | assumption | (refine heap_at ?_; (first | rfl | (simp; done))) | refine heap_drew ?_ | refine heap_drewN ?_ | refine heap_past ?_ ?_ | refine heap_far ?_ ?_)) | (simp; done) | (simp; omega)); done) | (repeat' first | assumption | (refine heap_at ?_; (simp; done)) | refine heap_drew ?_ | refine heap_drewN ?_ | (refine heap_past ?_ ?_ <;> try (simp; done)) | (refine heap_far ?_ ?_ <;> try (simp; done)))))
      obtain ⟨gh, g0, g1, g2, g3, gf, gz⟩ := own4 (g := w4.heap.size) hb6 (by first | omega | (simp; omega) | (simp; done)) (by (first | ((repeat' first | (with_reducible (first | assumption | (refine heap_at ?_; (first | rfl | (simp; done))) | refine heap_drew ?_ | refine heap_drewN ?_ | refine heap_past ?_ ?_ | refine heap_far ?_ ?_)) | (simp; done) | (simp; omega)); done) | (repeat' first | assumption | (refine heap_at ?_; (simp; done)) | refine heap_drew ?_ | refine heap_drewN ?_ | (refine heap_past ?_ ?_ <;> try (simp; done)) | (refine heap_far ?_ ?_ <;> try (simp; done)))))
      clear dh d0 d1 d2 d3 df eh e0 e1 e2 e3 ef
      have b1 : decide (m ≤ HV) = true := decide_eq_true hen
      have bok : bktB s r HV AT = true := bktB_iff.2 ⟨⟨s1, s2⟩, ⟨r1, r2⟩, ⟨hv1, hv2⟩, by omega, a2⟩
      by_cases hat : t < AT
      · have hzm := HEA.out hat
        have b2 : decide (m ≤ ZV) = false := decide_eq_false (by omega)
        go_wp2_with fail
        refine (CZ.out hat _).mono ?_
        rintro e w7 ⟨rfl, hb7⟩
        have z7 := hb7.size
        try simp at z7
        obtain ⟨jh, j0, j1, j2, j3, jf, jz⟩ := own4 (g := w4.heap.size) hb7 (by first | omega | (simp; omega) | (simp; done)) (by (first | ((repeat' first | (with_reducible (first | assumption | (refine heap_at ?_; (first | rfl | (simp; done))) | refine heap_drew ?_ | refine heap_drewN ?_ | refine heap_past ?_ ?_ | refine heap_far ?_ ?_)) | (simp; done) | (simp; omega)); done) | (repeat' first | assumption | (refine heap_at ?_; (simp; done)) | refine heap_drew ?_ | refine heap_drewN ?_ | (refine heap_past ?_ ?_ <;> try (simp; done)) | (refine heap_far ?_ ?_ <;> try (simp; done)))))
        obtain ⟨kh, k0, k1, k2, k3, kf, kz⟩ := own4 (g := w6.heap.size) hb7 (by first | omega | (simp; omega) | (simp; done)) (by (first | ((repeat' first | (with_reducible (first | assumption | (refine heap_at ?_; (first | rfl | (simp; done))) | refine heap_drew ?_ | refine heap_drewN ?_ | refine heap_past ?_ ?_ | refine heap_far ?_ ?_)) | (simp; done) | (simp; omega)); done) | (repeat' first | assumption | (refine heap_at ?_; (simp; done)) | refine heap_drew ?_ | refine heap_drewN ?_ | (refine heap_past ?_ ?_ <;> try (simp; done)) | (refine heap_far ?_ ?_ <;> try (simp; done)))))
        clear fh f0 f1 f2 f3 ff gh g0 g1 g2 g3 gf
        go_wp2_with fail
        refine (i_BucketOk s r HV AT _).mono ?_
        rintro e w8 ⟨rfl, hb8⟩
        rw [bok]
        go_wp2_with fail
        go_ret
        refine ⟨rfl, ?_⟩
        (first | ((repeat' first | (with_reducible (first | exact Below.refl _ _ | assumption | refine Below.setCell ?_ ?_ _ | refine Below.alloc ?_ ?_ _ | refine Below.drew ?_ | refine below_drewN ?_ _ | refine Below.trans ?_ (Below.mono (by assumption) ?_))) | omega | (simp; omega) | (simp; done)); done) | (repeat' first | exact Below.refl _ _ | assumption | refine Below.setCell ?_ (by first | omega | (simp; omega) | (simp; done)) _ | refine Below.alloc ?_ (by first | omega | (simp; omega) | (simp; done)) _ | refine Below.drew ?_ | refine below_drewN ?_ _ | refine Below.trans ?_ (Below.mono (by assumption) (by first | omega | (simp; omega) | (simp; done)))))
      · have hat' : decide (t < AT) = false := decide_eq_false hat
        go_wp2_with fail
        refine (i_BucketOk s r HV AT _).mono ?_
        rintro e w8 ⟨rfl, hb8⟩
        rw [bok]
        go_wp2_with fail
        go_ret
        refine ⟨rfl, ?_⟩
        (first | ((repeat' first | (with_reducible (first | exact Below.refl _ _ | assumption | refine Below.setCell ?_ ?_ _ | refine Below.alloc ?_ ?_ _ | refine Below.drew ?_ | refine below_drewN ?_ _ | refine Below.trans ?_ (Below.mono (by assumption) ?_))) | omega | (simp; omega) | (simp; done)); done) | (repeat' first | exact Below.refl _ _ | assumption | refine Below.setCell ?_ (by first | omega | (simp; omega) | (simp; done)) _ | refine Below.alloc ?_ (by first | omega | (simp; omega) | (simp; done)) _ | refine Below.drew ?_ | refine below_drewN ?_ _ | refine Below.trans ?_ (Below.mono (by assumption) (by first | omega | (simp; omega) | (simp; done)))))
  · have hn' : decide ((1048576 : Int) < (n : Int)) = true := decide_eq_true (by omega)
    go_enter Try.func3, Try.ntmps3
    go_wp2_with fail
    go_ret
    exact ⟨rfl, Below.refl _ _⟩
end Go.Proofs.Ytplchgkppkibnaa
