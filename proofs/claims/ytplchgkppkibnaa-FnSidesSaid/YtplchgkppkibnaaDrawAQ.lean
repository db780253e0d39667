/- What the laws on postings draw. -/
import Derived.Test.YtplchgkppkibnaaRows
import Derived.Test.YtplchgkppkibnaaDrawAP
namespace Go.Proofs.Ytplchgkppkibnaa
open Go.RowKit

theorem two_selfL {W : World} {R : Nat} {a b x y : Value} {t : TypeId} (hr : W.heap[R]? = some (.cells #[x, y] t (0, 0))) :
    (W.setCell ⟨R, 0, none⟩ a).cell? ⟨R, 0, none⟩ = some a ∧ ((W.setCell ⟨R, 0, none⟩ a).setCell ⟨R, 1, none⟩ b).cell? ⟨R, 1, none⟩ = some b := by
  have h1 : (W.setCell ⟨R, 0, none⟩ a).heap[R]? = some (.cells #[a, y] t (0, 0)) := heap_set hr
  have h2 : ((W.setCell ⟨R, 0, none⟩ a).setCell ⟨R, 1, none⟩ b).heap[R]? = some (.cells #[a, b] t (0, 0)) := heap_set h1
  exact ⟨blk_cell h1 0, blk_cell h2 1⟩
theorem Ow.capL {w : World} {B size cap : Nat} {e : TypeId} {A : Option Addr} {rows : List (List Value)} {n : Nat} (h : Ow w B e size (.slice A n cap) rows) : rows.length ≤ cap := by
  obtain ⟨_, _, hv, _, hc, _⟩ := h.form
  injection hv with _ _ h3
  rw [h3]
  exact hc
theorem OwW.caps {w : World} {B cap : Nat} {A : Option Addr} {ps : List Pst} (h : OwW w B A cap ps) : ∀ p ∈ ps, p.L.length ≤ p.cap := fun p hp => by
  have h1 : (p.L.map Line.cells).length ≤ p.cap := Ow.capL (h.2 p hp).1
  rwa [List.length_map] at h1
def DrawnRev (w : World) (e : Ending) (w' : World) : Prop := ∃ (z t : Int) (L : List Line) (A : Option Addr) (cap : Nat), e = .returned (.tuple #[.agg #[.int .i64 z, .slice A L.length cap], .int .i64 t]) ∧ (L.length ≤ 15 ∧ L.length ≤ cap) ∧ Rd w' w'.heap.size 3 A (L.map Line.cells) ∧ Below w.heap.size w w'
set_option maxRecDepth 100000 in
set_option maxHeartbeats 2000000 in
theorem s_DrawReverse (A : Option Addr) (n cap : Nat) (w : World) (hc : Code w w.heap.size A n cap) :
    Calls Try.prog 40 #[.slice A n cap] w (DrawnRev w) := by
  go_enter Try.func40, Try.ntmps40
  go_wp2_with fail
  refine (s_l01New A n cap _ ((hc.below ((Below.refl _ _).alloc (Nat.le_refl _) _)).more (by simp))).mono ?_
  rintro e w1 ⟨rfl, hc1, hb1, z1⟩
  simp only [sizeUpL] at hc1 hb1 z1 ⊢
  have r1 : w1.heap[w.heap.size]? = some (.cells #[.int .i64 0, .slice none 0 0] 69 (0, 0)) := heap_below hb1 (by omega) (heap_at rfl)
  have hB1 : Below w.heap.size w w1 := by (first | ((repeat' first | (with_reducible (first | exact Below.refl _ _ | assumption | refine Below.setCell ?_ ?_ _ | refine Below.alloc ?_ ?_ _ | refine Below.drew ?_ | refine below_drewN ?_ _ | refine Below.trans ?_ (Below.mono (by assumption) ?_))) | omega | (simp; omega) | (simp; done)); done) | (repeat' first | exact Below.refl _ _ | assumption | refine Below.setCell ?_ (by first | omega | (simp; omega) | (simp; done)) _ | refine Below.alloc ?_ (by first | omega | (simp; omega) | (simp; done)) _ | refine Below.drew ?_ | refine below_drewN ?_ _ | refine Below.trans ?_ (Below.mono (by assumption) (by first | omega | (simp; omega) | (simp; done)))))
  clear hb1
  obtain ⟨g, hg⟩ : ∃ g, w.heap.size + 1 = g := ⟨_, rfl⟩
  rw [hg] at hc1 z1 ⊢
  go_wp2_with fail
  refine (s_l20Posting g _ hc1).mono ?_
  rintro e w2 ⟨z, L, A2, cap2, rfl, hl, how, hc2, hg2⟩
  have z2 := hg2.size
  have r2 := heap_grown hg2 (someNeL (by omega)) r1
  have hB2 : Below w.heap.size w w2 := hB1.grown hg2 (by omega) (fun k e => by cases e; omega)
  have HO2 := Lib.hid how
  clear r1 hB1 how hg2
  go_wp2_with fail
  refine (s_l01Below g 20 _ (hc2.alloc _) (by decide) (by decide)).mono ?_
  rintro e w3 ⟨t, t1, t2, rfl, hc3, hg3⟩
  have z3 := hg3.size
  rw [sizeUpL] at z3
  have r3 := heap_grown hg3 (someNeL (by omega)) (heap_past (by omega) r2)
  have p3 : w3.heap[w2.heap.size]? = some (.cells #[.int .i64 z, .slice A2 L.length cap2] 69 (0, 0)) := heap_grown hg3 (someNeL (by omega)) (heap_at rfl)
  have HO3 := Lib.hid ((HO2.out.alloc (.cells #[.int .i64 z, .slice A2 L.length cap2] 69)).pastL hg3 (by omega))
  have hB3 : Below w.heap.size w w3 := (hB2.alloc (by omega) _).grown hg3 (by rw [sizeUpL]; omega) (fun k e => by cases e; omega)
  obtain ⟨Q, hQ⟩ : ∃ Q, w2.heap.size = Q := ⟨_, rfl⟩
  rw [hQ] at p3 z3 ⊢
  have hRQ : w.heap.size < Q := by omega
  clear r2 hg3 hB2 HO2 hc2
  go_wp2_with fail
  refine (s_l01Below g 9 _ hc3 (by decide) (by decide)).mono ?_
  rintro e w4 ⟨v, v1, v2, rfl, hc4, hg4⟩
  have z4 := hg4.size
  have r4 := heap_grown hg4 (someNeL (by omega)) r3
  have p4 := heap_grown hg4 (someNeL (by omega)) p3
  have HO4 := Lib.hid (HO3.out.pastL hg4 (by omega))
  have hB4 : Below w.heap.size w w4 := hB3.grown hg4 (by omega) (fun k e => by cases e; omega)
  clear r3 p3 hg4 hB3 HO3 hc3
  obtain ⟨_, p0, p1, pf, pz⟩ := own2 (Below.refl w4.heap.size w4) (Array.getElem?_eq_some_iff.1 p4).1 p4
  obtain ⟨_, q0, q1, qf, qz⟩ := own2 (Below.refl w4.heap.size w4) (Array.getElem?_eq_some_iff.1 r4).1 r4
  cases hv : (v == 0)
  · go_wp2_with fail
    obtain ⟨s0, s1⟩ := two_selfL (a := .int .i64 z) (b := .slice A2 L.length cap2) r4
    refine bodyPost_ret (v := .tuple #[.agg #[.int .i64 z, .slice A2 L.length cap2], .int .i64 (1 + t)]) (by simp [results, Try.results40, go_sem, s0, s1]) rfl ⟨z, _, L, A2, cap2, rfl, ⟨hl, by have := HO4.out.capL; rwa [List.length_map] at this⟩, ?_, ?_⟩
    · exact ((HO4.out.far (a := ⟨w.heap.size, 0, none⟩) (by simp only; omega) _).far (a := ⟨w.heap.size, 1, none⟩) (by simp only; omega) _).rd
    · exact (hB4.setCell (p := ⟨w.heap.size, 0, none⟩) (Nat.le_refl _) _).setCell (p := ⟨w.heap.size, 1, none⟩) (Nat.le_refl _) _
  · go_wp2_with fail
    refine (s_l01Raw g _ hc4).mono ?_
    rintro e w5 ⟨u, u1, u2, rfl, hc5, hg5⟩
    have r5 := heap_grown hg5 (someNeL (by omega)) r4
    have p5 := heap_grown hg5 (someNeL (by omega)) p4
    have HO5 := Lib.hid (HO4.out.pastL hg5 (by omega))
    have hB5 : Below w.heap.size w w5 := hB4.grown hg5 (by omega) (fun k e => by cases e; omega)
    clear r4 p4 hg5 hB4 HO4 hc4 p0 p1 pf q0 q1 qf
    obtain ⟨_, p0, p1, pf, pz5⟩ := own2 (Below.refl w5.heap.size w5) (Array.getElem?_eq_some_iff.1 p5).1 p5
    obtain ⟨_, q0, q1, qf, qz5⟩ := own2 (Below.refl w5.heap.size w5) (Array.getElem?_eq_some_iff.1 r5).1 r5
    go_wp2_with fail
    obtain ⟨s0, s1⟩ := two_selfL (a := .int .i64 z) (b := .slice A2 L.length cap2) r5
    refine bodyPost_ret (v := .tuple #[.agg #[.int .i64 z, .slice A2 L.length cap2], .int .i64 u]) (by simp [results, Try.results40, go_sem, s0, s1]) rfl ⟨z, _, L, A2, cap2, rfl, ⟨hl, by have := HO5.out.capL; rwa [List.length_map] at this⟩, ?_, ?_⟩
    · exact ((HO5.out.far (a := ⟨w.heap.size, 0, none⟩) (by simp only; omega) _).far (a := ⟨w.heap.size, 1, none⟩) (by simp only; omega) _).rd
    · exact (hB5.setCell (p := ⟨w.heap.size, 0, none⟩) (Nat.le_refl _) _).setCell (p := ⟨w.heap.size, 1, none⟩) (Nat.le_refl _) _
def DrawnAP (w : World) (e : Ending) (w' : World) : Prop := ∃ (ps : List Pst) (A : Option Addr) (cap : Nat) (a b : Int), e = .returned (.tuple #[.slice A ps.length cap, .agg #[.int .i64 a, .int .i64 b]]) ∧ ps.length ≤ 5 ∧ (∀ p ∈ ps, p.L.length ≤ 15 ∧ p.L.length ≤ p.cap) ∧ RdP w' w'.heap.size A ps ∧ Below w.heap.size w w'
set_option maxRecDepth 100000 in
set_option maxHeartbeats 2000000 in
theorem s_DrawAccPast (A : Option Addr) (n cap : Nat) (w : World) (hc : Code w w.heap.size A n cap) :
    Calls Try.prog 45 #[.slice A n cap] w (DrawnAP w) := by
  go_enter Try.func45, Try.ntmps45
  go_wp2_with fail
  refine (s_l01New A n cap _ ((hc.below ((Below.refl _ _).alloc (Nat.le_refl _) _)).more (by simp))).mono ?_
  rintro e w1 ⟨rfl, hc1, hb1, z1⟩
  simp only [sizeUpL] at hc1 hb1 z1 ⊢
  have r1 : w1.heap[w.heap.size]? = some (.cells #[.int .i64 0, .int .i64 0] 40 (0, 0)) := heap_below hb1 (by omega) (heap_at rfl)
  have hB1 : Below w.heap.size w w1 := by (first | ((repeat' first | (with_reducible (first | exact Below.refl _ _ | assumption | refine Below.setCell ?_ ?_ _ | refine Below.alloc ?_ ?_ _ | refine Below.drew ?_ | refine below_drewN ?_ _ | refine Below.trans ?_ (Below.mono (by assumption) ?_))) | omega | (simp; omega) | (simp; done)); done) | (repeat' first | exact Below.refl _ _ | assumption | refine Below.setCell ?_ (by first | omega | (simp; omega) | (simp; done)) _ | refine Below.alloc ?_ (by first | omega | (simp; omega) | (simp; done)) _ | refine Below.drew ?_ | refine below_drewN ?_ _ | refine Below.trans ?_ (Below.mono (by assumption) (by first | omega | (simp; omega) | (simp; done)))))
  clear hb1
  obtain ⟨g, hg⟩ : ∃ g, w.heap.size + 1 = g := ⟨_, rfl⟩
  rw [hg] at hc1 z1 ⊢
  go_wp2_with fail
  refine (s_l02Postings g _ hc1).mono ?_
  rintro e w2 ⟨ps, A2, cap2, rfl, hl, how, hc2, hg2⟩
  have z2 := hg2.size
  have r2 := heap_grown hg2 (someNeL (by omega)) r1
  have hB2 : Below w.heap.size w w2 := hB1.grown hg2 (by omega) (fun k e => by cases e; omega)
  have hgw : g < w1.heap.size := hc1.lt
  have HO2 := Lib.hid how
  clear r1 hB1 how hg2
  have fin : ∀ (qs : List Pst) (W : World), qs.length = ps.length → OwW W w1.heap.size A2 cap2 qs → Crs W g → Below w.heap.size w W → W.heap[w.heap.size]? = some (.cells #[.int .i64 0, .int .i64 0] 40 (0, 0)) → w1.heap.size ≤ W.heap.size →
      Calls Try.prog 88 #[.pointer (some ⟨g, 0, none⟩)] W fun e W' => ∃ a b : Int, e = .returned (.agg #[.int .i64 a, .int .i64 b]) ∧ OwW W' w1.heap.size A2 cap2 qs ∧ Below w.heap.size w W' ∧ W'.heap[w.heap.size]? = some (.cells #[.int .i64 0, .int .i64 0] 40 (0, 0)) ∧ w1.heap.size ≤ W'.heap.size := by
    intro qs W _ h1 h2 h3 h4 h5
    refine (s_l02AnyAcc g W h2).mono ?_
    rintro e W' ⟨a, b, rfl, hc', hg'⟩
    exact ⟨a, b, rfl, h1.pastL hg' hgw, h3.grown hg' (by omega) (fun k e => by cases e; omega), heap_grown hg' (someNeL (by omega)) h4, Nat.le_trans h5 hg'.size⟩
  have FIN := Lib.hid fin
  clear fin
  by_cases h0 : ps.length = 0
  · have hnil := List.eq_nil_of_length_eq_zero h0
    subst hnil
    rw [show ([] : List Pst).length = 0 from rfl]
    obtain ⟨_, q0, q1, qf, qz⟩ := own2 (Below.refl w2.heap.size w2) (Array.getElem?_eq_some_iff.1 r2).1 r2
    go_wp2_with fail
    refine (FIN.out [] w2 rfl HO2.out hc2 hB2 r2 z2).mono ?_
    rintro e w3 ⟨a, b, rfl, ho3, hB3, r3, z3⟩
    have HO3 := Lib.hid ho3
    clear ho3
    obtain ⟨_, q0, q1, qf, qz⟩ := own2 (Below.refl w3.heap.size w3) (Array.getElem?_eq_some_iff.1 r3).1 r3
    go_wp2_with fail
    obtain ⟨s0, s1⟩ := two_selfL (a := .int .i64 a) (b := .int .i64 b) r3
    refine bodyPost_ret (v := .tuple #[.slice A2 0 cap2, .agg #[.int .i64 a, .int .i64 b]]) (by simp [results, Try.results45, go_sem, s0, s1]) rfl ⟨[], A2, cap2, a, b, rfl, by decide, by simp, RdP.nil_, ?_⟩
    exact (hB3.setCell (p := ⟨w.heap.size, 0, none⟩) (Nat.le_refl _) _).setCell (p := ⟨w.heap.size, 1, none⟩) (Nat.le_refl _) _
  · have hp : (0 : Int) < (ps.length : Int) := by omega
    obtain ⟨q, rfl, hqB⟩ : ∃ q, A2 = some ⟨q, 0, none⟩ ∧ w1.heap.size ≤ q := by
      rcases HO2.out.1.open_ with ⟨h1, _⟩ | ⟨q, cap', hv, hB, _⟩
      · rw [List.map_eq_nil_iff] at h1
        subst h1
        exact absurd rfl h0
      · injection hv with hv
        exact ⟨q, hv, hB⟩
    go_wp2_with fail
    refine (s_l01Below g 8 _ hc2 (by decide) (by decide)).mono ?_
    rintro e w3 ⟨v, v1, v2, rfl, hc3, hg3⟩
    have z3 := hg3.size
    have r3 := heap_grown hg3 (someNeL (by omega)) r2
    have HO3 := Lib.hid (HO2.out.pastL hg3 hgw)
    have hB3 : Below w.heap.size w w3 := hB2.grown hg3 (by omega) (fun k e => by cases e; omega)
    clear r2 hg3 hB2 HO2 hc2
    cases hv : (v == 0)
    · go_wp2_with fail
      refine (FIN.out ps w3 rfl HO3.out hc3 hB3 r3 (by omega)).mono ?_
      rintro e w4 ⟨a, b, rfl, ho4, hB4, r4, z4⟩
      have HO4 := Lib.hid ho4
      clear ho4
      obtain ⟨_, q0, q1, qf, qz⟩ := own2 (Below.refl w4.heap.size w4) (Array.getElem?_eq_some_iff.1 r4).1 r4
      go_wp2_with fail
      obtain ⟨s0, s1⟩ := two_selfL (a := .int .i64 a) (b := .int .i64 b) r4
      refine bodyPost_ret (v := .tuple #[.slice (some ⟨q, 0, none⟩) ps.length cap2, .agg #[.int .i64 a, .int .i64 b]]) (by simp [results, Try.results45, go_sem, s0, s1]) rfl ⟨ps, _, cap2, a, b, rfl, hl, fun p hp => ⟨(HO4.out.2 p hp).2, HO4.out.caps p hp⟩, ((HO4.out.far (a := ⟨w.heap.size, 0, none⟩) (by simp only; omega) _).far (a := ⟨w.heap.size, 1, none⟩) (by simp only; omega) _).rd, ?_⟩
      exact (hB4.setCell (p := ⟨w.heap.size, 0, none⟩) (Nat.le_refl _) _).setCell (p := ⟨w.heap.size, 1, none⟩) (Nat.le_refl _) _
    · go_wp2_with fail
      refine (s_l20Posting g _ hc3).mono ?_
      rintro e w4 ⟨z, L, A, lc, rfl, hll, hown, hc4, hg4⟩
      have z4 := hg4.size
      have r4 := heap_grown hg4 (someNeL (by omega)) r3
      have HO4 := Lib.hid (HO3.out.pastL hg4 hgw)
      have hB4 : Below w.heap.size w w4 := hB3.grown hg4 (by omega) (fun k e => by cases e; omega)
      have HL4 := Lib.hid (hown.more (B' := w1.heap.size) (by omega))
      clear r3 hg4 hB3 HO3 hc3 hown
      obtain ⟨cur, hcur⟩ := HO4.out.1.heap_
      have hk : (ps.map Pst.cells)[0]? = some (ps[0]'(by omega)).cells := by rw [List.getElem?_map, List.getElem?_eq_getElem (by omega)]; rfl
      have c0 := HO4.out.1.cellAt hk (j := 0) (by omega)
      have c1 := HO4.out.1.cellAt hk (j := 1) (by omega)
      have ff := HO4.out.1.frozenAt
      simp only [Pst.cells, List.getElem?_cons_succ, List.getElem?_cons_zero, Nat.zero_mul, Nat.zero_add] at c0 c1
      have h1 := HO4.out.1.stored hk (j := 0) (by omega) (.int .i64 z)
      have h2 := h1.stored (i := 0) (j := 1) (r := (ps[0]'(by omega)).cells.set 0 (.int .i64 z)) (by rw [List.getElem?_set_self (by simpa using (by omega : 0 < ps.length))]) (by omega) (.slice A L.length lc)
      rw [List.set_set] at h2
      have cur2 : (w4.setCell ⟨q, 0, none⟩ (.int .i64 z)).heap[q]? = some (.cells (cur.setIfInBounds 0 (.int .i64 z)) 69 (0, 0)) := heap_set hcur
      have HO5 : Hid (OwW ((w4.setCell ⟨q, 0, none⟩ (.int .i64 z)).setCell ⟨q, 1, none⟩ (.slice A L.length lc)) w1.heap.size (some ⟨q, 0, none⟩) cap2 (ps.set 0 ⟨z, A, lc, L⟩)) := Lib.hid ⟨by
          rw [List.length_set, List.map_set]
          exact h2, fun p hp => by
          have side : ∀ v rows, Ow w4 w1.heap.size 97 3 v rows → Ow ((w4.setCell ⟨q, 0, none⟩ (.int .i64 z)).setCell ⟨q, 1, none⟩ (.slice A L.length lc)) w1.heap.size 97 3 v rows := fun v rows h => by
            have h3 := h.grown (grown_set (World.grownBy.refl w4 (some q)) 0 (.int .i64 z)) (.inr (Ne.symm (h.ne_ hcur (by decide))))
            exact h3.grown (grown_set (World.grownBy.refl _ (some q)) 1 (.slice A L.length lc)) (.inr (Ne.symm (h3.ne_ cur2 (by decide))))
          rcases List.mem_or_eq_of_mem_set hp with hp | rfl
          · exact ⟨side _ _ (HO4.out.2 p hp).1, (HO4.out.2 p hp).2⟩
          · exact ⟨side _ _ HL4.out, hll⟩⟩
      have r5 := heap_far (a := ⟨q, 1, none⟩) (u := .slice A L.length lc) (by simp only; omega) (heap_far (a := ⟨q, 0, none⟩) (u := .int .i64 z) (by simp only; omega) r4)
      have hB5 := (hB4.setCell (p := ⟨q, 0, none⟩) (show w.heap.size ≤ q by omega) (.int .i64 z)).setCell (p := ⟨q, 1, none⟩) (show w.heap.size ≤ q by omega) (.slice A L.length lc)
      have hc5 := (hc4.set (b := q) (i := 0) (u := .int .i64 z) (by omega)).set (b := q) (i := 1) (u := .slice A L.length lc) (by omega)
      clear h1 h2 hk cur2 hcur
      go_wp2_with fail
      refine (FIN.out (ps.set 0 ⟨z, A, lc, L⟩) _ (by simp) HO5.out hc5 hB5 r5 (by simp [World.setCell]; omega)).mono ?_
      rintro e w6 ⟨a, b, rfl, ho6, hB6, r6, z6⟩
      have HO6 := Lib.hid ho6
      clear ho6
      obtain ⟨_, q0, q1, qf, qz⟩ := own2 (Below.refl w6.heap.size w6) (Array.getElem?_eq_some_iff.1 r6).1 r6
      go_wp2_with fail
      obtain ⟨s0, s1⟩ := two_selfL (a := .int .i64 a) (b := .int .i64 b) r6
      refine bodyPost_ret (v := .tuple #[.slice (some ⟨q, 0, none⟩) ps.length cap2, .agg #[.int .i64 a, .int .i64 b]]) (by simp [results, Try.results45, go_sem, s0, s1]) rfl ⟨ps.set 0 ⟨z, A, lc, L⟩, _, cap2, a, b, by rw [List.length_set], by rw [List.length_set]; exact hl, fun p hp => ⟨(HO6.out.2 p hp).2, HO6.out.caps p hp⟩, ((HO6.out.far (a := ⟨w.heap.size, 0, none⟩) (by simp only; omega) _).far (a := ⟨w.heap.size, 1, none⟩) (by simp only; omega) _).rd, ?_⟩
      exact (hB6.setCell (p := ⟨w.heap.size, 0, none⟩) (Nat.le_refl _) _).setCell (p := ⟨w.heap.size, 1, none⟩) (Nat.le_refl _) _
end Go.Proofs.Ytplchgkppkibnaa
