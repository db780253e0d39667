/- Draws of a purse, a time and an amount. -/
import Derived.Test.YtplchgkppkibnaaRows
import Derived.Test.YtplchgkppkibnaaDrawP
import Derived.Deep.RegionHeld3
namespace Go.Proofs.Ytplchgkppkibnaa
open Go.RowKit

set_option maxRecDepth 100000 in
set_option maxHeartbeats 4000000 in
theorem s_l23At (g : Nat) (c s : Int) (L : List Coin) (A : Option Addr) (cp : Nat) (w : World) (B : Nat) (hc : Crs w g) (hl : L.length ≤ 60) (hgB : g < B) (ho : Ow w B 108 2 (.slice A L.length cp) (L.map Coin.cells)) :
    Calls Try.prog 74 #[.pointer (some ⟨g, 0, none⟩), .agg #[.int .i64 c, .int .i64 s, .slice A L.length cp]] w (DrewI g w (-9223372036854775808) 9223372036854775807) := by
  have hgw := hc.lt
  have HO := Lib.hid ho
  clear ho
  go_enter Try.func74, Try.ntmps74
  go_wp2_with fail
  refine (s_l01Below g 10 _ (hc.alloc _) (by decide) (by decide)).mono ?_
  rintro e w1 ⟨k, k1, k2, rfl, hc1, hg1⟩
  have z1 := hg1.size
  rw [sizeUpP] at z1
  have hG1 : w.grownBy w1 (some g) := grown_trans (grown_allocP (World.grownBy.refl _ _) _) hg1
  have b1 : w1.heap[w.heap.size]? = some (.cells #[.int .i64 c, .int .i64 s, .slice A L.length cp] 59 (0, 0)) := heap_grown hg1 (someNeP (by omega)) (heap_at rfl)
  have HO1 := Lib.hid ((HO.out.alloc (.cells #[.int .i64 c, .int .i64 s, .slice A L.length cp] 59)).pastC hg1 hgB)
  clear hg1
  cases hk0 : (k == 0)
  · obtain ⟨_, p0, p1, p2, pf, pz⟩ := own3 (Below.refl w1.heap.size w1) (Array.getElem?_eq_some_iff.1 b1).1 b1
    by_cases hL : 0 < L.length
    · have i0 : (0 : Int) < (L.length : Int) := by omega
      by_cases h7 : k < 7
      · obtain ⟨m, hm⟩ : ∃ m, L.length = m + 1 := ⟨L.length - 1, by omega⟩
        have hml : m < L.length := by omega
        obtain ⟨q, rfl, a0⟩ : ∃ q, A = some ⟨q, 0, none⟩ ∧ ∀ W : World, Ow W B 108 2 (.slice A L.length cp) (L.map Coin.cells) → W.cell? ⟨q, m * 2, none⟩ = some (.int .i64 L[m].At) := by
          rcases HO1.out.open_ with ⟨h0, _⟩ | ⟨q, cap', hv, hB, _⟩
          · rw [List.map_eq_nil_iff] at h0
            subst h0
            simp at hL
          · injection hv with hv
            subst hv
            have hk' : (L.map Coin.cells)[m]? = some L[m].cells := by rw [List.getElem?_map, List.getElem?_eq_getElem hml]; rfl
            exact ⟨q, rfl, fun W h => h.cellAt (i := m) (j := 0) hk' (by omega)⟩
        have A0 := Lib.hid a0
        have c0 := a0 _ HO1.out
        clear a0
        have i1 : (0 : Int) ≤ (m : Int) := by omega
        have i2 : (m : Int) < (L.length : Int) := by omega
        have e1 : (L.length : Int) - 1 = (m : Int) := by omega
        have e2 : IntKind.i64.wrap (m : Int) = (m : Int) := IntWalk.i64_in _ ⟨by omega, by omega⟩
        have HM := Lib.hid hm
        clear hm
        go_wp2_with fail
        go_region_held3 (fun w' => w'.cell? ⟨w.heap.size, 2, none⟩ = some (.slice (some ⟨q, 0, none⟩) L.length cp) ∧ w'.cell? ⟨q, m * 2, none⟩ = some (.int .i64 L[m].At))
          (((try dsimp only); (repeat' apply And.intro) <;> (repeat (first | (with_reducible assumption) | (with_reducible refine cell_undrew ?_)))))
          ((go_at_call 50; refine (s_l01Below g 12 w1.drew (hc1.below ((Below.refl _ _).drew)) (by decide) (by decide)).mono ?_; rintro e w2 ⟨x, x1, x2, rfl, hc2, hg2'⟩; have hg2 := grown_undrew hg2'; have b2 := heap_grown hg2 (someNeP (by omega)) b1; have HO2 := Lib.hid (HO1.out.pastC hg2 hgB); have q2 := blk_cell b2 2; simp only [List.getElem?_toArray, List.getElem?_cons_zero, List.getElem?_cons_succ] at q2; have d0 := A0.out _ HO2.out))
        go_wp2_with fail
        go_ret
        exact ⟨_, (wf_i64_le (wf_wrap .i64 _)).1, (wf_i64_le (wf_wrap .i64 _)).2, rfl, hc2, grown_trans hG1 hg2⟩
      · have h7' : decide (k < 7) = false := decide_eq_false h7
        go_wp2_with fail
        refine (s_l01Below g 50 _ hc1 (by decide) (by decide)).mono ?_
        rintro e w2 ⟨x, x1, x2, rfl, hc2, hg2⟩
        go_wp2_with fail
        go_ret
        exact ⟨x, by omega, by omega, rfl, hc2, grown_trans hG1 hg2⟩
    · have hnil := List.eq_nil_of_length_eq_zero (show L.length = 0 by omega)
      subst hnil
      rw [show ([] : List Coin).length = 0 from rfl] at p2
      go_wp2_with fail
      refine (s_l01Below g 50 _ hc1 (by decide) (by decide)).mono ?_
      rintro e w2 ⟨x, x1, x2, rfl, hc2, hg2⟩
      go_wp2_with fail
      go_ret
      exact ⟨x, by omega, by omega, rfl, hc2, grown_trans hG1 hg2⟩
  · go_wp2_with fail
    refine (s_l01Raw g _ hc1).mono ?_
    rintro e w2 ⟨x, x1, x2, rfl, hc2, hg2⟩
    go_wp2_with fail
    go_ret
    exact ⟨x, x1, x2, rfl, hc2, grown_trans hG1 hg2⟩
theorem s_l23Amt (g : Nat) (w : World) (hc : Crs w g) :
    Calls Try.prog 75 #[.pointer (some ⟨g, 0, none⟩)] w (DrewI g w (-9223372036854775808) 9223372036854775807) := by
  go_enter Try.func75, Try.ntmps75
  go_wp2_with fail
  refine (s_l01Below g 9 _ hc (by decide) (by decide)).mono ?_
  rintro e w1 ⟨k, k1, k2, rfl, hc1, hg1⟩
  cases hk0 : (k == 0)
  · go_wp2_with fail
    refine (s_l01Below g 90 _ hc1 (by decide) (by decide)).mono ?_
    rintro e w2 ⟨x, x1, x2, rfl, hc2, hg2⟩
    go_wp2_with fail
    go_ret
    exact ⟨1 + x, by omega, by omega, rfl, hc2, grown_trans hg1 hg2⟩
  · go_wp2_with fail
    refine (s_l01Raw g _ hc1).mono ?_
    rintro e w2 ⟨x, x1, x2, rfl, hc2, hg2⟩
    go_wp2_with fail
    go_ret
    exact ⟨x, x1, x2, rfl, hc2, grown_trans hg1 hg2⟩
def DrawnPw (w : World) (e : Ending) (w' : World) : Prop := ∃ (c s t n : Int) (l : List Coin) (A : Option Addr) (cap : Nat), e = .returned (.tuple #[.agg #[.int .i64 c, .int .i64 s, .slice A l.length cap], .int .i64 t, .int .i64 n]) ∧ l.length ≤ 60 ∧ (-9223372036854775808 ≤ t ∧ t ≤ 9223372036854775807) ∧
  Rd w' w'.heap.size 2 A (l.map Coin.cells) ∧ Below w.heap.size w w'
set_option maxRecDepth 100000 in
set_option maxHeartbeats 4000000 in
theorem s_DrawPurseWhen (A : Option Addr) (n cap : Nat) (w : World) (hc : Code w w.heap.size A n cap) :
    Calls Try.prog 33 #[.slice A n cap] w (DrawnPw w) := by
  go_enter Try.func33, Try.ntmps33
  go_wp2_with fail
  refine (s_l01New A n cap _ ((hc.below ((Below.refl _ _).alloc (Nat.le_refl _) _)).more (by simp))).mono ?_
  rintro e w1 ⟨rfl, hc1, hb1, z1⟩
  simp only [sizeUpP] at hc1 hb1 z1 ⊢
  have r1 : w1.heap[w.heap.size]? = some (.cells #[.int .i64 0, .int .i64 0, .slice none 0 0] 59 (0, 0)) := heap_below hb1 (by omega) (heap_at rfl)
  have hB1 : Below w.heap.size w w1 := by (first | ((repeat' first | (with_reducible (first | exact Below.refl _ _ | assumption | refine Below.setCell ?_ ?_ _ | refine Below.alloc ?_ ?_ _ | refine Below.drew ?_ | refine below_drewN ?_ _ | refine Below.trans ?_ (Below.mono (by assumption) ?_))) | omega | (simp; omega) | (simp; done)); done) | (repeat' first | exact Below.refl _ _ | assumption | refine Below.setCell ?_ (by first | omega | (simp; omega) | (simp; done)) _ | refine Below.alloc ?_ (by first | omega | (simp; omega) | (simp; done)) _ | refine Below.drew ?_ | refine below_drewN ?_ _ | refine Below.trans ?_ (Below.mono (by assumption) (by first | omega | (simp; omega) | (simp; done)))))
  clear hb1
  obtain ⟨g, hg⟩ : ∃ g, w.heap.size + 1 = g := ⟨_, rfl⟩
  rw [hg] at hc1 z1 ⊢
  go_wp2_with fail
  refine (s_l23Draw g _ hc1).mono ?_
  rintro e w2 ⟨c, s, l, A2, cap2, rfl, hl, how, hc2, hg2⟩
  have z2 := hg2.size
  have r2 := heap_grown hg2 (someNeP (by omega)) r1
  have hB2 : Below w.heap.size w w2 := hB1.grown hg2 (by omega) (fun k e => by cases e; omega)
  have HO2 := Lib.hid how
  clear r1 hB1 how hg2
  go_wp2_with fail
  refine (s_l23At g c s l A2 cap2 _ w1.heap.size (hc2.alloc _) hl (by omega) (HO2.out.alloc _)).mono ?_
  rintro e w3 ⟨t, t1, t2, rfl, hc3, hg3⟩
  have z3 := hg3.size
  rw [sizeUpP] at z3
  have r3 := heap_grown hg3 (someNeP (by omega)) (heap_past (by omega) r2)
  have p3 : w3.heap[w2.heap.size]? = some (.cells #[.int .i64 c, .int .i64 s, .slice A2 l.length cap2] 59 (0, 0)) := heap_grown hg3 (someNeP (by omega)) (heap_at rfl)
  have HO3 := Lib.hid ((HO2.out.alloc (.cells #[.int .i64 c, .int .i64 s, .slice A2 l.length cap2] 59)).pastC hg3 (by omega))
  have hB3 : Below w.heap.size w w3 := (hB2.alloc (by omega) _).grown hg3 (by rw [sizeUpP]; omega) (fun k e => by cases e; omega)
  obtain ⟨Q, hQ⟩ : ∃ Q, w2.heap.size = Q := ⟨_, rfl⟩
  rw [hQ] at p3 z3 ⊢
  clear r2 hg3 hB2 HO2
  obtain ⟨_, p0, p1, p2, pf, pz⟩ := own3 (Below.refl w3.heap.size w3) (Array.getElem?_eq_some_iff.1 p3).1 p3
  have hRQ : Q ≠ w.heap.size := by omega
  go_wp2_with fail
  go_region_held3 (fun w' => w'.cell? ⟨Q, 0, none⟩ = some (.int .i64 c) ∧ w'.cell? ⟨Q, 1, none⟩ = some (.int .i64 s) ∧ w'.cell? ⟨Q, 2, none⟩ = some (.slice A2 l.length cap2))
    (((try dsimp only); (repeat' apply And.intro) <;> (repeat (first | (with_reducible assumption) | (with_reducible refine cell_undrew ?_) | (with_reducible refine cell_aside hRQ ?_)))))
    ((go_at_call 75; refine (s_l23Amt g w3.drew (hc3.below ((Below.refl _ _).drew))).mono ?_; rintro e w4 ⟨m, m1, m2, rfl, hc4, hg4'⟩; have hg4 := grown_undrew hg4'; have p4 := heap_grown hg4 (someNeP (by omega)) p3; have r4 := heap_grown hg4 (someNeP (by omega)) r3; have HO4 := Lib.hid (HO3.out.pastC hg4 (by omega)); have hB4 : Below w.heap.size w w4 := hB3.grown hg4 (by omega) (fun k e => by cases e; omega); obtain ⟨_, q0, q1, q2, qf, qz⟩ := own3 (Below.refl w4.heap.size w4) (Array.getElem?_eq_some_iff.1 p4).1 p4; obtain ⟨_, v0, v1, v2, vf, vz⟩ := own3 (Below.refl w4.heap.size w4) (Array.getElem?_eq_some_iff.1 r4).1 r4))
  go_wp2_with fail
  obtain ⟨s0, s1, s2⟩ := three_self (x := .int .i64 c) (y := .int .i64 s) (z := .slice A2 l.length cap2) r4
  have FC := Lib.hid (((HO4.out.far (a := ⟨w.heap.size, 0, none⟩) (show w.heap.size < w1.heap.size by omega) (.int .i64 c)).far (a := ⟨w.heap.size, 1, none⟩) (show w.heap.size < w1.heap.size by omega) (.int .i64 s)).far (a := ⟨w.heap.size, 2, none⟩) (show w.heap.size < w1.heap.size by omega) (.slice A2 l.length cap2))
  refine bodyPost_ret (v := .tuple #[.agg #[.int .i64 c, .int .i64 s, .slice A2 l.length cap2], .int .i64 t, .int .i64 m]) (by simp [results, Try.results33, go_sem, s0, s1, s2]) rfl ⟨c, s, t, m, l, A2, cap2, rfl, hl, ⟨t1, t2⟩, FC.out.rd, ?_⟩
  exact ((hB4.setCell (p := ⟨w.heap.size, 0, none⟩) (Nat.le_refl _) _).setCell (p := ⟨w.heap.size, 1, none⟩) (Nat.le_refl _) _).setCell (p := ⟨w.heap.size, 2, none⟩) (Nat.le_refl _) _
end Go.Proofs.Ytplchgkppkibnaa
