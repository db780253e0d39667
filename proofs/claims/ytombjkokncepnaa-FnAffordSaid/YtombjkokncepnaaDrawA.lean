/- Draws of a purse, a time and moves. -/
import Derived.Test.YtombjkokncepnaaRows
import Derived.Test.YtombjkokncepnaaDrawP
import Derived.Test.YtombjkokncepnaaAffordI
import Derived.Deep.RegionHeld3
namespace Go.Proofs.Ytombjkokncepnaa
open Go.RowKit

theorem Ow.differP {w : World} {B B' n n' : Nat} {e e' : TypeId} {v v' : Value} {rows rows' : List (List Value)} (h : Ow w B e n v rows) (h' : Ow w B' e' n' v' rows') (hne : e ≠ e') : v.ownBlock = none ∨ v.ownBlock ≠ v'.ownBlock := by
  rcases h.2.2 with ⟨rfl, _⟩ | ⟨g, cap, cur, rfl, _, hh, _⟩
  · exact .inl rfl
  · exact .inr (h'.ne_ hh (fun e => hne e.symm))
set_option maxRecDepth 100000 in
set_option maxHeartbeats 4000000 in
theorem s_l23At (g : Nat) (c s : Int) (L : List Coin) (A : Option Addr) (cp : Nat) (w : World) (B : Nat) (hc : Crs w g) (hl : L.length ≤ 60) (hgB : g < B) (ho : Ow w B 85 2 (.slice A L.length cp) (L.map Coin.cells)) :
    Calls Try.prog 37 #[.pointer (some ⟨g, 0, none⟩), .agg #[.int .i64 c, .int .i64 s, .slice A L.length cp]] w (DrewI g w (-9223372036854775808) 9223372036854775807) := by
  have hgw := hc.lt
  have HO := Lib.hid ho
  clear ho
  go_enter Try.func37, Try.ntmps37
  go_wp2_with fail
  refine (s_l01Below g 10 _ (hc.alloc _) (by decide) (by decide)).mono ?_
  rintro e w1 ⟨k, k1, k2, rfl, hc1, hg1⟩
  have z1 := hg1.size
  rw [sizeUpP] at z1
  have hG1 : w.grownBy w1 (some g) := grown_trans (grown_allocP (World.grownBy.refl _ _) _) hg1
  have b1 : w1.heap[w.heap.size]? = some (.cells #[.int .i64 c, .int .i64 s, .slice A L.length cp] 25 (0, 0)) := heap_grown hg1 (someNeP (by omega)) (heap_at rfl)
  have HO1 := Lib.hid ((HO.out.alloc (.cells #[.int .i64 c, .int .i64 s, .slice A L.length cp] 25)).pastC hg1 hgB)
  clear hg1
  cases hk0 : (k == 0)
  · obtain ⟨_, p0, p1, p2, pf, pz⟩ := own3 (Below.refl w1.heap.size w1) (Array.getElem?_eq_some_iff.1 b1).1 b1
    by_cases hL : 0 < L.length
    · have i0 : (0 : Int) < (L.length : Int) := by omega
      by_cases h7 : k < 7
      · obtain ⟨m, hm⟩ : ∃ m, L.length = m + 1 := ⟨L.length - 1, by omega⟩
        have hml : m < L.length := by omega
        obtain ⟨q, rfl, a0⟩ : ∃ q, A = some ⟨q, 0, none⟩ ∧ ∀ W : World, Ow W B 85 2 (.slice A L.length cp) (L.map Coin.cells) → W.cell? ⟨q, m * 2, none⟩ = some (.int .i64 L[m].At) := by
          rcases HO1.out.open_ with ⟨h0, _⟩ | ⟨q, cap', hv, hB, _⟩
          · rw [List.map_eq_nil_iff] at h0
            subst h0
            simp at hL
          · injection hv with hv
            subst hv
            have hk' : (L.map Coin.cells)[m]? = some L[m].cells := by rw [List.getElem?_map, List.getElem?_eq_getElem hml]; rfl
            exact ⟨q, rfl, fun W h => h.cellAt (i := m) (j := 0) hk' (by omega)⟩
        have A0 := Lib.hid a0
        have c0 := a0 _ HO1.out
        clear a0
        have i1 : (0 : Int) ≤ (m : Int) := by omega
        have i2 : (m : Int) < (L.length : Int) := by omega
        have e1 : (L.length : Int) - 1 = (m : Int) := by omega
        have e2 : IntKind.i64.wrap (m : Int) = (m : Int) := IntWalk.i64_in _ ⟨by omega, by omega⟩
        have HM := Lib.hid hm
        clear hm
        go_wp2_with fail
        go_region_held3 (fun w' => w'.cell? ⟨w.heap.size, 2, none⟩ = some (.slice (some ⟨q, 0, none⟩) L.length cp) ∧ w'.cell? ⟨q, m * 2, none⟩ = some (.int .i64 L[m].At))
          (((try dsimp only); (repeat' apply And.intro) <;> (repeat (first | (with_reducible assumption) | (with_reducible refine cell_undrew ?_)))))
          ((go_at_call 38; refine (s_l01Below g 12 w1.drew (hc1.below ((Below.refl _ _).drew)) (by decide) (by decide)).mono ?_; rintro e w2 ⟨x, x1, x2, rfl, hc2, hg2'⟩; have hg2 := grown_undrew hg2'; have b2 := heap_grown hg2 (someNeP (by omega)) b1; have HO2 := Lib.hid (HO1.out.pastC hg2 hgB); have q2 := blk_cell b2 2; simp only [List.getElem?_toArray, List.getElem?_cons_zero, List.getElem?_cons_succ] at q2; have d0 := A0.out _ HO2.out))
        go_wp2_with fail
        go_ret
        exact ⟨_, (wf_i64_le (wf_wrap .i64 _)).1, (wf_i64_le (wf_wrap .i64 _)).2, rfl, hc2, grown_trans hG1 hg2⟩
      · have h7' : decide (k < 7) = false := decide_eq_false h7
        go_wp2_with fail
        refine (s_l01Below g 50 _ hc1 (by decide) (by decide)).mono ?_
        rintro e w2 ⟨x, x1, x2, rfl, hc2, hg2⟩
        go_wp2_with fail
        go_ret
        exact ⟨x, by omega, by omega, rfl, hc2, grown_trans hG1 hg2⟩
    · have hnil := List.eq_nil_of_length_eq_zero (show L.length = 0 by omega)
      subst hnil
      rw [show ([] : List Coin).length = 0 from rfl] at p2
      go_wp2_with fail
      refine (s_l01Below g 50 _ hc1 (by decide) (by decide)).mono ?_
      rintro e w2 ⟨x, x1, x2, rfl, hc2, hg2⟩
      go_wp2_with fail
      go_ret
      exact ⟨x, by omega, by omega, rfl, hc2, grown_trans hG1 hg2⟩
  · go_wp2_with fail
    refine (s_l01Raw g _ hc1).mono ?_
    rintro e w2 ⟨x, x1, x2, rfl, hc2, hg2⟩
    go_wp2_with fail
    go_ret
    exact ⟨x, x1, x2, rfl, hc2, grown_trans hG1 hg2⟩
def DrawnAf (w : World) (e : Ending) (w' : World) : Prop := ∃ (c s t : Int) (l : List Coin) (A : Option Addr) (cap : Nat) (ms : List Move) (A2 : Option Addr) (cap2 : Nat), e = .returned (.tuple #[.agg #[.int .i64 c, .int .i64 s, .slice A l.length cap], .int .i64 t, .slice A2 ms.length cap2]) ∧ l.length ≤ 60 ∧ ms.length ≤ 6 ∧ t ≤ 9223372036854775807 ∧
  Rd w' w'.heap.size 2 A (l.map Coin.cells) ∧ Rd w' w'.heap.size 4 A2 (ms.map Move.cells) ∧ Below w.heap.size w w'
set_option maxRecDepth 100000 in
set_option maxHeartbeats 4000000 in
theorem s_DrawAfford (A : Option Addr) (n cap : Nat) (w : World) (hc : Code w w.heap.size A n cap) :
    Calls Try.prog 8 #[.slice A n cap] w (DrawnAf w) := by
  obtain ⟨i0, hi, hz0, hz1, hz2⟩ := info_parts info_move
  have HI := Lib.hid hi
  have HZ0 := Lib.hid hz0
  have HZ1 := Lib.hid hz1
  have HZ2 := Lib.hid hz2
  clear hi hz0 hz1 hz2
  go_enter Try.func8, Try.ntmps8
  go_wp2_with fail
  refine (s_l01New A n cap _ ((hc.below ((Below.refl _ _).alloc (Nat.le_refl _) _)).more (by simp))).mono ?_
  rintro e w1 ⟨rfl, hc1, hb1, z1⟩
  simp only [sizeUpP] at hc1 hb1 z1 ⊢
  have r1 : w1.heap[w.heap.size]? = some (.cells #[.int .i64 0, .int .i64 0, .slice none 0 0] 25 (0, 0)) := heap_below hb1 (by omega) (heap_at rfl)
  have hB1 : Below w.heap.size w w1 := by (first | ((repeat' first | (with_reducible (first | exact Below.refl _ _ | assumption | refine Below.setCell ?_ ?_ _ | refine Below.alloc ?_ ?_ _ | refine Below.drew ?_ | refine below_drewN ?_ _ | refine Below.trans ?_ (Below.mono (by assumption) ?_))) | omega | (simp; omega) | (simp; done)); done) | (repeat' first | exact Below.refl _ _ | assumption | refine Below.setCell ?_ (by first | omega | (simp; omega) | (simp; done)) _ | refine Below.alloc ?_ (by first | omega | (simp; omega) | (simp; done)) _ | refine Below.drew ?_ | refine below_drewN ?_ _ | refine Below.trans ?_ (Below.mono (by assumption) (by first | omega | (simp; omega) | (simp; done)))))
  clear hb1
  obtain ⟨g, hg⟩ : ∃ g, w.heap.size + 1 = g := ⟨_, rfl⟩
  rw [hg] at hc1 z1 ⊢
  go_wp2_with fail
  refine (s_l23Draw g _ hc1).mono ?_
  rintro e w2 ⟨c, s, l, A2, cap2, rfl, hl, how, hc2, hg2⟩
  have z2 := hg2.size
  have r2 := heap_grown hg2 (someNeP (by omega)) r1
  have hB2 : Below w.heap.size w w2 := hB1.grown hg2 (by omega) (fun k e => by cases e; omega)
  have HO2 := Lib.hid how
  clear r1 hB1 how hg2
  go_wp2_with fail
  refine (s_l23At g c s l A2 cap2 _ w1.heap.size (hc2.alloc _) hl (by omega) (HO2.out.alloc _)).mono ?_
  rintro e w3 ⟨t, t1, t2, rfl, hc3, hg3⟩
  have z3 := hg3.size
  rw [sizeUpP] at z3
  have r3 := heap_grown hg3 (someNeP (by omega)) (heap_past (by omega) r2)
  have p3 : w3.heap[w2.heap.size]? = some (.cells #[.int .i64 c, .int .i64 s, .slice A2 l.length cap2] 25 (0, 0)) := heap_grown hg3 (someNeP (by omega)) (heap_at rfl)
  have HO3 := Lib.hid ((HO2.out.alloc (.cells #[.int .i64 c, .int .i64 s, .slice A2 l.length cap2] 25)).pastC hg3 (by omega))
  have hB3 : Below w.heap.size w w3 := (hB2.alloc (by omega) _).grown hg3 (by rw [sizeUpP]; omega) (fun k e => by cases e; omega)
  obtain ⟨Q, hQ⟩ : ∃ Q, w2.heap.size = Q := ⟨_, rfl⟩
  rw [hQ] at p3 z3 ⊢
  clear r2 hg3 hB2 HO2
  have HE0 := Lib.hid (Ow.empty_ (w := w3) (g := w3.heap.size) (e := 31) (size := 4) (B := w1.heap.size) rfl (by omega))
  go_wp2_with fail
  refine (s_l01Below g 6 _ (hc3.alloc _) (by decide) (by decide)).mono ?_
  rintro e w4 ⟨N0, n1, n2, rfl, hc4, hg4⟩
  have z4 := hg4.size
  rw [sizeUpP] at z4
  have r4 := heap_grown hg4 (someNeP (by omega)) (heap_past (by omega) r3)
  have p4 := heap_grown hg4 (someNeP (by omega)) (heap_past (by omega) p3)
  have HO4 := Lib.hid ((HO3.out.alloc (.cells #[] 31)).pastC hg4 (by omega))
  have HE4 := Lib.hid (HE0.out.pastC hg4 (by omega))
  have hB4 : Below w.heap.size w w4 := (hB3.alloc (by omega) _).grown hg4 (by rw [sizeUpP]; omega) (fun k e => by cases e; omega)
  have hGw : w.heap.size < g := by omega
  have hG1 : g < w1.heap.size := by omega
  have hQ1 : w1.heap.size ≤ Q := by omega
  have hE1 : w1.heap.size ≤ w3.heap.size := by omega
  clear r3 p3 hg4 hB3 HO3 HE0
  go_wp2_with fail
  go_loopw [8, 9] (fun vk i wr => ∃ (N : Int) (M : List Move) (B : Option Addr) (cp : Nat), 0 ≤ N ∧ N ≤ 5 ∧ i = .int .i64 N ∧ vk = .slice B M.length cp ∧ (M.length : Int) + N ≤ 6 ∧ Ow wr w1.heap.size 31 4 (.slice B M.length cp) (M.map Move.cells) ∧ Ow wr w1.heap.size 85 2 (.slice A2 l.length cap2) (l.map Coin.cells) ∧
    wr.heap[Q]? = some (.cells #[.int .i64 c, .int .i64 s, .slice A2 l.length cap2] 25 (0, 0)) ∧ wr.heap[w.heap.size]? = some (.cells #[.int .i64 0, .int .i64 0, .slice none 0 0] 25 (0, 0)) ∧ Crs wr g ∧ w1.heap.size ≤ wr.heap.size ∧ Below w.heap.size w wr) (fun _ i _ => (intOf i).toNat)
  case atStart => exact ⟨N0, [], some ⟨w3.heap.size, 0, none⟩, 0, n1, by omega, rfl, rfl, by simp; omega, HE4.out, HO4.out, p4, r4, hc4, by omega, hB4⟩
  case round =>
    clear hc4 hB4 p4 r4 z4 z3 z2 z1
    obtain ⟨N, M, B, cp, hN1, hN2, rfl, rfl, hMN, hoM, hoC, hp, hr, hcr, hz, hB⟩ := hrel
    have HM := Lib.hid hoM
    have HC := Lib.hid hoC
    have OB := Lib.hid hoM.block
    clear hoM hoC
    by_cases hlt : 0 < N
    · go_wp2_with fail
      refine (s_l01Below g 9000 _ hcr (by decide) (by decide)).mono ?_
      rintro e w5 ⟨x, x1, x2, rfl, hc5, hg5⟩
      have z5 := hg5.size
      go_wp2_with fail
      refine (s_l01Below g 9000 _ hc5 (by decide) (by decide)).mono ?_
      rintro e w6 ⟨y, y1, y2, rfl, hc6, hg6⟩
      have z6 := hg6.size
      have hg7 := grown_trans hg5 hg6
      have HM6 := Lib.hid (HM.out.pastC hg7 hG1)
      have HC6 := Lib.hid (HC.out.pastC hg7 hG1)
      have p6 := heap_grown hg7 (someNeP (by omega)) hp
      have r6 := heap_grown hg7 (someNeP (by omega)) hr
      have hB6 : Below w.heap.size w w6 := hB.grown hg7 (by omega) (fun k e => by cases e; omega)
      clear hg5 hg6 hg7 hc5 hp hr hB HM HC hcr
      have KG := Lib.hid (fun o1 (w7 : World) (hgr : (w6.alloc o1).grownBy w7 (Value.slice B M.length cp).ownBlock) => And.intro ((HC6.out.alloc o1).grown hgr (HC6.out.differP HM6.out (by decide))) (And.intro (heap_grown hgr (HM6.out.alloc o1 |>.ne_ (heap_past (Array.getElem?_eq_some_iff.1 p6).1 p6) (by decide)) (heap_past (Array.getElem?_eq_some_iff.1 p6).1 p6)) (And.intro (heap_grown hgr (HM6.out.alloc o1 |>.ne_ (heap_past (Array.getElem?_eq_some_iff.1 r6).1 r6) (by decide)) (heap_past (Array.getElem?_eq_some_iff.1 r6).1 r6)) (And.intro ((hc6.alloc o1).grown hgr (fun k e => by have := (OB.out k e).1; omega)) (And.intro hgr.size ((hB6.alloc (by omega) o1).grown hgr (by simp; omega) (fun k e => by have := (OB.out k e).1; omega)))))))
      clear p6 r6 HC6 hB6 hc6
      go_wp2_with (at_builtin; refine wpList_app1 rfl _ _ _ rfl w1.heap.size 31 i0 _ 4 32 Try.underlying26 HI.out HZ0.out HZ1.out HZ2.out rfl (by decide) (.slice B M.length cp) (M.map Move.cells) rfl (HM6.out.alloc _) w6.heap.size 1 [.int .i64 1, .int .i64 2, .int .i64 (1 + x), .int .i64 y] 31 rfl (heap_at (by first | rfl | (simp; done))) rfl (by simp [Value.oneCell']) (by rw [List.length_map]; omega) (by decide) (by first | omega | (simp; omega)) ?_; intro g8 cap8 w8 how8 hgr8 hat8 hlt8; rw [List.length_map] at how8; rw [List.length_map]; obtain ⟨k1, k2, k3, k4, k5, k6⟩ := KG.out _ _ hgr8; have O8 := Lib.hid how8; have C8 := Lib.hid k1; rw [sizeUpP] at k5; clear how8 hgr8 hat8 k1)
      go_roundw
      case rel =>
        refine ⟨N - 1, M ++ [⟨1, 2, 1 + x, y⟩], some ⟨g8, 0, none⟩, cap8, by omega, by omega, by first | rfl | go_num, by simp, by simp; omega, ?_, C8.out, k2, k3, k4, by omega, k6⟩
        rw [List.map_append, List.length_append]
        exact O8.out
      case measure => simp [intOf]; omega
    · obtain rfl : N = 0 := by omega
      obtain ⟨_, p0, p1, p2, pf, pz⟩ := own3 (Below.refl wr.heap.size wr) (Array.getElem?_eq_some_iff.1 hp).1 hp
      obtain ⟨_, q0, q1, q2, qf, qz⟩ := own3 (Below.refl wr.heap.size wr) (Array.getElem?_eq_some_iff.1 hr).1 hr
      have hRQ : w.heap.size ≠ Q := by omega
      have hQR : Q ≠ w.heap.size := by omega
      go_wp2_with fail
      obtain ⟨s0, s1, s2⟩ := three_self (x := .int .i64 c) (y := .int .i64 s) (z := .slice A2 l.length cap2) hr
      have FC := Lib.hid (((HC.out.far (a := ⟨w.heap.size, 0, none⟩) (show w.heap.size < w1.heap.size by omega) (.int .i64 c)).far (a := ⟨w.heap.size, 1, none⟩) (show w.heap.size < w1.heap.size by omega) (.int .i64 s)).far (a := ⟨w.heap.size, 2, none⟩) (show w.heap.size < w1.heap.size by omega) (.slice A2 l.length cap2))
      have FM := Lib.hid (((HM.out.far (a := ⟨w.heap.size, 0, none⟩) (show w.heap.size < w1.heap.size by omega) (.int .i64 c)).far (a := ⟨w.heap.size, 1, none⟩) (show w.heap.size < w1.heap.size by omega) (.int .i64 s)).far (a := ⟨w.heap.size, 2, none⟩) (show w.heap.size < w1.heap.size by omega) (.slice A2 l.length cap2))
      refine bodyPost_ret (v := .tuple #[.agg #[.int .i64 c, .int .i64 s, .slice A2 l.length cap2], .int .i64 t, .slice B M.length cp]) (by simp [results, Try.results8, go_sem, s0, s1, s2]) rfl ⟨c, s, t, l, A2, cap2, M, B, cp, rfl, hl, by omega, t2, FC.out.rd, FM.out.rd, ?_⟩
      exact ((hB.setCell (p := ⟨w.heap.size, 0, none⟩) (Nat.le_refl _) _).setCell (p := ⟨w.heap.size, 1, none⟩) (Nat.le_refl _) _).setCell (p := ⟨w.heap.size, 2, none⟩) (Nat.le_refl _) _
end Go.Proofs.Ytombjkokncepnaa
