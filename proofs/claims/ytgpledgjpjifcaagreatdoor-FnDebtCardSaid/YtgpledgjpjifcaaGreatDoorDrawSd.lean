/- Draws of ledgers. -/
import Derived.Test.YtgpledgjpjifcaaGreatDoorRows
import Derived.Test.YtgpledgjpjifcaaGreatDoorDrawPo
import Derived.Test.YtgpledgjpjifcaaGreatDoorSPost
import Derived.Deep.RegionHeld3
namespace Go.Proofs.YtgpledgjpjifcaaGreatDoor
open Go.RowKit

/-- What the draw of a ledger keeps: the ledger in block P, the result in the first own block, the lines, the cursor. -/
def LdK (w : World) (g P : Nat) (z : Int) (L : List Line) (A : Option Addr) (cp : Nat) (w' : World) : Prop :=
  w'.heap[P]? = some (.cells #[.int .i64 z, .slice A L.length cp] 42 (0, 0)) ∧ w'.heap[w.heap.size]? = some (.cells #[.int .i64 0, .slice none 0 0] 42 (0, 0)) ∧
  Ow w' w.heap.size 84 3 (.slice A L.length cp) (L.map Line.cells) ∧ Crs w' g ∧ w.grownBy w' (some g) ∧ w.heap.size < P ∧ g < w.heap.size
section
variable {w w' w'' : World} {g P cp : Nat} {z : Int} {L : List Line} {A : Option Addr}
theorem LdK.drew (h : LdK w g P z L A cp w') : LdK w g P z L A cp w'.drew :=
  ⟨h.1, h.2.1, h.2.2.1, h.2.2.2.1.below ((Below.refl _ _).drew), ⟨h.2.2.2.2.1.os, h.2.2.2.2.1.tape, h.2.2.2.2.1.output, h.2.2.2.2.1.size, h.2.2.2.2.1.block⟩, h.2.2.2.2.2⟩
theorem LdK.lt (h : LdK w g P z L A cp w') : P < w'.heap.size := (Array.getElem?_eq_some_iff.1 h.1).1
theorem LdK.below (h : LdK w g P z L A cp w') (hb : Below w'.heap.size w' w'') : LdK w g P z L A cp w'' :=
  ⟨heap_below hb h.lt h.1, heap_below hb (Nat.lt_trans h.2.2.2.2.2.1 h.lt) h.2.1, h.2.2.1.below hb, h.2.2.2.1.below hb, grown_belowL h.2.2.2.2.1 hb, h.2.2.2.2.2⟩
theorem LdK.alloc (h : LdK w g P z L A cp w') (o : Obj) : LdK w g P z L A cp (w'.alloc o) := h.below ((Below.refl _ _).alloc (Nat.le_refl _) o)
theorem LdK.draw (h : LdK w g P z L A cp w') (hg : w'.grownBy w'' (some g)) (hc : Crs w'' g) : LdK w g P z L A cp w'' :=
  ⟨heap_grown hg (someNeL (by have := h.2.2.2.2.2; omega)) h.1, heap_grown hg (someNeL (by have := h.2.2.2.2.2; omega)) h.2.1, h.2.2.1.pastL hg h.2.2.2.2.2.2, hc, grown_trans h.2.2.2.2.1 hg, h.2.2.2.2.2⟩
theorem LdK.aside (h : LdK w g P z L A cp w') {X i : Nat} {u : Value} {cs : Array Value} (hP : P < X) (hx : w'.heap[X]? = some (.cells cs 42 (0, 0))) : LdK w g P z L A cp (w'.setCell ⟨X, i, none⟩ u) := by
  obtain ⟨h1, h2, h3, h4, h5, h6, h7⟩ := h
  have gr := grown_set (World.grownBy.refl w' (some X)) i u
  exact ⟨heap_grown gr (someNeL (by omega)) h1, heap_grown gr (someNeL (by omega)) h2, h3.asideP hx (by decide), h4.set (by omega), grown_setL h5 (by omega) i u, h6, h7⟩
theorem LdK.cells (h : LdK w g P z L A cp w') : w'.cell? ⟨P, 0, none⟩ = some (.int .i64 z) ∧ w'.cell? ⟨P, 1, none⟩ = some (.slice A L.length cp) ∧ ∀ i, w'.frozen? ⟨P, i, none⟩ = false := by
  obtain ⟨_, p0, p1, pf, _⟩ := own2 (Below.refl w'.heap.size w') h.lt h.1
  exact ⟨p0, p1, pf⟩
theorem LdK.move {cap2 : Nat} {L2 : List Line} {A2 : Option Addr} {z2 : Int} (K : LdK w g P z L A cp w') (ho : Ow w' w.heap.size 84 3 (.slice A2 L2.length cap2) (L2.map Line.cells)) :
    LdK w g P z2 L2 A2 cap2 ((w'.setCell ⟨P, 0, none⟩ (.int .i64 z2)).setCell ⟨P, 1, none⟩ (.slice A2 L2.length cap2)) := by
  obtain ⟨hp, hr, _, hc, hG, h6, h7⟩ := K
  have h1 : (w'.setCell ⟨P, 0, none⟩ (.int .i64 z2)).heap[P]? = some (.cells #[.int .i64 z2, .slice A L.length cp] 42 (0, 0)) := heap_set hp
  have gr := grown_set (grown_set (World.grownBy.refl w' (some P)) 0 (.int .i64 z2)) 1 (.slice A2 L2.length cap2)
  exact ⟨heap_set h1, heap_grown gr (someNeL (by omega)) hr, (ho.asideP hp (by decide)).asideP h1 (by decide), (hc.set (by omega)).set (by omega), grown_setL (grown_setL hG (by omega) _ _) (by omega) _ _, h6, h7⟩
theorem LdK.done (K : LdK w g P z L A cp w') (hl : L.length ≤ 320) :
    (w'.setCell ⟨w.heap.size, 0, none⟩ (.int .i64 z)).cell? ⟨w.heap.size, 0, none⟩ = some (.int .i64 z) ∧ ((w'.setCell ⟨w.heap.size, 0, none⟩ (.int .i64 z)).setCell ⟨w.heap.size, 1, none⟩ (.slice A L.length cp)).cell? ⟨w.heap.size, 1, none⟩ = some (.slice A L.length cp) ∧
    DrewPo g 320 w (.returned (.agg #[.int .i64 z, .slice A L.length cp])) ((w'.setCell ⟨w.heap.size, 0, none⟩ (.int .i64 z)).setCell ⟨w.heap.size, 1, none⟩ (.slice A L.length cp)) := by
  obtain ⟨_, hr, ho, hc, hG, h6, h7⟩ := K
  obtain ⟨s0, s1, sc, sg⟩ := two_doneL (a := .int .i64 z) (b := .slice A L.length cp) hr hc hG (Nat.le_refl _) h7
  have h1 : (w'.setCell ⟨w.heap.size, 0, none⟩ (.int .i64 z)).heap[w.heap.size]? = some (.cells #[.int .i64 z, .slice none 0 0] 42 (0, 0)) := heap_set hr
  exact ⟨s0, s1, z, L, A, cp, rfl, hl, (ho.asideP hr (by decide)).asideP h1 (by decide), sc, sg⟩
end
set_option maxRecDepth 100000 in
set_option maxHeartbeats 2000000 in
theorem s_l02Ledger (g : Nat) (w : World) (hc : Crs w g) :
    Calls Tryz.prog 91 #[.pointer (some ⟨g, 0, none⟩)] w (DrewPo g 320 w) := by
  have hgw := hc.lt
  go_enter Tryz.func91, Tryz.ntmps91
  go_wp2_with fail
  refine (s_l01Below g 7 _ ((hc.alloc _).alloc _) (by decide) (by decide)).mono ?_
  rintro e w1 ⟨N0, n1, n2, rfl, hc1, hg1⟩
  have z1 := hg1.size
  simp at z1
  obtain ⟨P, hP⟩ : ∃ P, w.heap.size + 1 = P := ⟨_, rfl⟩
  have k1 : LdK w g P 0 [] none 0 w1 := by
    refine ⟨heap_grown hg1 (someNeL (by omega)) (heap_at (by simp; omega)), heap_grown hg1 (someNeL (by omega)) (heap_past (by simp) (heap_at rfl)), Ow.nil_, hc1, grown_trans (grown_allocL (grown_allocL (World.grownBy.refl _ _) _) _) hg1, by omega, hgw⟩
  have K1 := Lib.hid k1
  have HP := Lib.hid hP
  clear k1 hg1 hc1 z1 hc
  go_wp2_with fail
  try rw [HP.out]
  clear HP hP
  go_loopw [4] (fun i wr => ∃ (N z : Int) (L : List Line) (A : Option Addr) (cp : Nat), 0 ≤ N ∧ N ≤ 6 ∧ i = .int .i64 N ∧ L.length ≤ 320 ∧ LdK w g P z L A cp wr) (fun i _ => (intOf i).toNat)
  case atStart => exact ⟨N0, 0, [], none, 0, n1, by omega, rfl, by decide, K1.out⟩
  case round =>
    clear K1 n1 n2
    obtain ⟨N, z, L, A, cp, hN1, hN2, rfl, hLl, K0⟩ := hrel
    have K := Lib.hid K0
    have hPw : w.heap.size < P := K0.2.2.2.2.2.1
    have hPz := K0.lt
    obtain ⟨p0, p1, pf⟩ := K0.cells
    clear K0
    by_cases hlt : 0 < N
    · go_wp2_with fail
      go_region_held3 (fun w' => w'.cell? ⟨P, 0, none⟩ = some (.int .i64 z) ∧ w'.cell? ⟨P, 1, none⟩ = some (.slice A L.length cp))
        (((try dsimp only); (repeat' apply And.intro) <;> (repeat (first | (with_reducible assumption) | (with_reducible refine cell_undrewP ?_) | (with_reducible refine cell_asideP (by simp only; omega) ?_) | (with_reducible refine cell_past (by first | (simp only; omega) | (simp; omega)) ?_)))))
        (first
          | (go_at_call 74; refine (s_l01Below g 3 _ (by first | exact K.out.drew.2.2.2.1 | exact (K.out.drew.alloc _).2.2.2.1) (by decide) (by decide)).mono ?_; rintro e w5 ⟨y5, y51, y52, rfl, hc5, hg5⟩; have z5 := hg5.size; have K5 : Hid (LdK w g P z L A cp w5) := Lib.hid (by first | exact K.out.drew.draw hg5 hc5 | exact (K.out.drew.alloc _).draw hg5 hc5); have hP5 := K5.out.lt; obtain ⟨q0, q1, qf⟩ := K5.out.cells; (try have x5 : w5.heap[wr.heap.size]? = some (.cells #[.int .i64 0, .slice none 0 0] 42 (0, 0)) := heap_grown hg5 (someNeL (by omega)) (heap_at rfl)); clear hc5 hg5)
          | (go_at_call 93; refine (s_l02Posting g _ _ (by first | exact K5.out.2.2.2.1 | exact (K5.out.alloc _).2.2.2.1)).mono ?_; rintro e w6 ⟨pz, PL, PA, pc, rfl, hpl, phow, hc6, hg6⟩; have z6 := hg6.size; have K6 : Hid (LdK w g P z L A cp w6) := Lib.hid (by first | exact K5.out.draw hg6 hc6 | exact (K5.out.alloc _).draw hg6 hc6); have hP6 := K6.out.lt; obtain ⟨r0, r1, rf⟩ := K6.out.cells; have HP6 := Lib.hid phow; clear phow; (try have x6 : w6.heap[wr.heap.size]? = some (.cells #[.int .i64 0, .slice none 0 0] 42 (0, 0)) := heap_grown hg6 (someNeL (by omega)) x5); (try have x6 : w6.heap[w5.heap.size]? = some (.cells #[.int .i64 0, .slice none 0 0] 42 (0, 0)) := heap_grown hg6 (someNeL (by omega)) (heap_at rfl)); clear hc6 hg6)
          | (go_at_call 127; refine (s_PostW z L A cp pz PL PA pc _ (by omega) (by omega) (by first | exact K6.out.2.2.1.rd | exact (K6.out.alloc _).2.2.1.rd) (by first | exact HP6.out.rd | exact (HP6.out.alloc _).rd)).mono ?_; rintro e w7 ⟨z2, c, L2, A2, cap2, rfl, hl2, how7, hb7⟩; have z7 := hb7.size; have K7 : Hid (LdK w g P z L A cp w7) := Lib.hid (by first | exact K6.out.below hb7 | exact (K6.out.alloc _).below hb7); have hP7 := K7.out.lt; obtain ⟨s0, s1, sf⟩ := K7.out.cells; have HX7 := Lib.hid how7; clear how7; (try have x7 : w7.heap[wr.heap.size]? = some (.cells #[.int .i64 0, .slice none 0 0] 42 (0, 0)) := heap_below hb7 (Array.getElem?_eq_some_iff.1 x6).1 x6); (try have x7 : w7.heap[w5.heap.size]? = some (.cells #[.int .i64 0, .slice none 0 0] 42 (0, 0)) := heap_below hb7 (Array.getElem?_eq_some_iff.1 x6).1 x6); (try have x7 : w7.heap[w6.heap.size]? = some (.cells #[.int .i64 0, .slice none 0 0] 42 (0, 0)) := heap_below hb7 (show w6.heap.size < (w6.alloc _).heap.size by simp) (heap_at rfl)); (try have u0 := blk_cell x7 0); (try have u1 := blk_cell x7 1); (try have uf := blk_frozen x7); (try simp only [List.getElem?_toArray, List.getElem?_cons_zero, List.getElem?_cons_succ] at u0 u1)))
      · obtain ⟨X, hX⟩ : ∃ x, w7.heap.size = x := ⟨_, rfl⟩
        obtain ⟨W, hW⟩ : ∃ x : World, w7.alloc (.cells #[.int .i64 z2, .slice A2 L2.length cap2] 42) = x := ⟨_, rfl⟩
        have hPX : P < X := by omega
        have kW : LdK w g P z L A cp W := by rw [← hW]; exact K7.out.alloc _
        have xW : W.heap[X]? = some (.cells #[.int .i64 z2, .slice A2 L2.length cap2] 42 (0, 0)) := by rw [← hW, ← hX]; exact heap_at rfl
        have hoW : Ow W w.heap.size 84 3 (.slice A2 L2.length cap2) (L2.map Line.cells) := by rw [← hW]; exact (HX7.out.more (by first | omega | (simp; omega))).alloc _
        have KW := Lib.hid kW
        have HOW := Lib.hid hoW
        rw [hW]
        rw [hX]
        clear hX hW hb7 K7 kW hoW
        obtain ⟨_, a0, a1, af, az⟩ := own2 (Below.refl W.heap.size W) (Array.getElem?_eq_some_iff.1 xW).1 xW
        obtain ⟨b0, b1, bf⟩ := KW.out.cells
        have hPW := KW.out.lt
        cases hc0 : (c == 0)
        · go_wp2_with fail
          go_roundw
          case rel => exact ⟨N - 1, z, L, A, cp, by omega, by omega, by first | rfl | go_num, hLl, KW.out⟩
          case measure => simp [intOf]; omega
        · go_wp2_with fail
          go_roundw
          case rel => exact ⟨N - 1, z2, L2, A2, cap2, by omega, by omega, by first | rfl | go_num, hl2, KW.out.move HOW.out⟩
          case measure => simp [intOf]; omega
      · obtain ⟨X, hX⟩ : ∃ x, w6.heap.size = x := ⟨_, rfl⟩
        obtain ⟨W, hW⟩ : ∃ x : World, (w7.setCell ⟨w6.heap.size, 0, none⟩ (.int .i64 z2)).setCell ⟨w6.heap.size, 1, none⟩ (.slice A2 L2.length cap2) = x := ⟨_, rfl⟩
        have hPX : P < X := by omega
        have kW : LdK w g P z L A cp W := by rw [← hW]; exact (K7.out.aside (by omega) x7).aside (by omega) (heap_set x7)
        have xW : W.heap[X]? = some (.cells #[.int .i64 z2, .slice A2 L2.length cap2] 42 (0, 0)) := by rw [← hW, ← hX]; exact heap_set (heap_set x7)
        have hoW : Ow W w.heap.size 84 3 (.slice A2 L2.length cap2) (L2.map Line.cells) := by rw [← hW]; exact ((HX7.out.more (by first | omega | (simp; omega))).asideP x7 (by decide)).asideP (heap_set x7) (by decide)
        have KW := Lib.hid kW
        have HOW := Lib.hid hoW
        rw [hW]
        rw [hX]
        clear hX hW hb7 K7 kW hoW
        obtain ⟨_, a0, a1, af, az⟩ := own2 (Below.refl W.heap.size W) (Array.getElem?_eq_some_iff.1 xW).1 xW
        obtain ⟨b0, b1, bf⟩ := KW.out.cells
        have hPW := KW.out.lt
        cases hc0 : (c == 0)
        · go_wp2_with fail
          go_roundw
          case rel => exact ⟨N - 1, z, L, A, cp, by omega, by omega, by first | rfl | go_num, hLl, KW.out⟩
          case measure => simp [intOf]; omega
        · go_wp2_with fail
          go_roundw
          case rel => exact ⟨N - 1, z2, L2, A2, cap2, by omega, by omega, by first | rfl | go_num, hl2, KW.out.move HOW.out⟩
          case measure => simp [intOf]; omega
      · obtain ⟨X, hX⟩ : ∃ x, w5.heap.size = x := ⟨_, rfl⟩
        obtain ⟨W, hW⟩ : ∃ x : World, (w7.setCell ⟨w5.heap.size, 0, none⟩ (.int .i64 z2)).setCell ⟨w5.heap.size, 1, none⟩ (.slice A2 L2.length cap2) = x := ⟨_, rfl⟩
        have hPX : P < X := by omega
        have kW : LdK w g P z L A cp W := by rw [← hW]; exact (K7.out.aside (by omega) x7).aside (by omega) (heap_set x7)
        have xW : W.heap[X]? = some (.cells #[.int .i64 z2, .slice A2 L2.length cap2] 42 (0, 0)) := by rw [← hW, ← hX]; exact heap_set (heap_set x7)
        have hoW : Ow W w.heap.size 84 3 (.slice A2 L2.length cap2) (L2.map Line.cells) := by rw [← hW]; exact ((HX7.out.more (by first | omega | (simp; omega))).asideP x7 (by decide)).asideP (heap_set x7) (by decide)
        have KW := Lib.hid kW
        have HOW := Lib.hid hoW
        rw [hW]
        rw [hX]
        clear hX hW hb7 K7 kW hoW
        obtain ⟨_, a0, a1, af, az⟩ := own2 (Below.refl W.heap.size W) (Array.getElem?_eq_some_iff.1 xW).1 xW
        obtain ⟨b0, b1, bf⟩ := KW.out.cells
        have hPW := KW.out.lt
        cases hc0 : (c == 0)
        · go_wp2_with fail
          go_roundw
          case rel => exact ⟨N - 1, z, L, A, cp, by omega, by omega, by first | rfl | go_num, hLl, KW.out⟩
          case measure => simp [intOf]; omega
        · go_wp2_with fail
          go_roundw
          case rel => exact ⟨N - 1, z2, L2, A2, cap2, by omega, by omega, by first | rfl | go_num, hl2, KW.out.move HOW.out⟩
          case measure => simp [intOf]; omega
      · obtain ⟨X, hX⟩ : ∃ x, wr.heap.size = x := ⟨_, rfl⟩
        obtain ⟨W, hW⟩ : ∃ x : World, (w7.setCell ⟨wr.heap.size, 0, none⟩ (.int .i64 z2)).setCell ⟨wr.heap.size, 1, none⟩ (.slice A2 L2.length cap2) = x := ⟨_, rfl⟩
        have hPX : P < X := by omega
        have kW : LdK w g P z L A cp W := by rw [← hW]; exact (K7.out.aside (by omega) x7).aside (by omega) (heap_set x7)
        have xW : W.heap[X]? = some (.cells #[.int .i64 z2, .slice A2 L2.length cap2] 42 (0, 0)) := by rw [← hW, ← hX]; exact heap_set (heap_set x7)
        have hoW : Ow W w.heap.size 84 3 (.slice A2 L2.length cap2) (L2.map Line.cells) := by rw [← hW]; exact ((HX7.out.more (by first | omega | (simp; omega))).asideP x7 (by decide)).asideP (heap_set x7) (by decide)
        have KW := Lib.hid kW
        have HOW := Lib.hid hoW
        rw [hW]
        rw [hX]
        clear hX hW hb7 K7 kW hoW
        obtain ⟨_, a0, a1, af, az⟩ := own2 (Below.refl W.heap.size W) (Array.getElem?_eq_some_iff.1 xW).1 xW
        obtain ⟨b0, b1, bf⟩ := KW.out.cells
        have hPW := KW.out.lt
        cases hc0 : (c == 0)
        · go_wp2_with fail
          go_roundw
          case rel => exact ⟨N - 1, z, L, A, cp, by omega, by omega, by first | rfl | go_num, hLl, KW.out⟩
          case measure => simp [intOf]; omega
        · go_wp2_with fail
          go_roundw
          case rel => exact ⟨N - 1, z2, L2, A2, cap2, by omega, by omega, by first | rfl | go_num, hl2, KW.out.move HOW.out⟩
          case measure => simp [intOf]; omega
    · obtain rfl : N = 0 := by omega
      obtain ⟨_, r0, r1, rf, rz⟩ := own2 (Below.refl wr.heap.size wr) (Array.getElem?_eq_some_iff.1 K.out.2.1).1 K.out.2.1
      go_wp2_with fail
      obtain ⟨s0, s1, fin⟩ := K.out.done hLl
      exact bodyPost_ret (v := .agg #[.int .i64 z, .slice A L.length cp]) (by simp [results, Tryz.results91, go_sem, s0, s1]) rfl fin
end Go.Proofs.YtgpledgjpjifcaaGreatDoor
