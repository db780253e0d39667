/- For every draw: both sides of a ledger are equal, and above 0 just where it is sound and holds a line: the walk. -/
import Derived.Test.YtplchgkppkibnaaRows
import Derived.Test.YtplchgkppkibnaaDrawSe
import Derived.Test.YtplchgkppkibnaaSidesLaw
namespace Go.Proofs.Ytplchgkppkibnaa
open Go.ChangeShapes Go.WideShapes Go.ChangeAt Go.RowKit

set_option maxRecDepth 100000 in
set_option maxHeartbeats 2000000 in
theorem l_FnSides (A : Option Addr) (n cap : Nat) (w : World) (hc : CodeIn w A n cap) :
    Calls Try.prog 5 #[.slice A n cap] w fun e w' => e = .returned (.bool true) ∧ Below w.heap.size w w' := by
  have hnm := hc.len
  unfold maxLen at hnm
  by_cases hn : n ≤ 1048576
  · have HC := Lib.hid (hc.code hn)
    clear hc
    go_enter Try.func5, Try.ntmps5
    go_wp2_with fail
    refine (s_DrawSides A n cap _ HC.out).mono ?_
    rintro e w1 ⟨z, L, PA, pc, rfl, hl, hr, hb1⟩
    have z1 := hb1.size
    obtain ⟨W, hW⟩ : ∃ W : World, w1.alloc (.cells #[.int .i64 z, .slice PA L.length pc] 49) = W := ⟨_, rfl⟩
    obtain ⟨Q, hQ⟩ : ∃ Q, w1.heap.size = Q := ⟨_, rfl⟩
    have HR := Lib.hid (show Rd W W.heap.size 3 PA (L.map Line.cells) by rw [← hW]; exact (hr.below ((Below.refl _ _).alloc (Nat.le_refl _) _)).more (by simp))
    have hQW : Q < W.heap.size := by rw [← hW, ← hQ]; simp
    have PQ := Lib.hid (show W.heap[Q]? = some (.cells #[.int .i64 z, .slice PA L.length pc] 49 (0, 0)) by rw [← hW, ← hQ]; exact heap_at rfl)
    have BW : Below w.heap.size w W := by rw [← hW]; exact hb1.alloc z1 _
    obtain ⟨_, q0, q1, qf, qz⟩ := own2 (Below.refl W.heap.size W) hQW PQ.out
    obtain ⟨u, hu⟩ : ∃ u, upOf z L = u := ⟨_, rfl⟩
    obtain ⟨b, hb⟩ : ∃ b, ledgerB z L = b := ⟨_, rfl⟩
    obtain ⟨hd, hi⟩ := sides_law z L
    rw [hu] at hd hi
    rw [hb] at hi
    have HU := Lib.hid hu
    have HB := Lib.hid hb
    have HD := Lib.hid hd
    clear hr hb1 hu hb hd
    go_wp2_with fail
    clear hW hQ q0 q1 qf qz
    refine (i_Sides z L PA pc W (by omega) HR.out).mono ?_
    rintro e w2 ⟨rfl, hb2⟩
    have z2 := hb2.size
    rw [← HD.out, HU.out]
    obtain ⟨_, q0, q1, qf, qz⟩ := own2 hb2 hQW PQ.out
    have HR2 := Lib.hid ((HR.out.below hb2).more z2)
    have B2 : Below w.heap.size w w2 := BW.trans (hb2.mono BW.size)
    go_wp2_with fail
    clear q0 q1 qf qz
    refine (s_Sides z L PA pc w2 (by omega) HR2.out).mono ?_
    rintro e w3 ⟨rfl, hb3⟩
    have z3 := hb3.size
    rw [← HD.out, HU.out]
    have hb23 : Below W.heap.size W w3 := hb2.trans (hb3.mono z2)
    obtain ⟨_, q0, q1, qf, qz⟩ := own2 hb23 hQW PQ.out
    have HR3 := Lib.hid ((HR.out.below hb23).more hb23.size)
    have B3 : Below w.heap.size w w3 := BW.trans (hb23.mono BW.size)
    clear hb2 hb3 B2 BW HR HR2
    have HI := Lib.hid hi
    clear hi
    cases b
    · have h0 : decide (0 < u) = false := decide_eq_false (fun h => by have := (HI.out.1 h).1; cases this)
      go_wp2_with fail
      refine (s_LedgerOk z L PA pc _ (by omega) HR3.out).mono ?_
      rintro e w4 ⟨rfl, hb4⟩
      have z4 := hb4.size
      rw [HB.out]
      obtain ⟨_, t0, t1, tf, tz⟩ := own2 hb23 hQW PQ.out
      have B4 : Below w.heap.size w w4 := B3.trans (hb4.mono B3.size)
      go_wp2_with fail
      go_ret
      exact ⟨rfl, B4⟩
    · by_cases hL : 0 < L.length
      · have h0 : decide (0 < u) = true := decide_eq_true (HI.out.2 ⟨rfl, hL⟩)
        have h1 : decide ((0 : Int) < (L.length : Int)) = true := decide_eq_true (by omega)
        go_wp2_with fail
        refine (s_LedgerOk z L PA pc _ (by omega) HR3.out).mono ?_
        rintro e w4 ⟨rfl, hb4⟩
        have z4 := hb4.size
        rw [HB.out]
        obtain ⟨_, t0, t1, tf, tz⟩ := own2 (hb23.trans (hb4.mono hb23.size)) hQW PQ.out
        have B4 : Below w.heap.size w w4 := B3.trans (hb4.mono B3.size)
        go_wp2_with fail
        go_ret
        exact ⟨rfl, B4⟩
      · have h0 : decide (0 < u) = false := decide_eq_false (fun h => hL (HI.out.1 h).2)
        have h1 : decide ((0 : Int) < (L.length : Int)) = false := decide_eq_false (by omega)
        go_wp2_with fail
        refine (s_LedgerOk z L PA pc _ (by omega) HR3.out).mono ?_
        rintro e w4 ⟨rfl, hb4⟩
        have z4 := hb4.size
        rw [HB.out]
        obtain ⟨_, t0, t1, tf, tz⟩ := own2 (hb23.trans (hb4.mono hb23.size)) hQW PQ.out
        have B4 : Below w.heap.size w w4 := B3.trans (hb4.mono B3.size)
        go_wp2_with fail
        go_ret
        exact ⟨rfl, B4⟩
  · go_enter Try.func5, Try.ntmps5
    go_wp2_with fail
    go_ret
    exact ⟨rfl, Below.refl _ _⟩
end Go.Proofs.Ytplchgkppkibnaa
