/- Draws of postings. -/
import Derived.Test.YtgpledgjpjifcaaGreatDoorRows
import Derived.Test.YtgpledgjpjifcaaGreatDoorDrawMb
import Derived.Test.YtgpledgjpjifcaaGreatDoorPst
namespace Go.Proofs.YtgpledgjpjifcaaGreatDoor
open Go.RowKit

def DrewPo (g m : Nat) (w : World) (e : Ending) (w' : World) : Prop := ∃ (z : Int) (L : List Line) (A : Option Addr) (cap : Nat), e = .returned (.agg #[.int .i64 z, .slice A L.length cap]) ∧ L.length ≤ m ∧ Ow w' w.heap.size 84 3 (.slice A L.length cap) (L.map Line.cells) ∧ Crs w' g ∧ w.grownBy w' (some g)
/-- A slice written out. -/
theorem Ow.lit {w : World} {B n size : Nat} {e : TypeId} {rows : List (List Value)} (hn : n = w.heap.size) (hu : ∀ r ∈ rows, r.length = size) (hB : B ≤ n) (hm : rows.length ≤ maxLen) : Ow (w.alloc (.cells rows.flatten.toArray e)) B e size (.slice (some ⟨n, 0, none⟩) rows.length rows.length) rows :=
  Fill.ow ⟨_, heap_at hn, by rw [List.size_toArray, flatten_size rows size hu], fun j _ => by simp⟩ hu hB hm
set_option maxRecDepth 100000 in
set_option maxHeartbeats 1000000 in
theorem s_l02Posting (g : Nat) (id : Int) (w : World) (hc : Crs w g) :
    Calls Tryz.prog 93 #[.pointer (some ⟨g, 0, none⟩), .int .i64 id] w (DrewPo g 15 w) := by
  have hgw := hc.lt
  go_enter Tryz.func93, Tryz.ntmps93
  go_wp2_with fail
  refine (s_l02Lines g 4 _ (hc.alloc _) (by decide) (by decide)).mono ?_
  rintro e w1 ⟨L, A, cp, rfl, hl, how, hc1, hg1⟩
  have z1 := hg1.size
  rw [sizeUpL] at z1
  have r1 : w1.heap[w.heap.size]? = some (.cells #[.int .i64 0, .slice none 0 0] 45 (0, 0)) := heap_grown hg1 (someNeL (by omega)) (heap_at rfl)
  have hG1 : w.grownBy w1 (some g) := grown_trans (grown_allocL (World.grownBy.refl _ _) _) hg1
  have HO1 := Lib.hid (how.more (B' := w.heap.size + 1) (by simp))
  clear hg1 how
  obtain ⟨_, q0, q1, qf, qz⟩ := own2 (Below.refl w1.heap.size w1) (Array.getElem?_eq_some_iff.1 r1).1 r1
  by_cases h2 : (L.length : Int) < 2
  · go_wp2_with fail
    obtain ⟨s0, s1, sc, sg⟩ := two_doneL (a := .int .i64 id) (b := .slice (some ⟨w1.heap.size + 1, 0, none⟩) 2 2) r1 hc1 hG1 (Nat.le_refl _) hgw
    refine bodyPost_ret (v := .agg #[.int .i64 id, .slice (some ⟨w1.heap.size + 1, 0, none⟩) 2 2]) (by simp [results, Tryz.results93, go_sem, qz, s0, s1]) rfl ⟨id, [⟨1, 0, 5⟩, ⟨2, 0, -5⟩], some ⟨w1.heap.size + 1, 0, none⟩, 2, rfl, by decide, ?_, (sc.alloc _).alloc _, grown_allocL (grown_allocL sg _) _⟩
    exact Ow.lit (rows := [[.int .i64 1, .int .i64 0, .int .i64 5], [.int .i64 2, .int .i64 0, .int .i64 (-5)]]) (by simp [World.setCell]) (by simp) (by omega) (by decide)
  · have h2' : decide ((L.length : Int) < 2) = false := decide_eq_false h2
    go_wp2_with fail
    obtain ⟨s0, s1, sc, sg⟩ := two_doneL (a := .int .i64 id) (b := .slice A L.length cp) r1 hc1 hG1 (Nat.le_refl _) hgw
    refine bodyPost_ret (v := .agg #[.int .i64 id, .slice A L.length cp]) (by simp [results, Tryz.results93, go_sem, qz, s0, s1]) rfl ⟨id, L, A, cp, rfl, hl, ?_, sc.alloc _, grown_allocL sg _⟩
    exact (((HO1.out.far (a := ⟨w.heap.size, 0, none⟩) (by simp) _).far (a := ⟨w.heap.size, 1, none⟩) (by simp) _).alloc _).more (by omega)
set_option maxRecDepth 100000 in
set_option maxHeartbeats 2000000 in
theorem s_l20Posting (g : Nat) (w : World) (hc : Crs w g) :
    Calls Tryz.prog 45 #[.pointer (some ⟨g, 0, none⟩)] w (DrewPo g 15 w) := by
  have hgw := hc.lt
  go_enter Tryz.func45, Tryz.ntmps45
  go_wp2_with fail
  refine (s_l01Below g 9 _ (hc.alloc _) (by decide) (by decide)).mono ?_
  rintro e w1 ⟨x, x1, x2, rfl, hc1, hg1⟩
  have z1 := hg1.size
  rw [sizeUpL] at z1
  have r1 : w1.heap[w.heap.size]? = some (.cells #[.int .i64 0, .slice none 0 0] 45 (0, 0)) := heap_grown hg1 (someNeL (by omega)) (heap_at rfl)
  have hG1 : w.grownBy w1 (some g) := grown_trans (grown_allocL (World.grownBy.refl _ _) _) hg1
  clear hg1
  go_wp2_with fail
  refine (s_l02Posting g _ _ hc1).mono ?_
  rintro e w2 ⟨z, L, A, cp, rfl, hl, how, hc2, hg2⟩
  have z2 := hg2.size
  have r2 := heap_grown hg2 (someNeL (by omega)) r1
  have hG2 := grown_trans hG1 hg2
  have HO2 := Lib.hid (how.more (B' := w.heap.size + 1) (by omega))
  clear hg2 how hG1 hc1 r1
  have p2 : (w2.alloc (.cells #[.int .i64 z, .slice A L.length cp] 45)).heap[w2.heap.size]? = some (.cells #[.int .i64 z, .slice A L.length cp] 45 (0, 0)) := heap_at rfl
  obtain ⟨W, hW⟩ : ∃ W : World, w2.alloc (.cells #[.int .i64 z, .slice A L.length cp] 45) = W := ⟨_, rfl⟩
  obtain ⟨P, hP⟩ : ∃ P, w2.heap.size = P := ⟨_, rfl⟩
  have HOW := Lib.hid (show Ow W (w.heap.size + 1) 84 3 (.slice A L.length cp) (L.map Line.cells) by rw [← hW]; exact HO2.out.alloc _)
  have hcW : Crs W g := by rw [← hW]; exact hc2.alloc _
  have hGW : w.grownBy W (some g) := by rw [← hW]; exact grown_allocL hG2 _
  have rW : W.heap[w.heap.size]? = some (.cells #[.int .i64 0, .slice none 0 0] 45 (0, 0)) := by rw [← hW]; exact heap_past (by omega) r2
  rw [hW, hP] at p2
  have hPw : w.heap.size < P := by omega
  obtain ⟨_, p20, p21, pf, pz⟩ := own2 (Below.refl W.heap.size W) (Array.getElem?_eq_some_iff.1 p2).1 p2
  go_wp2_with fail
  clear hW hP p20 p21 pf pz
  have NP := Lib.hid (HOW.out.ne_ p2 (by decide))
  have NR := Lib.hid (HOW.out.ne_ rW (by decide))
  refine (s_l02Any g L A cp W (w.heap.size + 1) hcW (by omega) (by omega) HOW.out).mono ?_
  rintro e w3 ⟨L3, A3, cp3, rfl, hl3, how3, hc3, hM3⟩
  have p3 := hM3.heap (fun h => h.elim (fun e => by omega) (fun e => NP.out e.symm)) p2
  have r3 := hM3.heap (fun h => h.elim (fun e => by omega) (fun e => NR.out e.symm)) rW
  have hG3 := Mvd.grown hGW hM3 (fun i h => h.elim .inl (fun e => .inr (by have := (HOW.out.block i e).1; omega)))
  have HO3 := Lib.hid how3
  clear how3 hM3 p2 rW hcW hGW HOW NP NR hc2 hG2 r2
  obtain ⟨_, p30, p31, pf, pz⟩ := own2 (Below.refl w3.heap.size w3) (Array.getElem?_eq_some_iff.1 p3).1 p3
  have NP3 := Lib.hid (HO3.out.ne_ p3 (by decide))
  go_wp2_with fail
  have p4 : (w3.setCell ⟨P, 1, none⟩ (.slice A3 L3.length cp3)).heap[P]? = some (.cells #[.int .i64 z, .slice A3 L3.length cp3] 45 (0, 0)) := heap_set p3
  have r4 := heap_far (a := ⟨P, 1, none⟩) (u := .slice A3 L3.length cp3) (by simp only; omega) r3
  have HO4 := Lib.hid (HO3.out.grown (grown_set (World.grownBy.refl w3 (some P)) 1 (.slice A3 L3.length cp3)) (.inr (Ne.symm NP3.out)))
  refine (s_l01Below g 9 _ (hc3.set (by omega)) (by decide) (by decide)).mono ?_
  rintro e w5 ⟨v, v1, v2, rfl, hc5, hg5⟩
  have p5 := heap_grown hg5 (someNeL (by omega)) p4
  have r5 := heap_grown hg5 (someNeL (by omega)) r4
  have hG5 := grown_trans (grown_setL hG3 (by omega) _ _) hg5
  have HO5 := Lib.hid (HO4.out.pastL hg5 (by omega))
  clear hg5 p4 r4 HO4 hG3 hc3 p3 r3 p30 p31 pf HO3 NP3
  obtain ⟨_, p50, p51, pf, pz5⟩ := own2 (Below.refl w5.heap.size w5) (Array.getElem?_eq_some_iff.1 p5).1 p5
  obtain ⟨_, q0, q1, qf, qz⟩ := own2 (Below.refl w5.heap.size w5) (Array.getElem?_eq_some_iff.1 r5).1 r5
  cases hv : (v == 0)
  · go_wp2_with fail
    obtain ⟨s0, s1, sc, sg⟩ := two_doneL (a := .int .i64 z) (b := .slice A3 L3.length cp3) r5 hc5 hG5 (Nat.le_refl _) hgw
    refine bodyPost_ret (v := .agg #[.int .i64 z, .slice A3 L3.length cp3]) (by simp [results, Tryz.results45, go_sem, s0, s1]) rfl ⟨z, L3, A3, cp3, rfl, by omega, ?_, sc, sg⟩
    exact ((HO5.out.far (a := ⟨w.heap.size, 0, none⟩) (by simp) _).far (a := ⟨w.heap.size, 1, none⟩) (by simp) _).more (by omega)
  · go_wp2_with fail
    refine (s_l01Raw g _ hc5).mono ?_
    rintro e w6 ⟨y, y1, y2, rfl, hc6, hg6⟩
    have p6 := heap_grown hg6 (someNeL (by omega)) p5
    have r6 := heap_grown hg6 (someNeL (by omega)) r5
    have hG6 := grown_trans hG5 hg6
    have HO6 := Lib.hid (HO5.out.pastL hg6 (by omega))
    clear hg6 p5 r5 HO5 hG5 hc5 p50 p51 pf q0 q1 qf
    obtain ⟨_, p60, p61, pf, pz6⟩ := own2 (Below.refl w6.heap.size w6) (Array.getElem?_eq_some_iff.1 p6).1 p6
    obtain ⟨_, q0, q1, qf, qz6⟩ := own2 (Below.refl w6.heap.size w6) (Array.getElem?_eq_some_iff.1 r6).1 r6
    have NP6 := Lib.hid (HO6.out.ne_ p6 (by decide))
    have r7 := heap_far (a := ⟨P, 0, none⟩) (u := .int .i64 y) (by simp only; omega) r6
    have HO7 := Lib.hid (HO6.out.grown (grown_set (World.grownBy.refl w6 (some P)) 0 (.int .i64 y)) (.inr (Ne.symm NP6.out)))
    go_wp2_with fail
    obtain ⟨s0, s1, sc, sg⟩ := two_doneL (a := .int .i64 y) (b := .slice A3 L3.length cp3) r7 (hc6.set (by omega)) (grown_setL hG6 (by omega) 0 _) (Nat.le_refl _) hgw
    refine bodyPost_ret (v := .agg #[.int .i64 y, .slice A3 L3.length cp3]) (by simp [results, Tryz.results45, go_sem, s0, s1]) rfl ⟨y, L3, A3, cp3, rfl, by omega, ?_, sc, sg⟩
    exact ((HO7.out.far (a := ⟨w.heap.size, 0, none⟩) (by simp) _).far (a := ⟨w.heap.size, 1, none⟩) (by simp) _).more (by omega)
end Go.Proofs.YtgpledgjpjifcaaGreatDoor
