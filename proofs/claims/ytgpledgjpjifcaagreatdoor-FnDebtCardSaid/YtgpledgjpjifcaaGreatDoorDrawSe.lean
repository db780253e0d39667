/- Draws of any ledger; what the law on sides draws. -/
import Derived.Test.YtgpledgjpjifcaaGreatDoorRows
import Derived.Test.YtgpledgjpjifcaaGreatDoorDrawSd
import Derived.Test.YtgpledgjpjifcaaGreatDoorDrawMb
import Derived.Test.YtgpledgjpjifcaaGreatDoorDrawAQ
namespace Go.Proofs.YtgpledgjpjifcaaGreatDoor
open Go.RowKit

section
variable {w w' w'' : World} {g P cp : Nat} {z : Int} {L : List Line} {A : Option Addr}
theorem LdK.set0 (K : LdK w g P z L A cp w') (x : Int) : LdK w g P x L A cp (w'.setCell ⟨P, 0, none⟩ (.int .i64 x)) := by
  obtain ⟨hp, hr, ho, hc, hG, h6, h7⟩ := K
  exact ⟨heap_set hp, heap_grown (grown_set (World.grownBy.refl w' (some P)) 0 (.int .i64 x)) (someNeL (by omega)) hr, ho.asideP hp (by decide), hc.set (by omega), grown_setL hG (by omega) _ _, h6, h7⟩
theorem LdK.any (K : LdK w g P z L A cp w') {L2 : List Line} {A2 : Option Addr} {c2 : Nat} (ho : Ow w'' w.heap.size 84 3 (.slice A2 L2.length c2) (L2.map Line.cells)) (hc : Crs w'' g) (hm : Mvd w' w'' (fun k => k = g ∨ (Value.slice A L.length cp).ownBlock = some k)) :
    w''.heap[P]? = some (.cells #[.int .i64 z, .slice A L.length cp] 42 (0, 0)) ∧ LdK w g P z L2 A2 c2 (w''.setCell ⟨P, 1, none⟩ (.slice A2 L2.length c2)) := by
  obtain ⟨hp, hr, hb, _, hG, h6, h7⟩ := K
  have np := hb.ne_ hp (by decide)
  have nr := hb.ne_ hr (by decide)
  have hp2 := hm.heap (n := P) (fun h => h.elim (fun e => by omega) (fun e => np e.symm)) hp
  have hr2 := hm.heap (n := w.heap.size) (fun h => h.elim (fun e => by omega) (fun e => nr e.symm)) hr
  have hG2 := Mvd.grown hG hm (fun i h => h.elim (fun e => .inl e) (fun e => .inr (hb.block i e).1))
  exact ⟨hp2, heap_set hp2, heap_grown (grown_set (World.grownBy.refl w'' (some P)) 1 _) (someNeL (by omega)) hr2, ho.asideP hp2 (by decide), hc.set (by omega), grown_setL hG2 (by omega) _ _, h6, h7⟩
end
set_option maxRecDepth 100000 in
set_option maxHeartbeats 2000000 in
theorem s_l02AnyLedger (g : Nat) (w : World) (hc : Crs w g) :
    Calls Tryz.prog 44 #[.pointer (some ⟨g, 0, none⟩)] w (DrewPo g 320 w) := by
  have hgw := hc.lt
  go_enter Tryz.func44, Tryz.ntmps44
  go_wp2_with fail
  refine (s_l02Ledger g _ (hc.alloc _)).mono ?_
  rintro e w1 ⟨z, L, A, cp, rfl, hl, how, hc1, hg1⟩
  have z1 := hg1.size
  simp at z1
  have r1 : w1.heap[w.heap.size]? = some (.cells #[.int .i64 0, .slice none 0 0] 42 (0, 0)) := heap_grown hg1 (someNeL (by omega)) (heap_at rfl)
  have hG1 : w.grownBy w1 (some g) := grown_trans (grown_allocL (World.grownBy.refl _ _) _) hg1
  have HO1 := Lib.hid (how.more (B' := w.heap.size) (by simp))
  clear hg1 how
  go_wp2_with fail
  refine (s_l01Below g 10 _ (hc1.alloc _) (by decide) (by decide)).mono ?_
  rintro e w2 ⟨k, k1, k2, rfl, hc2, hg2⟩
  have z2 := hg2.size
  simp at z2
  obtain ⟨P, hP⟩ : ∃ P, w1.heap.size = P := ⟨_, rfl⟩
  have K2 := Lib.hid (show LdK w g P z L A cp w2 from ⟨heap_grown hg2 (someNeL (by omega)) (heap_at hP.symm), heap_grown hg2 (someNeL (by omega)) (heap_past (by omega) r1), (HO1.out.alloc _).pastL hg2 hgw, hc2, grown_trans (grown_allocL hG1 _) hg2, by omega, hgw⟩)
  rw [hP]
  have hPw : w.heap.size < P := by omega
  clear hP hg2 r1 hG1 HO1 hc1 hc2 z1 z2
  obtain ⟨_, r0, r1, rf, rz⟩ := own2 (Below.refl w2.heap.size w2) (Array.getElem?_eq_some_iff.1 K2.out.2.1).1 K2.out.2.1
  obtain ⟨p0, p1, pf⟩ := K2.out.cells
  have hPz := K2.out.lt
  have hcase : k = 0 ∨ k = 1 ∨ k = 2 ∨ 3 ≤ k := by omega
  rcases hcase with rfl | rfl | rfl | hk
  · go_wp2_with fail
    refine (s_l01Raw g _ K2.out.2.2.2.1).mono ?_
    rintro e w3 ⟨v, v1, v2, rfl, hc3, hg3⟩
    have K3 := Lib.hid (K2.out.draw hg3 hc3)
    clear hg3 hc3 r0 r1 rf rz p0 p1 pf hPz
    obtain ⟨_, r0, r1, rf, rz⟩ := own2 (Below.refl w3.heap.size w3) (Array.getElem?_eq_some_iff.1 K3.out.2.1).1 K3.out.2.1
    obtain ⟨p0, p1, pf⟩ := K3.out.cells
    have hPz := K3.out.lt
    go_wp2_with fail
    obtain ⟨s0, s1, fin⟩ := (K3.out.set0 v).done hl
    exact bodyPost_ret (v := .agg #[.int .i64 v, .slice A L.length cp]) (by simp [results, Tryz.results44, go_sem, s0, s1]) rfl fin
  · go_wp2_with fail
    refine (s_l02Any g L A cp _ w.heap.size K2.out.2.2.2.1 (by omega) hgw K2.out.2.2.1).mono ?_
    rintro e w3 ⟨L2, A2, c2, rfl, hl2, how, hc3, hm⟩
    obtain ⟨hp3, K0⟩ := K2.out.any how hc3 hm
    have K3 := Lib.hid K0
    have hr3 : w3.heap[w.heap.size]? = some (.cells #[.int .i64 0, .slice none 0 0] 42 (0, 0)) := (Below.heap_setCell w3 ⟨P, 1, none⟩ _ w.heap.size (by simp only; omega)).symm.trans K0.2.1
    clear how hc3 hm K0 r0 r1 rf rz p0 p1 pf hPz
    obtain ⟨_, r0, r1, rf, rz⟩ := own2 (Below.refl w3.heap.size w3) (Array.getElem?_eq_some_iff.1 hr3).1 hr3
    obtain ⟨_, p0, p1, pf, hPz⟩ := own2 (Below.refl w3.heap.size w3) (Array.getElem?_eq_some_iff.1 hp3).1 hp3
    go_wp2_with fail
    obtain ⟨s0, s1, fin⟩ := K3.out.done (by omega)
    exact bodyPost_ret (v := .agg #[.int .i64 z, .slice A2 L2.length c2]) (by simp [results, Tryz.results44, go_sem, s0, s1]) rfl fin
  · go_wp2_with fail
    have r9 : ((w2.setCell ⟨P, 0, none⟩ (.int .i64 1)).setCell ⟨P, 1, none⟩ (.slice (some ⟨w2.heap.size, 0, none⟩) 2 2)).heap[w.heap.size]? = some (.cells #[.int .i64 0, .slice none 0 0] 42 (0, 0)) := heap_far (by simp only; omega) (heap_far (by simp only; omega) K2.out.2.1)
    obtain ⟨s0, s1, sc, sg⟩ := two_doneL (w := w) (a := .int .i64 1) (b := .slice (some ⟨w2.heap.size, 0, none⟩) 2 2) r9 ((K2.out.2.2.2.1.set (by omega)).set (by omega)) (grown_setL (grown_setL K2.out.2.2.2.2.1 (by omega) _ _) (by omega) _ _) (Nat.le_refl _) hgw
    refine bodyPost_ret (v := .agg #[.int .i64 1, .slice (some ⟨w2.heap.size, 0, none⟩) 2 2]) (by simp [results, Tryz.results44, go_sem, rz, s0, s1]) rfl ⟨1, [⟨1, 0, 1125899906842624⟩, ⟨2, 0, -1125899906842624⟩], some ⟨w2.heap.size, 0, none⟩, 2, rfl, by decide, ?_, sc.alloc _, grown_allocL sg _⟩
    exact Ow.lit (rows := [[.int .i64 1, .int .i64 0, .int .i64 1125899906842624], [.int .i64 2, .int .i64 0, .int .i64 (-1125899906842624)]]) (by simp [World.setCell]) (by simp) (by omega) (by decide)
  · have t0 : (k == 0) = false := by simp; omega
    have t1 : (k == 1) = false := by simp; omega
    have t2 : (k == 2) = false := by simp; omega
    go_wp2_with fail
    obtain ⟨s0, s1, fin⟩ := K2.out.done hl
    exact bodyPost_ret (v := .agg #[.int .i64 z, .slice A L.length cp]) (by simp [results, Tryz.results44, go_sem, s0, s1]) rfl fin
def DrawnSd (w : World) (e : Ending) (w' : World) : Prop := ∃ (z : Int) (L : List Line) (A : Option Addr) (cap : Nat), e = .returned (.agg #[.int .i64 z, .slice A L.length cap]) ∧ L.length ≤ 320 ∧ Rd w' w'.heap.size 3 A (L.map Line.cells) ∧ Below w.heap.size w w'
end Go.Proofs.YtgpledgjpjifcaaGreatDoor
