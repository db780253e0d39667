/- DebtText: the walks. -/
import Derived.Test.YtgpledgjpjifcaaDoorRows
import Derived.Test.YtgpledgjpjifcaaDoorNumI
import Derived.Test.YtgpledgjpjifcaaDoorStr
import Derived.Test.YtgpledgjpjifcaaDoorDebtF
import Derived.Test.YtgpledgjpjifcaaDoorTxtL
import Derived.Deep.RegionHeld3
namespace Go.Proofs.YtgpledgjpjifcaaDoor
open Go.RowKit

theorem debt_rd {x0 x1 x2 : Int} {W : World} {b : Nat} {e : TypeId} (h : W.heap[b]? = some (.cells #[.int .i64 x0, .int .i64 x1, .int .i64 x2] e (0, 0))) : Rd W W.heap.size 3 (some ⟨b, 0, none⟩) ([(⟨x0, x1, x2⟩ : Debt)].map Debt.cells) := rd_one (cs := [.int .i64 x0, .int .i64 x1, .int .i64 x2]) h rfl
set_option maxRecDepth 100000 in
set_option maxHeartbeats 2000000 in
theorem s_DebtText (x0 x1 x2 : Int) (w : World) : Calls Tryd.prog 11 #[.agg #[.int .i64 x0, .int .i64 x1, .int .i64 x2]] w fun e w' => e = .returned (.string ⟨(debtL ⟨x0, x1, x2⟩).toArray⟩) ∧ Below w.heap.size w w' := by
  cases hd : debtOk ⟨x0, x1, x2⟩
  · have HE := Lib.hid (show debtL ⟨x0, x1, x2⟩ = [] by unfold debtL; rw [hd]; rfl)
    have HD := Lib.hid (show debtsOk [(⟨x0, x1, x2⟩ : Debt)] = false by simp [debtsOk, hd])
    clear hd
    go_enter Tryd.func11, Tryd.ntmps11
    go_wp2_with fail
    refine (s_DebtsOk [(⟨x0, x1, x2⟩ : Debt)] _ _ _ (by simp) (debt_rd (by (first | ((repeat' first | (with_reducible (first | assumption | (refine heap_at ?_; (first | rfl | (simp; done))) | refine heap_drew ?_ | refine heap_drewN ?_ | refine heap_past ?_ ?_ | refine heap_far ?_ ?_)) | (simp; done) | (simp; omega)); done) | (repeat' first | assumption | (refine heap_at ?_; (simp; done)) | refine heap_drew ?_ | refine heap_drewN ?_ | (refine heap_past ?_ ?_ <;> try (simp; done)) | (refine heap_far ?_ ?_ <;> try (simp; done))))))).mono ?_
    rintro e w1 ⟨rfl, hb1⟩
    have z1 := hb1.size
    (try simp at z1)
    rw [HD.out]
    go_wp2_with fail
    go_ret
    exact ⟨by rw [HE.out]; rfl, by (first | ((repeat' first | (with_reducible (first | exact Below.refl _ _ | assumption | refine Below.setCell ?_ ?_ _ | refine Below.alloc ?_ ?_ _ | refine Below.drew ?_ | refine below_drewN ?_ _ | refine Below.trans ?_ (Below.mono (by assumption) ?_))) | omega | (simp; omega) | (simp; done)); done) | (repeat' first | exact Below.refl _ _ | assumption | refine Below.setCell ?_ (by first | omega | (simp; omega) | (simp; done)) _ | refine Below.alloc ?_ (by first | omega | (simp; omega) | (simp; done)) _ | refine Below.drew ?_ | refine below_drewN ?_ _ | refine Below.trans ?_ (Below.mono (by assumption) (by first | omega | (simp; omega) | (simp; done)))))⟩
  · have HE := Lib.hid (show numL x0 ++ [62] ++ numL x1 ++ [32] ++ numL x2 = debtL ⟨x0, x1, x2⟩ by unfold debtL; rw [hd]; rfl)
    have HD := Lib.hid (show debtsOk [(⟨x0, x1, x2⟩ : Debt)] = true by simp [debtsOk, hd])
    clear hd
    go_enter Tryd.func11, Tryd.ntmps11
    go_wp2_with fail
    refine (s_DebtsOk [(⟨x0, x1, x2⟩ : Debt)] _ _ _ (by simp) (debt_rd (by (first | ((repeat' first | (with_reducible (first | assumption | (refine heap_at ?_; (first | rfl | (simp; done))) | refine heap_drew ?_ | refine heap_drewN ?_ | refine heap_past ?_ ?_ | refine heap_far ?_ ?_)) | (simp; done) | (simp; omega)); done) | (repeat' first | assumption | (refine heap_at ?_; (simp; done)) | refine heap_drew ?_ | refine heap_drewN ?_ | (refine heap_past ?_ ?_ <;> try (simp; done)) | (refine heap_far ?_ ?_ <;> try (simp; done))))))).mono ?_
    rintro e w1 ⟨rfl, hb1⟩
    have z1 := hb1.size
    (try simp at z1)
    obtain ⟨jh, j0, j1, j2, jf, jz⟩ := own3 (g := w.heap.size) hb1 (by first | omega | (simp; omega) | (simp; done)) (by (first | ((repeat' first | (with_reducible (first | assumption | (refine heap_at ?_; (first | rfl | (simp; done))) | refine heap_drew ?_ | refine heap_drewN ?_ | refine heap_past ?_ ?_ | refine heap_far ?_ ?_)) | (simp; done) | (simp; omega)); done) | (repeat' first | assumption | (refine heap_at ?_; (simp; done)) | refine heap_drew ?_ | refine heap_drewN ?_ | (refine heap_past ?_ ?_ <;> try (simp; done)) | (refine heap_far ?_ ?_ <;> try (simp; done)))))
    rw [HD.out]
    go_wp2_with fail
    go_region_held3 (fun w' => w'.cell? ⟨w.heap.size, 0, none⟩ = some (.int .i64 x0) ∧ w'.cell? ⟨w.heap.size, 1, none⟩ = some (.int .i64 x1) ∧ w'.cell? ⟨w.heap.size, 2, none⟩ = some (.int .i64 x2))
      (first | exact ⟨j0, j1, j2⟩ | exact ⟨k00, k01, k02⟩ | exact ⟨k10, k11, k12⟩ | exact ⟨k20, k21, k22⟩)
      (first
        | (go_at_call 43; refine (s_NumText _ _).mono ?_; rintro e w3 ⟨rfl, hb3⟩; have z3 := hb3.size; (try simp at z3); obtain ⟨s0, hs0', hs0⟩ := str_of (numL x0); rw [hs0']; clear hs0'; obtain ⟨kh0, k00, k01, k02, kf0, kz0⟩ := own3 (g := w.heap.size) hb3 (by first | omega | (simp; omega) | (simp; done)) (by (first | ((repeat' first | (with_reducible (first | assumption | (refine heap_at ?_; (first | rfl | (simp; done))) | refine heap_drew ?_ | refine heap_drewN ?_ | refine heap_past ?_ ?_ | refine heap_far ?_ ?_)) | (simp; done) | (simp; omega)); done) | (repeat' first | assumption | (refine heap_at ?_; (simp; done)) | refine heap_drew ?_ | refine heap_drewN ?_ | (refine heap_past ?_ ?_ <;> try (simp; done)) | (refine heap_far ?_ ?_ <;> try (simp; done))))); obtain ⟨t0, ht0, hadd0⟩ := str_add hs0.out (str_lit (l := [62]) rfl) (by have := numL_len x0; simp; omega))
        | (go_at_call 43; refine (s_NumText _ _).mono ?_; rintro e w4 ⟨rfl, hb4⟩; have z4 := hb4.size; (try simp at z4); obtain ⟨s1, hs1', hs1⟩ := str_of (numL x1); rw [hs1']; clear hs1'; obtain ⟨kh1, k10, k11, k12, kf1, kz1⟩ := own3 (g := w.heap.size) hb4 (by first | omega | (simp; omega) | (simp; done)) (by (first | ((repeat' first | (with_reducible (first | assumption | (refine heap_at ?_; (first | rfl | (simp; done))) | refine heap_drew ?_ | refine heap_drewN ?_ | refine heap_past ?_ ?_ | refine heap_far ?_ ?_)) | (simp; done) | (simp; omega)); done) | (repeat' first | assumption | (refine heap_at ?_; (simp; done)) | refine heap_drew ?_ | refine heap_drewN ?_ | (refine heap_past ?_ ?_ <;> try (simp; done)) | (refine heap_far ?_ ?_ <;> try (simp; done))))); obtain ⟨t1, ht1, hadd1⟩ := str_add ht0.out hs1.out (by have := numL_len x0; have := numL_len x1; simp; omega); obtain ⟨t2, ht2, hadd2⟩ := str_add ht1.out (str_lit (l := [32]) rfl) (by have := numL_len x0; have := numL_len x1; simp; omega))
        | (go_at_call 43; refine (s_NumText _ _).mono ?_; rintro e w5 ⟨rfl, hb5⟩; have z5 := hb5.size; (try simp at z5); obtain ⟨s2, hs2', hs2⟩ := str_of (numL x2); rw [hs2']; clear hs2'; obtain ⟨kh2, k20, k21, k22, kf2, kz2⟩ := own3 (g := w.heap.size) hb5 (by first | omega | (simp; omega) | (simp; done)) (by (first | ((repeat' first | (with_reducible (first | assumption | (refine heap_at ?_; (first | rfl | (simp; done))) | refine heap_drew ?_ | refine heap_drewN ?_ | refine heap_past ?_ ?_ | refine heap_far ?_ ?_)) | (simp; done) | (simp; omega)); done) | (repeat' first | assumption | (refine heap_at ?_; (simp; done)) | refine heap_drew ?_ | refine heap_drewN ?_ | (refine heap_past ?_ ?_ <;> try (simp; done)) | (refine heap_far ?_ ?_ <;> try (simp; done))))); obtain ⟨t3, ht3, hadd3⟩ := str_add ht2.out hs2.out (by have := numL_len x0; have := numL_len x1; have := numL_len x2; simp; omega)))
    go_wp2_with fail
    go_ret
    refine ⟨?_, by (first | ((repeat' first | (with_reducible (first | exact Below.refl _ _ | assumption | refine Below.setCell ?_ ?_ _ | refine Below.alloc ?_ ?_ _ | refine Below.drew ?_ | refine below_drewN ?_ _ | refine Below.trans ?_ (Below.mono (by assumption) ?_))) | omega | (simp; omega) | (simp; done)); done) | (repeat' first | exact Below.refl _ _ | assumption | refine Below.setCell ?_ (by first | omega | (simp; omega) | (simp; done)) _ | refine Below.alloc ?_ (by first | omega | (simp; omega) | (simp; done)) _ | refine Below.drew ?_ | refine below_drewN ?_ _ | refine Below.trans ?_ (Below.mono (by assumption) (by first | omega | (simp; omega) | (simp; done)))))⟩
    show Ending.returned (.string t3) = _
    rw [ht3.out, HE.out]
set_option maxRecDepth 100000 in
set_option maxHeartbeats 2000000 in
theorem i_DebtText (x0 x1 x2 : Int) (w : World) (hld : Ld w) : Calls Tryd.prog 13 #[.agg #[.int .i64 x0, .int .i64 x1, .int .i64 x2]] w fun e w' => e = .returned (.string ⟨(debtL ⟨x0, x1, x2⟩).toArray⟩) ∧ Below w.heap.size w w' := by
  have HLD := Lib.hid hld
  clear hld
  cases hd : debtOk ⟨x0, x1, x2⟩
  · have HE := Lib.hid (show debtL ⟨x0, x1, x2⟩ = [] by unfold debtL; rw [hd]; rfl)
    have HD := Lib.hid (show debtsOk [(⟨x0, x1, x2⟩ : Debt)] = false by simp [debtsOk, hd])
    clear hd
    go_enter Tryd.func13, Tryd.ntmps13
    go_wp2_with fail
    refine (i_DebtsOk [(⟨x0, x1, x2⟩ : Debt)] _ _ _ (by simp) (debt_rd (by (first | ((repeat' first | (with_reducible (first | assumption | (refine heap_at ?_; (first | rfl | (simp; done))) | refine heap_drew ?_ | refine heap_drewN ?_ | refine heap_past ?_ ?_ | refine heap_far ?_ ?_)) | (simp; done) | (simp; omega)); done) | (repeat' first | assumption | (refine heap_at ?_; (simp; done)) | refine heap_drew ?_ | refine heap_drewN ?_ | (refine heap_past ?_ ?_ <;> try (simp; done)) | (refine heap_far ?_ ?_ <;> try (simp; done))))))).mono ?_
    rintro e w1 ⟨rfl, hb1⟩
    have z1 := hb1.size
    (try simp at z1)
    rw [HD.out]
    go_wp2_with fail
    go_ret
    exact ⟨by rw [HE.out]; rfl, by (first | ((repeat' first | (with_reducible (first | exact Below.refl _ _ | assumption | refine Below.setCell ?_ ?_ _ | refine Below.alloc ?_ ?_ _ | refine Below.drew ?_ | refine below_drewN ?_ _ | refine Below.trans ?_ (Below.mono (by assumption) ?_))) | omega | (simp; omega) | (simp; done)); done) | (repeat' first | exact Below.refl _ _ | assumption | refine Below.setCell ?_ (by first | omega | (simp; omega) | (simp; done)) _ | refine Below.alloc ?_ (by first | omega | (simp; omega) | (simp; done)) _ | refine Below.drew ?_ | refine below_drewN ?_ _ | refine Below.trans ?_ (Below.mono (by assumption) (by first | omega | (simp; omega) | (simp; done)))))⟩
  · have HE := Lib.hid (show numL x0 ++ [62] ++ numL x1 ++ [32] ++ numL x2 = debtL ⟨x0, x1, x2⟩ by unfold debtL; rw [hd]; rfl)
    have HD := Lib.hid (show debtsOk [(⟨x0, x1, x2⟩ : Debt)] = true by simp [debtsOk, hd])
    clear hd
    go_enter Tryd.func13, Tryd.ntmps13
    go_wp2_with fail
    refine (i_DebtsOk [(⟨x0, x1, x2⟩ : Debt)] _ _ _ (by simp) (debt_rd (by (first | ((repeat' first | (with_reducible (first | assumption | (refine heap_at ?_; (first | rfl | (simp; done))) | refine heap_drew ?_ | refine heap_drewN ?_ | refine heap_past ?_ ?_ | refine heap_far ?_ ?_)) | (simp; done) | (simp; omega)); done) | (repeat' first | assumption | (refine heap_at ?_; (simp; done)) | refine heap_drew ?_ | refine heap_drewN ?_ | (refine heap_past ?_ ?_ <;> try (simp; done)) | (refine heap_far ?_ ?_ <;> try (simp; done))))))).mono ?_
    rintro e w1 ⟨rfl, hb1⟩
    have z1 := hb1.size
    (try simp at z1)
    obtain ⟨jh, j0, j1, j2, jf, jz⟩ := own3 (g := w.heap.size) hb1 (by first | omega | (simp; omega) | (simp; done)) (by (first | ((repeat' first | (with_reducible (first | assumption | (refine heap_at ?_; (first | rfl | (simp; done))) | refine heap_drew ?_ | refine heap_drewN ?_ | refine heap_past ?_ ?_ | refine heap_far ?_ ?_)) | (simp; done) | (simp; omega)); done) | (repeat' first | assumption | (refine heap_at ?_; (simp; done)) | refine heap_drew ?_ | refine heap_drewN ?_ | (refine heap_past ?_ ?_ <;> try (simp; done)) | (refine heap_far ?_ ?_ <;> try (simp; done)))))
    rw [HD.out]
    go_wp2_with fail
    go_region_held3 (fun w' => w'.cell? ⟨w.heap.size, 0, none⟩ = some (.int .i64 x0) ∧ w'.cell? ⟨w.heap.size, 1, none⟩ = some (.int .i64 x1) ∧ w'.cell? ⟨w.heap.size, 2, none⟩ = some (.int .i64 x2))
      (first | exact ⟨j0, j1, j2⟩ | exact ⟨k00, k01, k02⟩ | exact ⟨k10, k11, k12⟩ | exact ⟨k20, k21, k22⟩)
      (first
        | (go_at_call 45; refine (i_NumText _ _ (HLD.out.below (by (first | ((repeat' first | (with_reducible (first | exact Below.refl _ _ | assumption | refine Below.setCell ?_ ?_ _ | refine Below.alloc ?_ ?_ _ | refine Below.drew ?_ | refine below_drewN ?_ _ | refine Below.trans ?_ (Below.mono (by assumption) ?_))) | omega | (simp; omega) | (simp; done)); done) | (repeat' first | exact Below.refl _ _ | assumption | refine Below.setCell ?_ (by first | omega | (simp; omega) | (simp; done)) _ | refine Below.alloc ?_ (by first | omega | (simp; omega) | (simp; done)) _ | refine Below.drew ?_ | refine below_drewN ?_ _ | refine Below.trans ?_ (Below.mono (by assumption) (by first | omega | (simp; omega) | (simp; done)))))))).mono ?_; rintro e w3 ⟨rfl, hb3⟩; have z3 := hb3.size; (try simp at z3); obtain ⟨s0, hs0', hs0⟩ := str_of (numL x0); rw [hs0']; clear hs0'; obtain ⟨kh0, k00, k01, k02, kf0, kz0⟩ := own3 (g := w.heap.size) hb3 (by first | omega | (simp; omega) | (simp; done)) (by (first | ((repeat' first | (with_reducible (first | assumption | (refine heap_at ?_; (first | rfl | (simp; done))) | refine heap_drew ?_ | refine heap_drewN ?_ | refine heap_past ?_ ?_ | refine heap_far ?_ ?_)) | (simp; done) | (simp; omega)); done) | (repeat' first | assumption | (refine heap_at ?_; (simp; done)) | refine heap_drew ?_ | refine heap_drewN ?_ | (refine heap_past ?_ ?_ <;> try (simp; done)) | (refine heap_far ?_ ?_ <;> try (simp; done))))); obtain ⟨t0, ht0, hadd0⟩ := str_add hs0.out (str_lit (l := [62]) rfl) (by have := numL_len x0; simp; omega))
        | (go_at_call 45; refine (i_NumText _ _ (HLD.out.below (by (first | ((repeat' first | (with_reducible (first | exact Below.refl _ _ | assumption | refine Below.setCell ?_ ?_ _ | refine Below.alloc ?_ ?_ _ | refine Below.drew ?_ | refine below_drewN ?_ _ | refine Below.trans ?_ (Below.mono (by assumption) ?_))) | omega | (simp; omega) | (simp; done)); done) | (repeat' first | exact Below.refl _ _ | assumption | refine Below.setCell ?_ (by first | omega | (simp; omega) | (simp; done)) _ | refine Below.alloc ?_ (by first | omega | (simp; omega) | (simp; done)) _ | refine Below.drew ?_ | refine below_drewN ?_ _ | refine Below.trans ?_ (Below.mono (by assumption) (by first | omega | (simp; omega) | (simp; done)))))))).mono ?_; rintro e w4 ⟨rfl, hb4⟩; have z4 := hb4.size; (try simp at z4); obtain ⟨s1, hs1', hs1⟩ := str_of (numL x1); rw [hs1']; clear hs1'; obtain ⟨kh1, k10, k11, k12, kf1, kz1⟩ := own3 (g := w.heap.size) hb4 (by first | omega | (simp; omega) | (simp; done)) (by (first | ((repeat' first | (with_reducible (first | assumption | (refine heap_at ?_; (first | rfl | (simp; done))) | refine heap_drew ?_ | refine heap_drewN ?_ | refine heap_past ?_ ?_ | refine heap_far ?_ ?_)) | (simp; done) | (simp; omega)); done) | (repeat' first | assumption | (refine heap_at ?_; (simp; done)) | refine heap_drew ?_ | refine heap_drewN ?_ | (refine heap_past ?_ ?_ <;> try (simp; done)) | (refine heap_far ?_ ?_ <;> try (simp; done))))); obtain ⟨t1, ht1, hadd1⟩ := str_add ht0.out hs1.out (by have := numL_len x0; have := numL_len x1; simp; omega); obtain ⟨t2, ht2, hadd2⟩ := str_add ht1.out (str_lit (l := [32]) rfl) (by have := numL_len x0; have := numL_len x1; simp; omega))
        | (go_at_call 45; refine (i_NumText _ _ (HLD.out.below (by (first | ((repeat' first | (with_reducible (first | exact Below.refl _ _ | assumption | refine Below.setCell ?_ ?_ _ | refine Below.alloc ?_ ?_ _ | refine Below.drew ?_ | refine below_drewN ?_ _ | refine Below.trans ?_ (Below.mono (by assumption) ?_))) | omega | (simp; omega) | (simp; done)); done) | (repeat' first | exact Below.refl _ _ | assumption | refine Below.setCell ?_ (by first | omega | (simp; omega) | (simp; done)) _ | refine Below.alloc ?_ (by first | omega | (simp; omega) | (simp; done)) _ | refine Below.drew ?_ | refine below_drewN ?_ _ | refine Below.trans ?_ (Below.mono (by assumption) (by first | omega | (simp; omega) | (simp; done)))))))).mono ?_; rintro e w5 ⟨rfl, hb5⟩; have z5 := hb5.size; (try simp at z5); obtain ⟨s2, hs2', hs2⟩ := str_of (numL x2); rw [hs2']; clear hs2'; obtain ⟨kh2, k20, k21, k22, kf2, kz2⟩ := own3 (g := w.heap.size) hb5 (by first | omega | (simp; omega) | (simp; done)) (by (first | ((repeat' first | (with_reducible (first | assumption | (refine heap_at ?_; (first | rfl | (simp; done))) | refine heap_drew ?_ | refine heap_drewN ?_ | refine heap_past ?_ ?_ | refine heap_far ?_ ?_)) | (simp; done) | (simp; omega)); done) | (repeat' first | assumption | (refine heap_at ?_; (simp; done)) | refine heap_drew ?_ | refine heap_drewN ?_ | (refine heap_past ?_ ?_ <;> try (simp; done)) | (refine heap_far ?_ ?_ <;> try (simp; done))))); obtain ⟨t3, ht3, hadd3⟩ := str_add ht2.out hs2.out (by have := numL_len x0; have := numL_len x1; have := numL_len x2; simp; omega)))
    go_wp2_with fail
    go_ret
    refine ⟨?_, by (first | ((repeat' first | (with_reducible (first | exact Below.refl _ _ | assumption | refine Below.setCell ?_ ?_ _ | refine Below.alloc ?_ ?_ _ | refine Below.drew ?_ | refine below_drewN ?_ _ | refine Below.trans ?_ (Below.mono (by assumption) ?_))) | omega | (simp; omega) | (simp; done)); done) | (repeat' first | exact Below.refl _ _ | assumption | refine Below.setCell ?_ (by first | omega | (simp; omega) | (simp; done)) _ | refine Below.alloc ?_ (by first | omega | (simp; omega) | (simp; done)) _ | refine Below.drew ?_ | refine below_drewN ?_ _ | refine Below.trans ?_ (Below.mono (by assumption) (by first | omega | (simp; omega) | (simp; done)))))⟩
    show Ending.returned (.string t3) = _
    rw [ht3.out, HE.out]
end Go.Proofs.YtgpledgjpjifcaaDoor
