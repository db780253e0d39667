/- Lines: LinesOk, the reference's. -/
import Derived.Test.YtgpledgjpjifcaaGreatDoorRows
import Derived.Test.YtgpledgjpjifcaaGreatDoorAccs
namespace Go.Proofs.YtgpledgjpjifcaaGreatDoor
open Go.RowKit

set_option maxRecDepth 100000 in
set_option maxHeartbeats 4000000 in
theorem s_LinesOk (l : List Line) (A : Option Addr) (cap : Nat) (w : World) (hl : l.length ≤ 320) (hr : Rd w w.heap.size 3 A (l.map Line.cells)) :
    Calls Tryz.prog 97 #[.slice A l.length cap] w fun e w' => e = .returned (.bool (linesB l)) ∧ Below w.heap.size w w' := by
  have HR := Lib.hid hr
  clear hr
  go_enter Tryz.func97, Tryz.ntmps97
  go_wp2_with fail
  go_loopw [3, 8] (fun s i wr => ∃ (k : Nat) (z : Int), k ≤ l.length ∧ i = .int .i64 k ∧ s = .int .i64 z ∧ Hid (allTo k (lineAt l) = true) ∧ Hid (lineSum (l.take k) = z) ∧ (-((k : Int) * 1125899906842624) ≤ z ∧ z ≤ (k : Int) * 1125899906842624) ∧ Below w.heap.size w wr) (fun _ i _ => l.length - (intOf i).toNat)
  case atStart => exact ⟨0, 0, Nat.zero_le _, rfl, rfl, Lib.hid rfl, Lib.hid rfl, by omega, Below.refl _ _⟩
  case round =>
    obtain ⟨k, z, hk, rfl, rfl, HALL, HS, ⟨z1, z2⟩, hbw⟩ := hrel
    have hbz := hbw.size
    by_cases hlt : k < l.length
    · obtain ⟨b, off, rfl, hbB, c0, c1, c2⟩ := Line.rd (HR.out.below hbw) hlt
      have hbr : b < wr.heap.size := by omega
      have K0 : ∀ w2, Above (wr.alloc (.cells #[.int .i64 l[k].Kind, .int .i64 l[k].Ch, .int .i64 l[k].Amt] 84)).drew w2 → w2.cell? ⟨wr.heap.size, 0, none⟩ = some (.int .i64 l[k].Kind) ∧ w2.cell? ⟨wr.heap.size, 1, none⟩ = some (.int .i64 l[k].Ch) ∧ w2.cell? ⟨wr.heap.size, 2, none⟩ = some (.int .i64 l[k].Amt) := fun w2 hw2 => by
        obtain ⟨kh, k0, k1, k2, kf, kz⟩ := own3 (g := wr.heap.size) hw2 (by first | omega | (simp; omega) | (simp; done)) (by (first | ((repeat' first | (with_reducible (first | assumption | (refine heap_at ?_; (first | rfl | (simp; done))) | refine heap_drew ?_ | refine heap_drewN ?_ | refine heap_past ?_ ?_ | refine heap_far ?_ ?_)) | (simp; done) | (simp; omega)); done) | (repeat' first | assumption | (refine heap_at ?_; (simp; done)) | refine heap_drew ?_ | refine heap_drewN ?_ | (refine heap_past ?_ ?_ <;> try (simp; done)) | (refine heap_far ?_ ?_ <;> try (simp; done)))))
        exact ⟨k0, k1, k2⟩
      have k320 : decide ((320 : Int) < (k : Int)) = false := decide_eq_false (by omega)
      by_cases hk0 : k = 0
      · have hat : lineAt l k = (accB l[k].Kind l[k].Ch && !(l[k].Amt == 0) && rangeB l[k].Amt) := by subst hk0; exact lineAt_first hlt
        have h3' : decide ((0 : Int) < (k : Int)) = false := decide_eq_false (by omega)
        have h3'' : decide (0 < k) = false := decide_eq_false (by omega)
        clear hk0
        have HK := Lib.hid K0
        have KQ := Lib.hid K0
        clear K0
        cases ha : accB l[k].Kind l[k].Ch
        · -- acc false
          have HA := Lib.hid ha
          clear ha
          have HO := Lib.hid (show lineAt l k = false by rw [hat]; simp [HA.out])
          clear hat
          go_wp2_with fail
          refine wp_region_steady (by kernel_rfl) (by kernel_rfl) ?_
          repeat (first | (refine wpSteady_skip rfl ?_; intro K hK; go_simp; refine hK _ ?_; clear hK K) | (refine wpSteady_value ?_ rfl ?_ ?_; rotate_left; (focus (intro w2 hw2; obtain ⟨k0, k1, k2⟩ := HK.out w2 hw2; go_simp; rfl)); intro K hK; go_simp; refine hK _ ?_; clear hK K))
          refine wpSteady_call 98 #[.agg #[.int .i64 l[k].Kind, .int .i64 l[k].Ch]] (.bool false) rfl (fun w2 hw2 => by go_simp) (fun w2 hw2 => (s_AccOk _ _ _).mono (fun e w3 hh => ⟨hh.1.trans (by rw [HA.out]), hh.2⟩)) ?_
          intro K hK; go_simp; refine hK _ ?_; clear hK K
          repeat (first | (refine wpSteady_skip rfl ?_; intro K hK; go_simp; refine hK _ ?_; clear hK K) | (refine wpSteady_value ?_ rfl ?_ ?_; rotate_left; (focus (intro w2 hw2; obtain ⟨k0, k1, k2⟩ := HK.out w2 hw2; go_simp; rfl)); intro K hK; go_simp; refine hK _ ?_; clear hK K))
          refine wpSteady_nil ?_; intro w9 hb9
          clear HK
          go_wp2_with fail
          go_ret
          exact ⟨ret_bool (linesB_bad hlt HO.out).symm, by (first | ((repeat' first | (with_reducible (first | exact Below.refl _ _ | assumption | refine Below.setCell ?_ ?_ _ | refine Below.alloc ?_ ?_ _ | refine Below.drew ?_ | refine below_drewN ?_ _ | refine Below.trans ?_ (Below.mono (by assumption) ?_))) | omega | (simp; omega) | (simp; done)); done) | (repeat' first | exact Below.refl _ _ | assumption | refine Below.setCell ?_ (by first | omega | (simp; omega) | (simp; done)) _ | refine Below.alloc ?_ (by first | omega | (simp; omega) | (simp; done)) _ | refine Below.drew ?_ | refine below_drewN ?_ _ | refine Below.trans ?_ (Below.mono (by assumption) (by first | omega | (simp; omega) | (simp; done)))))⟩
        · -- acc true
          have HA := Lib.hid ha
          clear ha
          cases hg : rangeB l[k].Amt
          · -- range false
            have HR2 := Lib.hid hg
            clear hg
            have HO := Lib.hid (show lineAt l k = false by rw [hat]; simp [HA.out, HR2.out])
            clear hat
            go_wp2_with fail
            refine wp_region_steady (by kernel_rfl) (by kernel_rfl) ?_
            repeat (first | (refine wpSteady_skip rfl ?_; intro K hK; go_simp; refine hK _ ?_; clear hK K) | (refine wpSteady_value ?_ rfl ?_ ?_; rotate_left; (focus (intro w2 hw2; obtain ⟨k0, k1, k2⟩ := HK.out w2 hw2; go_simp; rfl)); intro K hK; go_simp; refine hK _ ?_; clear hK K))
            refine wpSteady_call 98 #[.agg #[.int .i64 l[k].Kind, .int .i64 l[k].Ch]] (.bool true) rfl (fun w2 hw2 => by go_simp) (fun w2 hw2 => (s_AccOk _ _ _).mono (fun e w3 hh => ⟨hh.1.trans (by rw [HA.out]), hh.2⟩)) ?_
            intro K hK; go_simp; refine hK _ ?_; clear hK K
            repeat (first | (refine wpSteady_skip rfl ?_; intro K hK; go_simp; refine hK _ ?_; clear hK K) | (refine wpSteady_value ?_ rfl ?_ ?_; rotate_left; (focus (intro w2 hw2; obtain ⟨k0, k1, k2⟩ := HK.out w2 hw2; go_simp; rfl)); intro K hK; go_simp; refine hK _ ?_; clear hK K))
            refine wpSteady_call 132 #[.int .i64 l[k].Amt] (.bool false) rfl (fun w2 hw2 => by go_simp) (fun w2 hw2 => (s_l02Range _ _).mono (fun e w3 hh => ⟨hh.1.trans (by rw [HR2.out]), by rw [← hh.2]; exact Below.refl _ _⟩)) ?_
            intro K hK; go_simp; refine hK _ ?_; clear hK K
            repeat (first | (refine wpSteady_skip rfl ?_; intro K hK; go_simp; refine hK _ ?_; clear hK K) | (refine wpSteady_value ?_ rfl ?_ ?_; rotate_left; (focus (intro w2 hw2; obtain ⟨k0, k1, k2⟩ := HK.out w2 hw2; go_simp; rfl)); intro K hK; go_simp; refine hK _ ?_; clear hK K))
            refine wpSteady_nil ?_; intro w9 hb9
            clear HK
            go_wp2_with fail
            go_ret
            exact ⟨ret_bool (linesB_bad hlt HO.out).symm, by (first | ((repeat' first | (with_reducible (first | exact Below.refl _ _ | assumption | refine Below.setCell ?_ ?_ _ | refine Below.alloc ?_ ?_ _ | refine Below.drew ?_ | refine below_drewN ?_ _ | refine Below.trans ?_ (Below.mono (by assumption) ?_))) | omega | (simp; omega) | (simp; done)); done) | (repeat' first | exact Below.refl _ _ | assumption | refine Below.setCell ?_ (by first | omega | (simp; omega) | (simp; done)) _ | refine Below.alloc ?_ (by first | omega | (simp; omega) | (simp; done)) _ | refine Below.drew ?_ | refine below_drewN ?_ _ | refine Below.trans ?_ (Below.mono (by assumption) (by first | omega | (simp; omega) | (simp; done)))))⟩
          · -- range true
            have HR2 := Lib.hid hg
            clear hg
            cases hz : (l[k].Amt == 0)
            · -- zero false
              have HO := Lib.hid (show lineAt l k = true by rw [hat]; simp [HA.out, HR2.out, hz])
              have hb := HO.out
              obtain ⟨_, _, m1, m2⟩ := lineAt_ok hlt hb
              clear hb hat
              go_wp2_with fail
              refine wp_region_steady (by kernel_rfl) (by kernel_rfl) ?_
              repeat (first | (refine wpSteady_skip rfl ?_; intro K hK; go_simp; refine hK _ ?_; clear hK K) | (refine wpSteady_value ?_ rfl ?_ ?_; rotate_left; (focus (intro w2 hw2; obtain ⟨k0, k1, k2⟩ := HK.out w2 hw2; go_simp; rfl)); intro K hK; go_simp; refine hK _ ?_; clear hK K))
              refine wpSteady_call 98 #[.agg #[.int .i64 l[k].Kind, .int .i64 l[k].Ch]] (.bool true) rfl (fun w2 hw2 => by go_simp) (fun w2 hw2 => (s_AccOk _ _ _).mono (fun e w3 hh => ⟨hh.1.trans (by rw [HA.out]), hh.2⟩)) ?_
              intro K hK; go_simp; refine hK _ ?_; clear hK K
              repeat (first | (refine wpSteady_skip rfl ?_; intro K hK; go_simp; refine hK _ ?_; clear hK K) | (refine wpSteady_value ?_ rfl ?_ ?_; rotate_left; (focus (intro w2 hw2; obtain ⟨k0, k1, k2⟩ := HK.out w2 hw2; go_simp; rfl)); intro K hK; go_simp; refine hK _ ?_; clear hK K))
              refine wpSteady_call 132 #[.int .i64 l[k].Amt] (.bool true) rfl (fun w2 hw2 => by go_simp) (fun w2 hw2 => (s_l02Range _ _).mono (fun e w3 hh => ⟨hh.1.trans (by rw [HR2.out]), by rw [← hh.2]; exact Below.refl _ _⟩)) ?_
              intro K hK; go_simp; refine hK _ ?_; clear hK K
              repeat (first | (refine wpSteady_skip rfl ?_; intro K hK; go_simp; refine hK _ ?_; clear hK K) | (refine wpSteady_value ?_ rfl ?_ ?_; rotate_left; (focus (intro w2 hw2; obtain ⟨k0, k1, k2⟩ := HK.out w2 hw2; go_simp; rfl)); intro K hK; go_simp; refine hK _ ?_; clear hK K))
              refine wpSteady_nil ?_; intro w9 hb9
              obtain ⟨g0, g1, g2⟩ := KQ.out w9 hb9
              clear HK
              go_wp2_with fail
              go_roundw
              case rel => exact ⟨k + 1, _, by omega, by go_num, rfl, Lib.hid (by rw [allTo_succ, HALL.out, HO.out]; rfl), Lib.hid (by rw [lineSum_succ l hlt, HS.out]), by omega, by (first | ((repeat' first | (with_reducible (first | exact Below.refl _ _ | assumption | refine Below.setCell ?_ ?_ _ | refine Below.alloc ?_ ?_ _ | refine Below.drew ?_ | refine below_drewN ?_ _ | refine Below.trans ?_ (Below.mono (by assumption) ?_))) | omega | (simp; omega) | (simp; done)); done) | (repeat' first | exact Below.refl _ _ | assumption | refine Below.setCell ?_ (by first | omega | (simp; omega) | (simp; done)) _ | refine Below.alloc ?_ (by first | omega | (simp; omega) | (simp; done)) _ | refine Below.drew ?_ | refine below_drewN ?_ _ | refine Below.trans ?_ (Below.mono (by assumption) (by first | omega | (simp; omega) | (simp; done)))))⟩
              case measure => simp [intOf]; omega
            · -- zero true
              have HO := Lib.hid (show lineAt l k = false by rw [hat]; simp [HA.out, HR2.out, hz])
              clear hat
              go_wp2_with fail
              refine wp_region_steady (by kernel_rfl) (by kernel_rfl) ?_
              repeat (first | (refine wpSteady_skip rfl ?_; intro K hK; go_simp; refine hK _ ?_; clear hK K) | (refine wpSteady_value ?_ rfl ?_ ?_; rotate_left; (focus (intro w2 hw2; obtain ⟨k0, k1, k2⟩ := HK.out w2 hw2; go_simp; rfl)); intro K hK; go_simp; refine hK _ ?_; clear hK K))
              refine wpSteady_call 98 #[.agg #[.int .i64 l[k].Kind, .int .i64 l[k].Ch]] (.bool true) rfl (fun w2 hw2 => by go_simp) (fun w2 hw2 => (s_AccOk _ _ _).mono (fun e w3 hh => ⟨hh.1.trans (by rw [HA.out]), hh.2⟩)) ?_
              intro K hK; go_simp; refine hK _ ?_; clear hK K
              repeat (first | (refine wpSteady_skip rfl ?_; intro K hK; go_simp; refine hK _ ?_; clear hK K) | (refine wpSteady_value ?_ rfl ?_ ?_; rotate_left; (focus (intro w2 hw2; obtain ⟨k0, k1, k2⟩ := HK.out w2 hw2; go_simp; rfl)); intro K hK; go_simp; refine hK _ ?_; clear hK K))
              refine wpSteady_call 132 #[.int .i64 l[k].Amt] (.bool true) rfl (fun w2 hw2 => by go_simp) (fun w2 hw2 => (s_l02Range _ _).mono (fun e w3 hh => ⟨hh.1.trans (by rw [HR2.out]), by rw [← hh.2]; exact Below.refl _ _⟩)) ?_
              intro K hK; go_simp; refine hK _ ?_; clear hK K
              repeat (first | (refine wpSteady_skip rfl ?_; intro K hK; go_simp; refine hK _ ?_; clear hK K) | (refine wpSteady_value ?_ rfl ?_ ?_; rotate_left; (focus (intro w2 hw2; obtain ⟨k0, k1, k2⟩ := HK.out w2 hw2; go_simp; rfl)); intro K hK; go_simp; refine hK _ ?_; clear hK K))
              refine wpSteady_nil ?_; intro w9 hb9
              clear HK
              go_wp2_with fail
              go_ret
              exact ⟨ret_bool (linesB_bad hlt HO.out).symm, by (first | ((repeat' first | (with_reducible (first | exact Below.refl _ _ | assumption | refine Below.setCell ?_ ?_ _ | refine Below.alloc ?_ ?_ _ | refine Below.drew ?_ | refine below_drewN ?_ _ | refine Below.trans ?_ (Below.mono (by assumption) ?_))) | omega | (simp; omega) | (simp; done)); done) | (repeat' first | exact Below.refl _ _ | assumption | refine Below.setCell ?_ (by first | omega | (simp; omega) | (simp; done)) _ | refine Below.alloc ?_ (by first | omega | (simp; omega) | (simp; done)) _ | refine Below.drew ?_ | refine below_drewN ?_ _ | refine Below.trans ?_ (Below.mono (by assumption) (by first | omega | (simp; omega) | (simp; done)))))⟩
      · obtain ⟨j, hkj⟩ : ∃ j, k = j + 1 := ⟨k - 1, by omega⟩
        have hj : j < l.length := by omega
        have hat : lineAt l k = (accB l[k].Kind l[k].Ch && !(l[k].Amt == 0) && rangeB l[k].Amt && lessB l[j].Kind l[j].Ch l[k].Kind l[k].Ch) := by subst hkj; exact lineAt_next hlt hj
        obtain ⟨b', off', e', _, d0, d1, d2⟩ := Line.rd (HR.out.below hbw) hj
        simp only [Option.some.injEq, Addr.mk.injEq, and_true] at e'
        obtain ⟨rfl, rfl⟩ := e'
        have h3' : decide ((0 : Int) < (k : Int)) = true := decide_eq_true (by omega)
        have h3'' : decide (0 < k) = true := decide_eq_true (by omega)
        have i1 : (0 : Int) ≤ (j : Int) := by omega
        have i2 : (j : Int) < (l.length : Int) := by omega
        have e1 : IntKind.i64.wrap ((k : Int) - 1) = (j : Int) := by rw [hkj]; exact (IntWalk.i64_in _ ⟨by omega, by omega⟩).trans (by omega)
        clear hkj hk0
        have KQ := Lib.hid K0
        have K1 : ∀ w2, Above (wr.alloc (.cells #[.int .i64 l[k].Kind, .int .i64 l[k].Ch, .int .i64 l[k].Amt] 84)).drew w2 → w2.cell? ⟨wr.heap.size, 0, none⟩ = some (.int .i64 l[k].Kind) ∧ w2.cell? ⟨wr.heap.size, 1, none⟩ = some (.int .i64 l[k].Ch) ∧ w2.cell? ⟨wr.heap.size, 2, none⟩ = some (.int .i64 l[k].Amt) ∧ w2.cell? ⟨b, off + j * 3, none⟩ = some (.int .i64 l[j].Kind) ∧ w2.cell? ⟨b, off + j * 3 + 1, none⟩ = some (.int .i64 l[j].Ch) := fun w2 hw2 => by
          obtain ⟨k0, k1, k2⟩ := KQ.out w2 hw2
          have hq : Below wr.heap.size wr w2 := by (first | ((repeat' first | (with_reducible (first | exact Below.refl _ _ | assumption | refine Below.setCell ?_ ?_ _ | refine Below.alloc ?_ ?_ _ | refine Below.drew ?_ | refine below_drewN ?_ _ | refine Below.trans ?_ (Below.mono (by assumption) ?_))) | omega | (simp; omega) | (simp; done)); done) | (repeat' first | exact Below.refl _ _ | assumption | refine Below.setCell ?_ (by first | omega | (simp; omega) | (simp; done)) _ | refine Below.alloc ?_ (by first | omega | (simp; omega) | (simp; done)) _ | refine Below.drew ?_ | refine below_drewN ?_ _ | refine Below.trans ?_ (Below.mono (by assumption) (by first | omega | (simp; omega) | (simp; done)))))
          exact ⟨k0, k1, k2, (hq.cell (p := ⟨b, _, none⟩) hbr).trans d0, (hq.cell (p := ⟨b, _, none⟩) hbr).trans d1⟩
        have HK := Lib.hid K1
        clear K0 K1 d0 d1 d2
        cases ha : accB l[k].Kind l[k].Ch
        · -- acc false
          have HA := Lib.hid ha
          clear ha
          have HO := Lib.hid (show lineAt l k = false by rw [hat]; simp [HA.out])
          clear hat
          go_wp2_with fail
          refine wp_region_steady (by kernel_rfl) (by kernel_rfl) ?_
          repeat (first | (refine wpSteady_skip rfl ?_; intro K hK; go_simp; refine hK _ ?_; clear hK K) | (refine wpSteady_value ?_ rfl ?_ ?_; rotate_left; (focus (intro w2 hw2; obtain ⟨k0, k1, k2, j0, j1⟩ := HK.out w2 hw2; go_simp; rfl)); intro K hK; go_simp; refine hK _ ?_; clear hK K))
          refine wpSteady_call 98 #[.agg #[.int .i64 l[k].Kind, .int .i64 l[k].Ch]] (.bool false) rfl (fun w2 hw2 => by go_simp) (fun w2 hw2 => (s_AccOk _ _ _).mono (fun e w3 hh => ⟨hh.1.trans (by rw [HA.out]), hh.2⟩)) ?_
          intro K hK; go_simp; refine hK _ ?_; clear hK K
          repeat (first | (refine wpSteady_skip rfl ?_; intro K hK; go_simp; refine hK _ ?_; clear hK K) | (refine wpSteady_value ?_ rfl ?_ ?_; rotate_left; (focus (intro w2 hw2; obtain ⟨k0, k1, k2, j0, j1⟩ := HK.out w2 hw2; go_simp; rfl)); intro K hK; go_simp; refine hK _ ?_; clear hK K))
          refine wpSteady_nil ?_; intro w9 hb9
          clear HK
          go_wp2_with fail
          go_ret
          exact ⟨ret_bool (linesB_bad hlt HO.out).symm, by (first | ((repeat' first | (with_reducible (first | exact Below.refl _ _ | assumption | refine Below.setCell ?_ ?_ _ | refine Below.alloc ?_ ?_ _ | refine Below.drew ?_ | refine below_drewN ?_ _ | refine Below.trans ?_ (Below.mono (by assumption) ?_))) | omega | (simp; omega) | (simp; done)); done) | (repeat' first | exact Below.refl _ _ | assumption | refine Below.setCell ?_ (by first | omega | (simp; omega) | (simp; done)) _ | refine Below.alloc ?_ (by first | omega | (simp; omega) | (simp; done)) _ | refine Below.drew ?_ | refine below_drewN ?_ _ | refine Below.trans ?_ (Below.mono (by assumption) (by first | omega | (simp; omega) | (simp; done)))))⟩
        · -- acc true
          have HA := Lib.hid ha
          clear ha
          cases hs : lessB l[j].Kind l[j].Ch l[k].Kind l[k].Ch
          · -- less false
            have HL := Lib.hid hs
            clear hs
            have HO := Lib.hid (show lineAt l k = false by rw [hat]; simp [HA.out, HL.out])
            clear hat
            go_wp2_with fail
            refine wp_region_steady (by kernel_rfl) (by kernel_rfl) ?_
            repeat (first | (refine wpSteady_skip rfl ?_; intro K hK; go_simp; refine hK _ ?_; clear hK K) | (refine wpSteady_value ?_ rfl ?_ ?_; rotate_left; (focus (intro w2 hw2; obtain ⟨k0, k1, k2, j0, j1⟩ := HK.out w2 hw2; go_simp; rfl)); intro K hK; go_simp; refine hK _ ?_; clear hK K))
            refine wpSteady_call 98 #[.agg #[.int .i64 l[k].Kind, .int .i64 l[k].Ch]] (.bool true) rfl (fun w2 hw2 => by go_simp) (fun w2 hw2 => (s_AccOk _ _ _).mono (fun e w3 hh => ⟨hh.1.trans (by rw [HA.out]), hh.2⟩)) ?_
            intro K hK; go_simp; refine hK _ ?_; clear hK K
            repeat (first | (refine wpSteady_skip rfl ?_; intro K hK; go_simp; refine hK _ ?_; clear hK K) | (refine wpSteady_value ?_ rfl ?_ ?_; rotate_left; (focus (intro w2 hw2; obtain ⟨k0, k1, k2, j0, j1⟩ := HK.out w2 hw2; go_simp; rfl)); intro K hK; go_simp; refine hK _ ?_; clear hK K))
            refine wpSteady_call 131 #[.agg #[.int .i64 l[j].Kind, .int .i64 l[j].Ch], .agg #[.int .i64 l[k].Kind, .int .i64 l[k].Ch]] (.bool false) rfl (fun w2 hw2 => by go_simp) (fun w2 hw2 => (s_l02Less _ _ _ _ _).mono (fun e w3 hh => ⟨hh.1.trans (by rw [HL.out]), hh.2⟩)) ?_
            intro K hK; go_simp; refine hK _ ?_; clear hK K
            repeat (first | (refine wpSteady_skip rfl ?_; intro K hK; go_simp; refine hK _ ?_; clear hK K) | (refine wpSteady_value ?_ rfl ?_ ?_; rotate_left; (focus (intro w2 hw2; obtain ⟨k0, k1, k2, j0, j1⟩ := HK.out w2 hw2; go_simp; rfl)); intro K hK; go_simp; refine hK _ ?_; clear hK K))
            refine wpSteady_nil ?_; intro w9 hb9
            clear HK
            go_wp2_with fail
            go_ret
            exact ⟨ret_bool (linesB_bad hlt HO.out).symm, by (first | ((repeat' first | (with_reducible (first | exact Below.refl _ _ | assumption | refine Below.setCell ?_ ?_ _ | refine Below.alloc ?_ ?_ _ | refine Below.drew ?_ | refine below_drewN ?_ _ | refine Below.trans ?_ (Below.mono (by assumption) ?_))) | omega | (simp; omega) | (simp; done)); done) | (repeat' first | exact Below.refl _ _ | assumption | refine Below.setCell ?_ (by first | omega | (simp; omega) | (simp; done)) _ | refine Below.alloc ?_ (by first | omega | (simp; omega) | (simp; done)) _ | refine Below.drew ?_ | refine below_drewN ?_ _ | refine Below.trans ?_ (Below.mono (by assumption) (by first | omega | (simp; omega) | (simp; done)))))⟩
          · -- less true
            have HL := Lib.hid hs
            clear hs
            cases hg : rangeB l[k].Amt
            · -- range false
              have HR2 := Lib.hid hg
              clear hg
              have HO := Lib.hid (show lineAt l k = false by rw [hat]; simp [HA.out, HL.out, HR2.out])
              clear hat
              go_wp2_with fail
              refine wp_region_steady (by kernel_rfl) (by kernel_rfl) ?_
              repeat (first | (refine wpSteady_skip rfl ?_; intro K hK; go_simp; refine hK _ ?_; clear hK K) | (refine wpSteady_value ?_ rfl ?_ ?_; rotate_left; (focus (intro w2 hw2; obtain ⟨k0, k1, k2, j0, j1⟩ := HK.out w2 hw2; go_simp; rfl)); intro K hK; go_simp; refine hK _ ?_; clear hK K))
              refine wpSteady_call 98 #[.agg #[.int .i64 l[k].Kind, .int .i64 l[k].Ch]] (.bool true) rfl (fun w2 hw2 => by go_simp) (fun w2 hw2 => (s_AccOk _ _ _).mono (fun e w3 hh => ⟨hh.1.trans (by rw [HA.out]), hh.2⟩)) ?_
              intro K hK; go_simp; refine hK _ ?_; clear hK K
              repeat (first | (refine wpSteady_skip rfl ?_; intro K hK; go_simp; refine hK _ ?_; clear hK K) | (refine wpSteady_value ?_ rfl ?_ ?_; rotate_left; (focus (intro w2 hw2; obtain ⟨k0, k1, k2, j0, j1⟩ := HK.out w2 hw2; go_simp; rfl)); intro K hK; go_simp; refine hK _ ?_; clear hK K))
              refine wpSteady_call 131 #[.agg #[.int .i64 l[j].Kind, .int .i64 l[j].Ch], .agg #[.int .i64 l[k].Kind, .int .i64 l[k].Ch]] (.bool true) rfl (fun w2 hw2 => by go_simp) (fun w2 hw2 => (s_l02Less _ _ _ _ _).mono (fun e w3 hh => ⟨hh.1.trans (by rw [HL.out]), hh.2⟩)) ?_
              intro K hK; go_simp; refine hK _ ?_; clear hK K
              repeat (first | (refine wpSteady_skip rfl ?_; intro K hK; go_simp; refine hK _ ?_; clear hK K) | (refine wpSteady_value ?_ rfl ?_ ?_; rotate_left; (focus (intro w2 hw2; obtain ⟨k0, k1, k2, j0, j1⟩ := HK.out w2 hw2; go_simp; rfl)); intro K hK; go_simp; refine hK _ ?_; clear hK K))
              refine wpSteady_call 132 #[.int .i64 l[k].Amt] (.bool false) rfl (fun w2 hw2 => by go_simp) (fun w2 hw2 => (s_l02Range _ _).mono (fun e w3 hh => ⟨hh.1.trans (by rw [HR2.out]), by rw [← hh.2]; exact Below.refl _ _⟩)) ?_
              intro K hK; go_simp; refine hK _ ?_; clear hK K
              repeat (first | (refine wpSteady_skip rfl ?_; intro K hK; go_simp; refine hK _ ?_; clear hK K) | (refine wpSteady_value ?_ rfl ?_ ?_; rotate_left; (focus (intro w2 hw2; obtain ⟨k0, k1, k2, j0, j1⟩ := HK.out w2 hw2; go_simp; rfl)); intro K hK; go_simp; refine hK _ ?_; clear hK K))
              refine wpSteady_nil ?_; intro w9 hb9
              clear HK
              go_wp2_with fail
              go_ret
              exact ⟨ret_bool (linesB_bad hlt HO.out).symm, by (first | ((repeat' first | (with_reducible (first | exact Below.refl _ _ | assumption | refine Below.setCell ?_ ?_ _ | refine Below.alloc ?_ ?_ _ | refine Below.drew ?_ | refine below_drewN ?_ _ | refine Below.trans ?_ (Below.mono (by assumption) ?_))) | omega | (simp; omega) | (simp; done)); done) | (repeat' first | exact Below.refl _ _ | assumption | refine Below.setCell ?_ (by first | omega | (simp; omega) | (simp; done)) _ | refine Below.alloc ?_ (by first | omega | (simp; omega) | (simp; done)) _ | refine Below.drew ?_ | refine below_drewN ?_ _ | refine Below.trans ?_ (Below.mono (by assumption) (by first | omega | (simp; omega) | (simp; done)))))⟩
            · -- range true
              have HR2 := Lib.hid hg
              clear hg
              cases hz : (l[k].Amt == 0)
              · -- zero false
                have HO := Lib.hid (show lineAt l k = true by rw [hat]; simp [HA.out, HL.out, HR2.out, hz])
                have hb := HO.out
                obtain ⟨_, _, m1, m2⟩ := lineAt_ok hlt hb
                clear hb hat
                go_wp2_with fail
                refine wp_region_steady (by kernel_rfl) (by kernel_rfl) ?_
                repeat (first | (refine wpSteady_skip rfl ?_; intro K hK; go_simp; refine hK _ ?_; clear hK K) | (refine wpSteady_value ?_ rfl ?_ ?_; rotate_left; (focus (intro w2 hw2; obtain ⟨k0, k1, k2, j0, j1⟩ := HK.out w2 hw2; go_simp; rfl)); intro K hK; go_simp; refine hK _ ?_; clear hK K))
                refine wpSteady_call 98 #[.agg #[.int .i64 l[k].Kind, .int .i64 l[k].Ch]] (.bool true) rfl (fun w2 hw2 => by go_simp) (fun w2 hw2 => (s_AccOk _ _ _).mono (fun e w3 hh => ⟨hh.1.trans (by rw [HA.out]), hh.2⟩)) ?_
                intro K hK; go_simp; refine hK _ ?_; clear hK K
                repeat (first | (refine wpSteady_skip rfl ?_; intro K hK; go_simp; refine hK _ ?_; clear hK K) | (refine wpSteady_value ?_ rfl ?_ ?_; rotate_left; (focus (intro w2 hw2; obtain ⟨k0, k1, k2, j0, j1⟩ := HK.out w2 hw2; go_simp; rfl)); intro K hK; go_simp; refine hK _ ?_; clear hK K))
                refine wpSteady_call 131 #[.agg #[.int .i64 l[j].Kind, .int .i64 l[j].Ch], .agg #[.int .i64 l[k].Kind, .int .i64 l[k].Ch]] (.bool true) rfl (fun w2 hw2 => by go_simp) (fun w2 hw2 => (s_l02Less _ _ _ _ _).mono (fun e w3 hh => ⟨hh.1.trans (by rw [HL.out]), hh.2⟩)) ?_
                intro K hK; go_simp; refine hK _ ?_; clear hK K
                repeat (first | (refine wpSteady_skip rfl ?_; intro K hK; go_simp; refine hK _ ?_; clear hK K) | (refine wpSteady_value ?_ rfl ?_ ?_; rotate_left; (focus (intro w2 hw2; obtain ⟨k0, k1, k2, j0, j1⟩ := HK.out w2 hw2; go_simp; rfl)); intro K hK; go_simp; refine hK _ ?_; clear hK K))
                refine wpSteady_call 132 #[.int .i64 l[k].Amt] (.bool true) rfl (fun w2 hw2 => by go_simp) (fun w2 hw2 => (s_l02Range _ _).mono (fun e w3 hh => ⟨hh.1.trans (by rw [HR2.out]), by rw [← hh.2]; exact Below.refl _ _⟩)) ?_
                intro K hK; go_simp; refine hK _ ?_; clear hK K
                repeat (first | (refine wpSteady_skip rfl ?_; intro K hK; go_simp; refine hK _ ?_; clear hK K) | (refine wpSteady_value ?_ rfl ?_ ?_; rotate_left; (focus (intro w2 hw2; obtain ⟨k0, k1, k2, j0, j1⟩ := HK.out w2 hw2; go_simp; rfl)); intro K hK; go_simp; refine hK _ ?_; clear hK K))
                refine wpSteady_nil ?_; intro w9 hb9
                obtain ⟨g0, g1, g2⟩ := KQ.out w9 hb9
                clear HK
                go_wp2_with fail
                go_roundw
                case rel => exact ⟨k + 1, _, by omega, by go_num, rfl, Lib.hid (by rw [allTo_succ, HALL.out, HO.out]; rfl), Lib.hid (by rw [lineSum_succ l hlt, HS.out]), by omega, by (first | ((repeat' first | (with_reducible (first | exact Below.refl _ _ | assumption | refine Below.setCell ?_ ?_ _ | refine Below.alloc ?_ ?_ _ | refine Below.drew ?_ | refine below_drewN ?_ _ | refine Below.trans ?_ (Below.mono (by assumption) ?_))) | omega | (simp; omega) | (simp; done)); done) | (repeat' first | exact Below.refl _ _ | assumption | refine Below.setCell ?_ (by first | omega | (simp; omega) | (simp; done)) _ | refine Below.alloc ?_ (by first | omega | (simp; omega) | (simp; done)) _ | refine Below.drew ?_ | refine below_drewN ?_ _ | refine Below.trans ?_ (Below.mono (by assumption) (by first | omega | (simp; omega) | (simp; done)))))⟩
                case measure => simp [intOf]; omega
              · -- zero true
                have HO := Lib.hid (show lineAt l k = false by rw [hat]; simp [HA.out, HL.out, HR2.out, hz])
                clear hat
                go_wp2_with fail
                refine wp_region_steady (by kernel_rfl) (by kernel_rfl) ?_
                repeat (first | (refine wpSteady_skip rfl ?_; intro K hK; go_simp; refine hK _ ?_; clear hK K) | (refine wpSteady_value ?_ rfl ?_ ?_; rotate_left; (focus (intro w2 hw2; obtain ⟨k0, k1, k2, j0, j1⟩ := HK.out w2 hw2; go_simp; rfl)); intro K hK; go_simp; refine hK _ ?_; clear hK K))
                refine wpSteady_call 98 #[.agg #[.int .i64 l[k].Kind, .int .i64 l[k].Ch]] (.bool true) rfl (fun w2 hw2 => by go_simp) (fun w2 hw2 => (s_AccOk _ _ _).mono (fun e w3 hh => ⟨hh.1.trans (by rw [HA.out]), hh.2⟩)) ?_
                intro K hK; go_simp; refine hK _ ?_; clear hK K
                repeat (first | (refine wpSteady_skip rfl ?_; intro K hK; go_simp; refine hK _ ?_; clear hK K) | (refine wpSteady_value ?_ rfl ?_ ?_; rotate_left; (focus (intro w2 hw2; obtain ⟨k0, k1, k2, j0, j1⟩ := HK.out w2 hw2; go_simp; rfl)); intro K hK; go_simp; refine hK _ ?_; clear hK K))
                refine wpSteady_call 131 #[.agg #[.int .i64 l[j].Kind, .int .i64 l[j].Ch], .agg #[.int .i64 l[k].Kind, .int .i64 l[k].Ch]] (.bool true) rfl (fun w2 hw2 => by go_simp) (fun w2 hw2 => (s_l02Less _ _ _ _ _).mono (fun e w3 hh => ⟨hh.1.trans (by rw [HL.out]), hh.2⟩)) ?_
                intro K hK; go_simp; refine hK _ ?_; clear hK K
                repeat (first | (refine wpSteady_skip rfl ?_; intro K hK; go_simp; refine hK _ ?_; clear hK K) | (refine wpSteady_value ?_ rfl ?_ ?_; rotate_left; (focus (intro w2 hw2; obtain ⟨k0, k1, k2, j0, j1⟩ := HK.out w2 hw2; go_simp; rfl)); intro K hK; go_simp; refine hK _ ?_; clear hK K))
                refine wpSteady_call 132 #[.int .i64 l[k].Amt] (.bool true) rfl (fun w2 hw2 => by go_simp) (fun w2 hw2 => (s_l02Range _ _).mono (fun e w3 hh => ⟨hh.1.trans (by rw [HR2.out]), by rw [← hh.2]; exact Below.refl _ _⟩)) ?_
                intro K hK; go_simp; refine hK _ ?_; clear hK K
                repeat (first | (refine wpSteady_skip rfl ?_; intro K hK; go_simp; refine hK _ ?_; clear hK K) | (refine wpSteady_value ?_ rfl ?_ ?_; rotate_left; (focus (intro w2 hw2; obtain ⟨k0, k1, k2, j0, j1⟩ := HK.out w2 hw2; go_simp; rfl)); intro K hK; go_simp; refine hK _ ?_; clear hK K))
                refine wpSteady_nil ?_; intro w9 hb9
                clear HK
                go_wp2_with fail
                go_ret
                exact ⟨ret_bool (linesB_bad hlt HO.out).symm, by (first | ((repeat' first | (with_reducible (first | exact Below.refl _ _ | assumption | refine Below.setCell ?_ ?_ _ | refine Below.alloc ?_ ?_ _ | refine Below.drew ?_ | refine below_drewN ?_ _ | refine Below.trans ?_ (Below.mono (by assumption) ?_))) | omega | (simp; omega) | (simp; done)); done) | (repeat' first | exact Below.refl _ _ | assumption | refine Below.setCell ?_ (by first | omega | (simp; omega) | (simp; done)) _ | refine Below.alloc ?_ (by first | omega | (simp; omega) | (simp; done)) _ | refine Below.drew ?_ | refine below_drewN ?_ _ | refine Below.trans ?_ (Below.mono (by assumption) (by first | omega | (simp; omega) | (simp; done)))))⟩
    · obtain rfl : k = l.length := by omega
      have hs := HS.out
      rw [List.take_length] at hs
      cases hz : (z == 0)
      · have HE := Lib.hid (show linesB l = false by unfold linesB; rw [HALL.out, hs]; exact hz)
        clear hs
        go_wp2_with fail
        go_ret
        exact ⟨ret_bool HE.out.symm, by (first | ((repeat' first | (with_reducible (first | exact Below.refl _ _ | assumption | refine Below.setCell ?_ ?_ _ | refine Below.alloc ?_ ?_ _ | refine Below.drew ?_ | refine below_drewN ?_ _ | refine Below.trans ?_ (Below.mono (by assumption) ?_))) | omega | (simp; omega) | (simp; done)); done) | (repeat' first | exact Below.refl _ _ | assumption | refine Below.setCell ?_ (by first | omega | (simp; omega) | (simp; done)) _ | refine Below.alloc ?_ (by first | omega | (simp; omega) | (simp; done)) _ | refine Below.drew ?_ | refine below_drewN ?_ _ | refine Below.trans ?_ (Below.mono (by assumption) (by first | omega | (simp; omega) | (simp; done)))))⟩
      · have HE := Lib.hid (show linesB l = true by unfold linesB; rw [HALL.out, hs]; exact hz)
        clear hs
        go_wp2_with fail
        go_ret
        exact ⟨ret_bool HE.out.symm, by (first | ((repeat' first | (with_reducible (first | exact Below.refl _ _ | assumption | refine Below.setCell ?_ ?_ _ | refine Below.alloc ?_ ?_ _ | refine Below.drew ?_ | refine below_drewN ?_ _ | refine Below.trans ?_ (Below.mono (by assumption) ?_))) | omega | (simp; omega) | (simp; done)); done) | (repeat' first | exact Below.refl _ _ | assumption | refine Below.setCell ?_ (by first | omega | (simp; omega) | (simp; done)) _ | refine Below.alloc ?_ (by first | omega | (simp; omega) | (simp; done)) _ | refine Below.drew ?_ | refine below_drewN ?_ _ | refine Below.trans ?_ (Below.mono (by assumption) (by first | omega | (simp; omega) | (simp; done)))))⟩
end Go.Proofs.YtgpledgjpjifcaaGreatDoor
