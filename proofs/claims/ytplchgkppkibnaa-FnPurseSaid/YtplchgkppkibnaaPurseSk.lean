/- Purses: the walk of the reference's PurseOk. -/
import Derived.Test.YtplchgkppkibnaaRows
import Derived.Test.YtplchgkppkibnaaPurseS
namespace Go.Proofs.Ytplchgkppkibnaa
open Go.RowKit

set_option maxHeartbeats 4000000 in
theorem s_PurseOk (c s : Int) (l : List Coin) (A : Option Addr) (cap : Nat) (w : World) (hl : l.length ≤ 1048576) (hr : Rd w w.heap.size 2 A (l.map Coin.cells)) :
    Calls Try.prog 111 #[.agg #[.int .i64 c, .int .i64 s, .slice A l.length cap]] w fun e w' => e = .returned (.bool (purseOk c s l)) ∧ Below w.heap.size w w' := by
  have HR := Lib.hid hr
  clear hr
  cases hform : purseForm c s l
  · go_enter Try.func111, Try.ntmps111
    go_wp2_with fail
    refine (s_l23Form c s l A cap _ hl ((HR.out.below (by (first | ((repeat' first | (with_reducible (first | exact Below.refl _ _ | assumption | refine Below.setCell ?_ ?_ _ | refine Below.alloc ?_ ?_ _ | refine Below.drew ?_ | refine below_drewN ?_ _ | refine Below.trans ?_ (Below.mono (by assumption) ?_))) | omega | (simp; omega) | (simp; done)); done) | (repeat' first | exact Below.refl _ _ | assumption | refine Below.setCell ?_ (by first | omega | (simp; omega) | (simp; done)) _ | refine Below.alloc ?_ (by first | omega | (simp; omega) | (simp; done)) _ | refine Below.drew ?_ | refine below_drewN ?_ _ | refine Below.trans ?_ (Below.mono (by assumption) (by first | omega | (simp; omega) | (simp; done))))))).more (by simp))).mono ?_
    rintro e w1 ⟨rfl, hb1⟩
    have z1 := hb1.size
    try simp at z1
    rw [hform]
    go_wp2_with fail
    go_ret
    exact ⟨ret_bool (by simp [purseOk, hform]), by (first | ((repeat' first | (with_reducible (first | exact Below.refl _ _ | assumption | refine Below.setCell ?_ ?_ _ | refine Below.alloc ?_ ?_ _ | refine Below.drew ?_ | refine below_drewN ?_ _ | refine Below.trans ?_ (Below.mono (by assumption) ?_))) | omega | (simp; omega) | (simp; done)); done) | (repeat' first | exact Below.refl _ _ | assumption | refine Below.setCell ?_ (by first | omega | (simp; omega) | (simp; done)) _ | refine Below.alloc ?_ (by first | omega | (simp; omega) | (simp; done)) _ | refine Below.drew ?_ | refine below_drewN ?_ _ | refine Below.trans ?_ (Below.mono (by assumption) (by first | omega | (simp; omega) | (simp; done)))))⟩
  · obtain ⟨hok, ⟨q1, q2⟩, q3, q4⟩ := purseForm_iff.1 hform
    have h40 := hok.2
    have HOK := Lib.hid hok
    have HF := Lib.hid hform
    clear hok hform
    go_enter Try.func111, Try.ntmps111
    go_wp2_with fail
    refine (s_l23Form c s l A cap _ hl ((HR.out.below (by (first | ((repeat' first | (with_reducible (first | exact Below.refl _ _ | assumption | refine Below.setCell ?_ ?_ _ | refine Below.alloc ?_ ?_ _ | refine Below.drew ?_ | refine below_drewN ?_ _ | refine Below.trans ?_ (Below.mono (by assumption) ?_))) | omega | (simp; omega) | (simp; done)); done) | (repeat' first | exact Below.refl _ _ | assumption | refine Below.setCell ?_ (by first | omega | (simp; omega) | (simp; done)) _ | refine Below.alloc ?_ (by first | omega | (simp; omega) | (simp; done)) _ | refine Below.drew ?_ | refine below_drewN ?_ _ | refine Below.trans ?_ (Below.mono (by assumption) (by first | omega | (simp; omega) | (simp; done))))))).more (by simp))).mono ?_
    rintro e w1 ⟨rfl, hb1⟩
    have z1 := hb1.size
    try simp at z1
    rw [HF.out]
    obtain ⟨kh, k0, k1, k2, kf, kz⟩ := own3 (g := w.heap.size) hb1 (by first | omega | (simp; omega) | (simp; done)) (by (first | ((repeat' first | (with_reducible (first | assumption | (refine heap_at ?_; (first | rfl | (simp; done))) | refine heap_drew ?_ | refine heap_drewN ?_ | refine heap_past ?_ ?_ | refine heap_far ?_ ?_)) | (simp; done) | (simp; omega)); done) | (repeat' first | assumption | (refine heap_at ?_; (simp; done)) | refine heap_drew ?_ | refine heap_drewN ?_ | (refine heap_past ?_ ?_ <;> try (simp; done)) | (refine heap_far ?_ ?_ <;> try (simp; done)))))
    have KH0 := Lib.hid kh
    clear kh
    go_wp2_with fail
    go_loopw [14] (fun i wr => ∃ k : Nat, k ≤ l.length ∧ i = .int .i64 k ∧ (l.take k).all (fun x => decide (counted s x.At l ≤ c)) = true ∧ wr.heap[w.heap.size]? = some (.cells #[.int .i64 c, .int .i64 s, .slice A l.length cap] 59 (0, 0)) ∧ Below w.heap.size w wr) (fun i _ => l.length - (intOf i).toNat)
    case atStart => exact ⟨0, Nat.zero_le _, rfl, rfl, KH0.out, by (first | ((repeat' first | (with_reducible (first | exact Below.refl _ _ | assumption | refine Below.setCell ?_ ?_ _ | refine Below.alloc ?_ ?_ _ | refine Below.drew ?_ | refine below_drewN ?_ _ | refine Below.trans ?_ (Below.mono (by assumption) ?_))) | omega | (simp; omega) | (simp; done)); done) | (repeat' first | exact Below.refl _ _ | assumption | refine Below.setCell ?_ (by first | omega | (simp; omega) | (simp; done)) _ | refine Below.alloc ?_ (by first | omega | (simp; omega) | (simp; done)) _ | refine Below.drew ?_ | refine below_drewN ?_ _ | refine Below.trans ?_ (Below.mono (by assumption) (by first | omega | (simp; omega) | (simp; done)))))⟩
    case round =>
      clear k0 k1 k2 kf kz
      obtain ⟨k, hk, rfl, hall, hcells, hbw⟩ := hrel
      have hbz := hbw.size
      obtain ⟨kh, k0, k1, k2, kf, kz⟩ := own3 (Below.refl wr.heap.size wr) (Array.getElem?_eq_some_iff.1 hcells).1 hcells
      have HA := Lib.hid hall
      clear hall hcells
      by_cases hlt : k < l.length
      · obtain ⟨b, off, rfl, hbB, c0, c1⟩ := Coin.rd (HR.out.below hbw) hlt
        have hbr : b < wr.heap.size := by omega
        obtain ⟨⟨m1, m2⟩, m3, m4⟩ := HOK.out.at_ hlt
        have KH := Lib.hid kh
        clear kh
        go_wp2_with fail
        obtain ⟨wq, rfl⟩ : ∃ wq : World, wq = wr := ⟨_, rfl⟩
        obtain ⟨wo, hwo⟩ : ∃ wo : World, wo = wq.alloc (.cells #[.int .i64 l[k].At, .int .i64 l[k].Amt] 108) := ⟨_, rfl⟩
        rw [← hwo]
        have hbo : Below w.heap.size w wo := by rw [hwo]; (first | ((repeat' first | (with_reducible (first | exact Below.refl _ _ | assumption | refine Below.setCell ?_ ?_ _ | refine Below.alloc ?_ ?_ _ | refine Below.drew ?_ | refine below_drewN ?_ _ | refine Below.trans ?_ (Below.mono (by assumption) ?_))) | omega | (simp; omega) | (simp; done)); done) | (repeat' first | exact Below.refl _ _ | assumption | refine Below.setCell ?_ (by first | omega | (simp; omega) | (simp; done)) _ | refine Below.alloc ?_ (by first | omega | (simp; omega) | (simp; done)) _ | refine Below.drew ?_ | refine below_drewN ?_ _ | refine Below.trans ?_ (Below.mono (by assumption) (by first | omega | (simp; omega) | (simp; done)))))
        have hoz : wq.heap.size < wo.heap.size := by rw [hwo]; simp
        have n1 : wo.heap[w.heap.size]? = some (.cells #[.int .i64 c, .int .i64 s, .slice (some ⟨b, off, none⟩) l.length cap] 59 (0, 0)) := by rw [hwo]; exact heap_past kz KH.out
        have n2 : wo.heap[wq.heap.size]? = some (.cells #[.int .i64 l[k].At, .int .i64 l[k].Amt] 108 (0, 0)) := by rw [hwo]; exact heap_at rfl
        have N1 := Lib.hid n1
        have N2 := Lib.hid n2
        clear hwo n1 n2 k0 k1 k2 kf KH c0 c1
        go_loopw [5, 21] (fun n i wr => ∃ j : Nat, j ≤ l.length ∧ i = .int .i64 j ∧ n = .int .i64 (counted s l[k].At (l.take j)) ∧ wr.heap[w.heap.size]? = some (.cells #[.int .i64 c, .int .i64 s, .slice (some ⟨b, off, none⟩) l.length cap] 59 (0, 0)) ∧ wr.heap[wq.heap.size]? = some (.cells #[.int .i64 l[k].At, .int .i64 l[k].Amt] 108 (0, 0)) ∧ Below w.heap.size w wr) (fun _ i _ => l.length - (intOf i).toNat)
        case atStart => exact ⟨0, Nat.zero_le _, rfl, rfl, N1.out, N2.out, hbo⟩
        case round =>
          clear hoz
          obtain ⟨j, hj, rfl, rfl, hcells, hcoin, hbi⟩ := hrel
          have hiz := hbi.size
          obtain ⟨kh, k0, k1, k2, kf, kz⟩ := own3 (Below.refl wr.heap.size wr) (Array.getElem?_eq_some_iff.1 hcells).1 hcells
          obtain ⟨jh, j0, j1, jf, jz⟩ := own2 (Below.refl wr.heap.size wr) (Array.getElem?_eq_some_iff.1 hcoin).1 hcoin
          obtain ⟨g1, g2⟩ := counted_bd s l[k].At HOK.out j
          clear hcells hcoin
          by_cases hjl : j < l.length
          · obtain ⟨b', off', e', _, c0, c1⟩ := Coin.rd (HR.out.below hbi) hjl
            simp only [Option.some.injEq, Addr.mk.injEq, and_true] at e'
            obtain ⟨rfl, rfl⟩ := e'
            have hbr' : b < wr.heap.size := by omega
            obtain ⟨⟨v1, v2⟩, v3, v4⟩ := HOK.out.at_ hjl
            have HS := Lib.hid (counted_succ s l[k].At l hjl)
            cases hD : counts s l[k].At ⟨l[j].At, l[j].Amt⟩
            all_goals
              go_wp2_with fail
              refine (s_l23Counts c s l[j].At l[j].Amt l[k].At _ _ _ _ ⟨q3, q4⟩ ⟨v1, v2⟩).mono ?_
              rintro e w2 ⟨rfl, hb2⟩
              have z2 := hb2.size
              try simp at z2
              rw [hD]
              obtain ⟨ph, p0, p1, p2, pf, pz⟩ := own3 (g := w.heap.size) hb2 (by first | omega | (simp; omega) | (simp; done)) (by (first | ((repeat' first | (with_reducible (first | assumption | (refine heap_at ?_; (first | rfl | (simp; done))) | refine heap_drew ?_ | refine heap_drewN ?_ | refine heap_past ?_ ?_ | refine heap_far ?_ ?_)) | (simp; done) | (simp; omega)); done) | (repeat' first | assumption | (refine heap_at ?_; (simp; done)) | refine heap_drew ?_ | refine heap_drewN ?_ | (refine heap_past ?_ ?_ <;> try (simp; done)) | (refine heap_far ?_ ?_ <;> try (simp; done)))))
              obtain ⟨oh, o0, o1, of, oz⟩ := own2 (g := wq.heap.size) hb2 (by first | omega | (simp; omega) | (simp; done)) (by (first | ((repeat' first | (with_reducible (first | assumption | (refine heap_at ?_; (first | rfl | (simp; done))) | refine heap_drew ?_ | refine heap_drewN ?_ | refine heap_past ?_ ?_ | refine heap_far ?_ ?_)) | (simp; done) | (simp; omega)); done) | (repeat' first | assumption | (refine heap_at ?_; (simp; done)) | refine heap_drew ?_ | refine heap_drewN ?_ | (refine heap_past ?_ ?_ <;> try (simp; done)) | (refine heap_far ?_ ?_ <;> try (simp; done)))))
              obtain ⟨qh, q0, q1, qf, qz⟩ := own2 (g := wr.heap.size) hb2 (by first | omega | (simp; omega) | (simp; done)) (by (first | ((repeat' first | (with_reducible (first | assumption | (refine heap_at ?_; (first | rfl | (simp; done))) | refine heap_drew ?_ | refine heap_drewN ?_ | refine heap_past ?_ ?_ | refine heap_far ?_ ?_)) | (simp; done) | (simp; omega)); done) | (repeat' first | assumption | (refine heap_at ?_; (simp; done)) | refine heap_drew ?_ | refine heap_drewN ?_ | (refine heap_past ?_ ?_ <;> try (simp; done)) | (refine heap_far ?_ ?_ <;> try (simp; done)))))
              go_wp2_with fail
              go_roundw
              case rel => exact ⟨j + 1, by omega, by go_num, by rw [HS.out, countedF_counts, show counts s l[k].At l[j] = _ from hD]; simp, ph, oh, by (first | ((repeat' first | (with_reducible (first | exact Below.refl _ _ | assumption | refine Below.setCell ?_ ?_ _ | refine Below.alloc ?_ ?_ _ | refine Below.drew ?_ | refine below_drewN ?_ _ | refine Below.trans ?_ (Below.mono (by assumption) ?_))) | omega | (simp; omega) | (simp; done)); done) | (repeat' first | exact Below.refl _ _ | assumption | refine Below.setCell ?_ (by first | omega | (simp; omega) | (simp; done)) _ | refine Below.alloc ?_ (by first | omega | (simp; omega) | (simp; done)) _ | refine Below.drew ?_ | refine below_drewN ?_ _ | refine Below.trans ?_ (Below.mono (by assumption) (by first | omega | (simp; omega) | (simp; done)))))⟩
              case measure => simp [intOf]; omega
          · obtain rfl : j = l.length := by omega
            have e : counted s l[k].At (l.take l.length) = counted s l[k].At l := by rw [List.take_length]
            rw [e] at g1 g2
            have E := Lib.hid e
            clear e
            have KH := Lib.hid kh
            cases hD : decide (c < counted s l[k].At l)
            all_goals
              go_wp2_with fail
            · go_roundw
              case rel => exact ⟨k + 1, by omega, by go_num, by rw [all_take_succ l _ hlt, HA.out]; simp at hD ⊢; exact hD, KH.out, by (first | ((repeat' first | (with_reducible (first | exact Below.refl _ _ | assumption | refine Below.setCell ?_ ?_ _ | refine Below.alloc ?_ ?_ _ | refine Below.drew ?_ | refine below_drewN ?_ _ | refine Below.trans ?_ (Below.mono (by assumption) ?_))) | omega | (simp; omega) | (simp; done)); done) | (repeat' first | exact Below.refl _ _ | assumption | refine Below.setCell ?_ (by first | omega | (simp; omega) | (simp; done)) _ | refine Below.alloc ?_ (by first | omega | (simp; omega) | (simp; done)) _ | refine Below.drew ?_ | refine below_drewN ?_ _ | refine Below.trans ?_ (Below.mono (by assumption) (by first | omega | (simp; omega) | (simp; done)))))⟩
              case measure => simp [intOf]; omega
            · go_ret
              exact ⟨ret_bool (by rw [purseOk, all_false l _ hlt (by simp at hD ⊢; exact hD), Bool.and_false]), by (first | ((repeat' first | (with_reducible (first | exact Below.refl _ _ | assumption | refine Below.setCell ?_ ?_ _ | refine Below.alloc ?_ ?_ _ | refine Below.drew ?_ | refine below_drewN ?_ _ | refine Below.trans ?_ (Below.mono (by assumption) ?_))) | omega | (simp; omega) | (simp; done)); done) | (repeat' first | exact Below.refl _ _ | assumption | refine Below.setCell ?_ (by first | omega | (simp; omega) | (simp; done)) _ | refine Below.alloc ?_ (by first | omega | (simp; omega) | (simp; done)) _ | refine Below.drew ?_ | refine below_drewN ?_ _ | refine Below.trans ?_ (Below.mono (by assumption) (by first | omega | (simp; omega) | (simp; done)))))⟩
      · obtain rfl : k = l.length := by omega
        go_wp2
        go_ret
        exact ⟨ret_bool (by have := HA.out; rw [List.take_length] at this; simp only [purseOk, HF.out, this]; rfl), by (first | ((repeat' first | (with_reducible (first | exact Below.refl _ _ | assumption | refine Below.setCell ?_ ?_ _ | refine Below.alloc ?_ ?_ _ | refine Below.drew ?_ | refine below_drewN ?_ _ | refine Below.trans ?_ (Below.mono (by assumption) ?_))) | omega | (simp; omega) | (simp; done)); done) | (repeat' first | exact Below.refl _ _ | assumption | refine Below.setCell ?_ (by first | omega | (simp; omega) | (simp; done)) _ | refine Below.alloc ?_ (by first | omega | (simp; omega) | (simp; done)) _ | refine Below.drew ?_ | refine below_drewN ?_ _ | refine Below.trans ?_ (Below.mono (by assumption) (by first | omega | (simp; omega) | (simp; done)))))⟩
end Go.Proofs.Ytplchgkppkibnaa
