/- LedgerText and PostingText: the walks. -/
import Derived.Test.YtgpledgjpjifcaaDoorRows
import Derived.Test.YtgpledgjpjifcaaDoorStrs
import Derived.Test.YtgpledgjpjifcaaDoorLedgerF
import Derived.Test.YtgpledgjpjifcaaDoorApp
import Derived.Deep.RegionHeld3
namespace Go.Proofs.YtgpledgjpjifcaaDoor
open Go.RowKit

set_option maxRecDepth 100000 in
set_option maxHeartbeats 2000000 in
theorem s_LedgerText (z : Int) (l : List Line) (A : Option Addr) (cap : Nat) (w : World) (hl : l.length ≤ 1048576) (hr : Rd w w.heap.size 3 A (l.map Line.cells)) :
    Calls Tryd.prog 15 #[.agg #[.int .i64 z, .slice A l.length cap]] w fun e w' => e = .returned (.string ⟨(ledgerL z l).toArray⟩) ∧ Below w.heap.size w w' := by
  have HR := Lib.hid hr
  clear hr
  cases hB : ledgerB z l
  · have HE := Lib.hid (show ledgerL z l = [] by unfold ledgerL; rw [hB]; rfl)
    have HB := Lib.hid hB
    clear hB
    go_enter Tryd.func15, Tryd.ntmps15
    go_wp2_with fail
    refine (s_LedgerOk z l _ _ _ hl ((HR.out.below (by (first | ((repeat' first | (with_reducible (first | exact Below.refl _ _ | assumption | refine Below.setCell ?_ ?_ _ | refine Below.alloc ?_ ?_ _ | refine Below.drew ?_ | refine below_drewN ?_ _ | refine Below.trans ?_ (Below.mono (by assumption) ?_))) | omega | (simp; omega) | (simp; done)); done) | (repeat' first | exact Below.refl _ _ | assumption | refine Below.setCell ?_ (by first | omega | (simp; omega) | (simp; done)) _ | refine Below.alloc ?_ (by first | omega | (simp; omega) | (simp; done)) _ | refine Below.drew ?_ | refine below_drewN ?_ _ | refine Below.trans ?_ (Below.mono (by assumption) (by first | omega | (simp; omega) | (simp; done))))))).more (by first | omega | (simp; omega) | (simp; done)))).mono ?_
    rintro e w1 ⟨rfl, hb1⟩
    have z1 := hb1.size
    try simp at z1
    rw [HB.out]
    go_wp2_with fail
    go_ret
    exact ⟨by rw [HE.out]; rfl, by (first | ((repeat' first | (with_reducible (first | exact Below.refl _ _ | assumption | refine Below.setCell ?_ ?_ _ | refine Below.alloc ?_ ?_ _ | refine Below.drew ?_ | refine below_drewN ?_ _ | refine Below.trans ?_ (Below.mono (by assumption) ?_))) | omega | (simp; omega) | (simp; done)); done) | (repeat' first | exact Below.refl _ _ | assumption | refine Below.setCell ?_ (by first | omega | (simp; omega) | (simp; done)) _ | refine Below.alloc ?_ (by first | omega | (simp; omega) | (simp; done)) _ | refine Below.drew ?_ | refine below_drewN ?_ _ | refine Below.trans ?_ (Below.mono (by assumption) (by first | omega | (simp; omega) | (simp; done)))))⟩
  · have HE := Lib.hid (show ledgerL z l = ledTo z l by unfold ledgerL; rw [hB]; rfl)
    have HB := Lib.hid hB
    have hl3 : l.length ≤ 320 := by have := ledgerB_iff.1 hB; omega
    clear hB
    go_enter Tryd.func15, Tryd.ntmps15
    go_wp2_with fail
    refine (s_LedgerOk z l _ _ _ hl ((HR.out.below (by (first | ((repeat' first | (with_reducible (first | exact Below.refl _ _ | assumption | refine Below.setCell ?_ ?_ _ | refine Below.alloc ?_ ?_ _ | refine Below.drew ?_ | refine below_drewN ?_ _ | refine Below.trans ?_ (Below.mono (by assumption) ?_))) | omega | (simp; omega) | (simp; done)); done) | (repeat' first | exact Below.refl _ _ | assumption | refine Below.setCell ?_ (by first | omega | (simp; omega) | (simp; done)) _ | refine Below.alloc ?_ (by first | omega | (simp; omega) | (simp; done)) _ | refine Below.drew ?_ | refine below_drewN ?_ _ | refine Below.trans ?_ (Below.mono (by assumption) (by first | omega | (simp; omega) | (simp; done))))))).more (by first | omega | (simp; omega) | (simp; done)))).mono ?_
    rintro e w1 ⟨rfl, hb1⟩
    have z1 := hb1.size
    try simp at z1
    rw [HB.out]
    obtain ⟨eh, e0, e1, ef, ez⟩ := own2 (g := w.heap.size) hb1 (by first | omega | (simp; omega) | (simp; done)) (by (first | ((repeat' first | (with_reducible (first | assumption | (refine heap_at ?_; (first | rfl | (simp; done))) | refine heap_drew ?_ | refine heap_drewN ?_ | refine heap_past ?_ ?_ | refine heap_far ?_ ?_)) | (simp; done) | (simp; omega)); done) | (repeat' first | assumption | (refine heap_at ?_; (simp; done)) | refine heap_drew ?_ | refine heap_drewN ?_ | (refine heap_past ?_ ?_ <;> try (simp; done)) | (refine heap_far ?_ ?_ <;> try (simp; done)))))
    go_wp2_with fail
    refine (s_NumText _ _).mono ?_
    rintro e w2 ⟨rfl, hb2⟩
    have z2 := hb2.size
    (try simp at z2)
    obtain ⟨s0, hs0', hs0⟩ := str_of (numL z)
    rw [hs0']
    clear hs0'
    obtain ⟨fh, f0, f1, ff, fz⟩ := own2 (g := w.heap.size) hb2 (by first | omega | (simp; omega) | (simp; done)) (by (first | ((repeat' first | (with_reducible (first | assumption | (refine heap_at ?_; (first | rfl | (simp; done))) | refine heap_drew ?_ | refine heap_drewN ?_ | refine heap_past ?_ ?_ | refine heap_far ?_ ?_)) | (simp; done) | (simp; omega)); done) | (repeat' first | assumption | (refine heap_at ?_; (simp; done)) | refine heap_drew ?_ | refine heap_drewN ?_ | (refine heap_past ?_ ?_ <;> try (simp; done)) | (refine heap_far ?_ ?_ <;> try (simp; done)))))
    obtain ⟨t0, ht0, hadd0⟩ := str_add (str_lit (l := [108, 101, 100, 103, 101, 114, 32]) (s := ⟨#[108, 101, 100, 103, 101, 114, 32]⟩) rfl) hs0.out (by have := numL_len z; simp; omega)
    obtain ⟨t1, ht1, hadd1⟩ := str_add ht0.out (str_lit (l := [10]) rfl) (by have := numL_len z; simp; omega)
    have HS := Lib.hid (show Str (ledTo z (l.take 0)) t1 from by
      have h := ht1.out
      unfold Str at h ⊢
      rw [h]
      simp [ledTo, ledHead])
    have hbB : Below w.heap.size w w2 := by (first | ((repeat' first | (with_reducible (first | exact Below.refl _ _ | assumption | refine Below.setCell ?_ ?_ _ | refine Below.alloc ?_ ?_ _ | refine Below.drew ?_ | refine below_drewN ?_ _ | refine Below.trans ?_ (Below.mono (by assumption) ?_))) | omega | (simp; omega) | (simp; done)); done) | (repeat' first | exact Below.refl _ _ | assumption | refine Below.setCell ?_ (by first | omega | (simp; omega) | (simp; done)) _ | refine Below.alloc ?_ (by first | omega | (simp; omega) | (simp; done)) _ | refine Below.drew ?_ | refine below_drewN ?_ _ | refine Below.trans ?_ (Below.mono (by assumption) (by first | omega | (simp; omega) | (simp; done)))))
    clear hb1 hb2
    go_wp2_with fail
    clear eh e0 e1 ef ez fh f0 f1 ff fz
    go_loopw [3, 17] (fun v i wr => ∃ (k : Nat) (S : ByteArray), k ≤ l.length ∧ i = .int .i64 k ∧ v = .string S ∧ Hid (Str (ledTo z (l.take k)) S) ∧ Below w.heap.size w wr) (fun _ i _ => l.length - (intOf i).toNat)
    case atStart => exact ⟨0, _, Nat.zero_le _, rfl, rfl, HS, hbB⟩
    case round =>
      clear HS hbB
      obtain ⟨k, S, hk, rfl, rfl, hS, hbw⟩ := hrel
      have hbz := hbw.size
      by_cases hlt : k < l.length
      · obtain ⟨b, off, rfl, hbB, c0, c1, c2⟩ := Line.rd (HR.out.below hbw) hlt
        have HK := Lib.hid (ledTo_succ z l hlt)
        have hOl : (ledTo z (l.take k)).length ≤ 20000 := by
          have h1 := ledTo_len z (l.take k)
          have h2 : (l.take k).length ≤ 320 := by rw [List.length_take]; omega
          omega
        obtain ⟨O, hO⟩ : ∃ O, ledTo z (l.take k) = O := ⟨_, rfl⟩
        rw [hO] at HK hOl hS
        clear hO
        have h_n := numL_len l[k].Amt
        have h_a := accL_len l[k].Kind l[k].Ch
        obtain ⟨jh, j0, j1, j2, jf, jz⟩ := own3 (g := wr.heap.size) (Below.refl _ (wr.alloc (.cells #[.int .i64 l[k].Kind, .int .i64 l[k].Ch, .int .i64 l[k].Amt] 82))) (by simp) (heap_at rfl)
        go_wp2_with fail
        go_region_held3 (fun w' => w'.cell? ⟨wr.heap.size, 0, none⟩ = some (.int .i64 l[k].Kind) ∧ w'.cell? ⟨wr.heap.size, 1, none⟩ = some (.int .i64 l[k].Ch) ∧ w'.cell? ⟨wr.heap.size, 2, none⟩ = some (.int .i64 l[k].Amt))
          (first | exact ⟨j0, j1, j2⟩ | exact ⟨a0, a1, a2⟩ | exact ⟨b0, b1, b2⟩)
          (first
            | (go_at_call 48; refine (s_AccText _ _ _).mono ?_; rintro e wa ⟨rfl, hba⟩; have za := hba.size; (try simp at za); obtain ⟨sa, hsa', hsa⟩ := str_of (accL l[k].Kind l[k].Ch); rw [hsa']; clear hsa'; obtain ⟨ah, a0, a1, a2, af, az⟩ := own3 (g := wr.heap.size) hba (by first | omega | (simp; omega) | (simp; done)) (by (first | ((repeat' first | (with_reducible (first | assumption | (refine heap_at ?_; (first | rfl | (simp; done))) | refine heap_drew ?_ | refine heap_drewN ?_ | refine heap_past ?_ ?_ | refine heap_far ?_ ?_)) | (simp; done) | (simp; omega)); done) | (repeat' first | assumption | (refine heap_at ?_; (simp; done)) | refine heap_drew ?_ | refine heap_drewN ?_ | (refine heap_past ?_ ?_ <;> try (simp; done)) | (refine heap_far ?_ ?_ <;> try (simp; done))))); obtain ⟨p0, hp0, haddp0⟩ := str_add hS.out hsa.out (by first | omega | (simp; omega)); obtain ⟨p1, hp1, haddp1⟩ := str_add hp0.out (str_lit (l := [32]) rfl) (by first | omega | (simp; omega)))
            | (go_at_call 43; refine (s_NumText _ _).mono ?_; rintro e wb ⟨rfl, hbb⟩; have zb := hbb.size; (try simp at zb); obtain ⟨sb, hsb', hsb⟩ := str_of (numL l[k].Amt); rw [hsb']; clear hsb'; obtain ⟨bh, b0, b1, b2, bf, bz⟩ := own3 (g := wr.heap.size) hbb (by first | omega | (simp; omega) | (simp; done)) (by (first | ((repeat' first | (with_reducible (first | assumption | (refine heap_at ?_; (first | rfl | (simp; done))) | refine heap_drew ?_ | refine heap_drewN ?_ | refine heap_past ?_ ?_ | refine heap_far ?_ ?_)) | (simp; done) | (simp; omega)); done) | (repeat' first | assumption | (refine heap_at ?_; (simp; done)) | refine heap_drew ?_ | refine heap_drewN ?_ | (refine heap_past ?_ ?_ <;> try (simp; done)) | (refine heap_far ?_ ?_ <;> try (simp; done))))); obtain ⟨p2, hp2, haddp2⟩ := str_add hp1.out hsb.out (by first | omega | (simp; omega)); obtain ⟨p3, hp3, haddp3⟩ := str_add hp2.out (str_lit (l := [10]) rfl) (by first | omega | (simp; omega))))
        all_goals
          go_wp2_with fail
          go_roundw
          case rel => exact ⟨k + 1, _, by omega, by go_num, rfl, Lib.hid (by
            rw [HK.out]
            have h := hp3.out
            unfold Str at h ⊢
            rw [h]
            simp [rowL]), by (first | ((repeat' first | (with_reducible (first | exact Below.refl _ _ | assumption | refine Below.setCell ?_ ?_ _ | refine Below.alloc ?_ ?_ _ | refine Below.drew ?_ | refine below_drewN ?_ _ | refine Below.trans ?_ (Below.mono (by assumption) ?_))) | omega | (simp; omega) | (simp; done)); done) | (repeat' first | exact Below.refl _ _ | assumption | refine Below.setCell ?_ (by first | omega | (simp; omega) | (simp; done)) _ | refine Below.alloc ?_ (by first | omega | (simp; omega) | (simp; done)) _ | refine Below.drew ?_ | refine below_drewN ?_ _ | refine Below.trans ?_ (Below.mono (by assumption) (by first | omega | (simp; omega) | (simp; done)))))⟩
          case measure => simp [intOf]; omega
      · obtain rfl : k = l.length := by omega
        rw [List.take_length] at hS
        go_wp2_with fail
        go_ret
        refine ⟨?_, by (first | ((repeat' first | (with_reducible (first | exact Below.refl _ _ | assumption | refine Below.setCell ?_ ?_ _ | refine Below.alloc ?_ ?_ _ | refine Below.drew ?_ | refine below_drewN ?_ _ | refine Below.trans ?_ (Below.mono (by assumption) ?_))) | omega | (simp; omega) | (simp; done)); done) | (repeat' first | exact Below.refl _ _ | assumption | refine Below.setCell ?_ (by first | omega | (simp; omega) | (simp; done)) _ | refine Below.alloc ?_ (by first | omega | (simp; omega) | (simp; done)) _ | refine Below.drew ?_ | refine below_drewN ?_ _ | refine Below.trans ?_ (Below.mono (by assumption) (by first | omega | (simp; omega) | (simp; done)))))⟩
        show Ending.returned (.string S) = _
        rw [HE.out, hS.out]
set_option maxRecDepth 100000 in
set_option maxHeartbeats 2000000 in
theorem s_PostingText (z : Int) (l : List Line) (A : Option Addr) (cap : Nat) (w : World) (hl : l.length ≤ 1048576) (hr : Rd w w.heap.size 3 A (l.map Line.cells)) :
    Calls Tryd.prog 20 #[.agg #[.int .i64 z, .slice A l.length cap]] w fun e w' => e = .returned (.string ⟨(postingL z l).toArray⟩) ∧ Below w.heap.size w w' := by
  have HR := Lib.hid hr
  clear hr
  cases hB : postingB z l
  · have HE := Lib.hid (show postingL z l = [] by unfold postingL; rw [hB]; rfl)
    have HB := Lib.hid hB
    clear hB
    go_enter Tryd.func20, Tryd.ntmps20
    go_wp2_with fail
    refine (s_PostingOk z l _ _ _ hl ((HR.out.below (by (first | ((repeat' first | (with_reducible (first | exact Below.refl _ _ | assumption | refine Below.setCell ?_ ?_ _ | refine Below.alloc ?_ ?_ _ | refine Below.drew ?_ | refine below_drewN ?_ _ | refine Below.trans ?_ (Below.mono (by assumption) ?_))) | omega | (simp; omega) | (simp; done)); done) | (repeat' first | exact Below.refl _ _ | assumption | refine Below.setCell ?_ (by first | omega | (simp; omega) | (simp; done)) _ | refine Below.alloc ?_ (by first | omega | (simp; omega) | (simp; done)) _ | refine Below.drew ?_ | refine below_drewN ?_ _ | refine Below.trans ?_ (Below.mono (by assumption) (by first | omega | (simp; omega) | (simp; done))))))).more (by first | omega | (simp; omega) | (simp; done)))).mono ?_
    rintro e w1 ⟨rfl, hb1⟩
    have z1 := hb1.size
    try simp at z1
    rw [HB.out]
    go_wp2_with fail
    go_ret
    exact ⟨by rw [HE.out]; rfl, by (first | ((repeat' first | (with_reducible (first | exact Below.refl _ _ | assumption | refine Below.setCell ?_ ?_ _ | refine Below.alloc ?_ ?_ _ | refine Below.drew ?_ | refine below_drewN ?_ _ | refine Below.trans ?_ (Below.mono (by assumption) ?_))) | omega | (simp; omega) | (simp; done)); done) | (repeat' first | exact Below.refl _ _ | assumption | refine Below.setCell ?_ (by first | omega | (simp; omega) | (simp; done)) _ | refine Below.alloc ?_ (by first | omega | (simp; omega) | (simp; done)) _ | refine Below.drew ?_ | refine below_drewN ?_ _ | refine Below.trans ?_ (Below.mono (by assumption) (by first | omega | (simp; omega) | (simp; done)))))⟩
  · have HE := Lib.hid (show postingL z l = postTo z l by unfold postingL; rw [hB]; rfl)
    have HB := Lib.hid hB
    have hl3 : l.length ≤ 320 := by have := postingB_iff.1 hB; omega
    clear hB
    go_enter Tryd.func20, Tryd.ntmps20
    go_wp2_with fail
    refine (s_PostingOk z l _ _ _ hl ((HR.out.below (by (first | ((repeat' first | (with_reducible (first | exact Below.refl _ _ | assumption | refine Below.setCell ?_ ?_ _ | refine Below.alloc ?_ ?_ _ | refine Below.drew ?_ | refine below_drewN ?_ _ | refine Below.trans ?_ (Below.mono (by assumption) ?_))) | omega | (simp; omega) | (simp; done)); done) | (repeat' first | exact Below.refl _ _ | assumption | refine Below.setCell ?_ (by first | omega | (simp; omega) | (simp; done)) _ | refine Below.alloc ?_ (by first | omega | (simp; omega) | (simp; done)) _ | refine Below.drew ?_ | refine below_drewN ?_ _ | refine Below.trans ?_ (Below.mono (by assumption) (by first | omega | (simp; omega) | (simp; done))))))).more (by first | omega | (simp; omega) | (simp; done)))).mono ?_
    rintro e w1 ⟨rfl, hb1⟩
    have z1 := hb1.size
    try simp at z1
    rw [HB.out]
    obtain ⟨eh, e0, e1, ef, ez⟩ := own2 (g := w.heap.size) hb1 (by first | omega | (simp; omega) | (simp; done)) (by (first | ((repeat' first | (with_reducible (first | assumption | (refine heap_at ?_; (first | rfl | (simp; done))) | refine heap_drew ?_ | refine heap_drewN ?_ | refine heap_past ?_ ?_ | refine heap_far ?_ ?_)) | (simp; done) | (simp; omega)); done) | (repeat' first | assumption | (refine heap_at ?_; (simp; done)) | refine heap_drew ?_ | refine heap_drewN ?_ | (refine heap_past ?_ ?_ <;> try (simp; done)) | (refine heap_far ?_ ?_ <;> try (simp; done)))))
    go_wp2_with fail
    refine (s_NumText _ _).mono ?_
    rintro e w2 ⟨rfl, hb2⟩
    have z2 := hb2.size
    (try simp at z2)
    obtain ⟨s0, hs0', hs0⟩ := str_of (numL z)
    rw [hs0']
    clear hs0'
    obtain ⟨fh, f0, f1, ff, fz⟩ := own2 (g := w.heap.size) hb2 (by first | omega | (simp; omega) | (simp; done)) (by (first | ((repeat' first | (with_reducible (first | assumption | (refine heap_at ?_; (first | rfl | (simp; done))) | refine heap_drew ?_ | refine heap_drewN ?_ | refine heap_past ?_ ?_ | refine heap_far ?_ ?_)) | (simp; done) | (simp; omega)); done) | (repeat' first | assumption | (refine heap_at ?_; (simp; done)) | refine heap_drew ?_ | refine heap_drewN ?_ | (refine heap_past ?_ ?_ <;> try (simp; done)) | (refine heap_far ?_ ?_ <;> try (simp; done)))))
    obtain ⟨t0, ht0, hadd0⟩ := str_add (str_lit (l := [112, 111, 115, 116, 32]) (s := ⟨#[112, 111, 115, 116, 32]⟩) rfl) hs0.out (by have := numL_len z; simp; omega)
    have HS := Lib.hid (show Str (postTo z (l.take 0)) t0 from by
      have h := ht0.out
      unfold Str at h ⊢
      rw [h]
      simp [postTo, postHead])
    have hbB : Below w.heap.size w w2 := by (first | ((repeat' first | (with_reducible (first | exact Below.refl _ _ | assumption | refine Below.setCell ?_ ?_ _ | refine Below.alloc ?_ ?_ _ | refine Below.drew ?_ | refine below_drewN ?_ _ | refine Below.trans ?_ (Below.mono (by assumption) ?_))) | omega | (simp; omega) | (simp; done)); done) | (repeat' first | exact Below.refl _ _ | assumption | refine Below.setCell ?_ (by first | omega | (simp; omega) | (simp; done)) _ | refine Below.alloc ?_ (by first | omega | (simp; omega) | (simp; done)) _ | refine Below.drew ?_ | refine below_drewN ?_ _ | refine Below.trans ?_ (Below.mono (by assumption) (by first | omega | (simp; omega) | (simp; done)))))
    clear hb1 hb2
    go_wp2_with fail
    clear eh e0 e1 ef ez fh f0 f1 ff fz
    go_loopw [3, 16] (fun v i wr => ∃ (k : Nat) (S : ByteArray), k ≤ l.length ∧ i = .int .i64 k ∧ v = .string S ∧ Hid (Str (postTo z (l.take k)) S) ∧ Below w.heap.size w wr) (fun _ i _ => l.length - (intOf i).toNat)
    case atStart => exact ⟨0, _, Nat.zero_le _, rfl, rfl, HS, hbB⟩
    case round =>
      clear HS hbB
      obtain ⟨k, S, hk, rfl, rfl, hS, hbw⟩ := hrel
      have hbz := hbw.size
      by_cases hlt : k < l.length
      · obtain ⟨b, off, rfl, hbB, c0, c1, c2⟩ := Line.rd (HR.out.below hbw) hlt
        have HK := Lib.hid (postTo_succ z l hlt)
        have hOl : (postTo z (l.take k)).length ≤ 20000 := by
          have h1 := postTo_len z (l.take k)
          have h2 : (l.take k).length ≤ 320 := by rw [List.length_take]; omega
          omega
        obtain ⟨O, hO⟩ : ∃ O, postTo z (l.take k) = O := ⟨_, rfl⟩
        rw [hO] at HK hOl hS
        clear hO
        have h_n := numL_len l[k].Amt
        have h_a := accL_len l[k].Kind l[k].Ch
        obtain ⟨jh, j0, j1, j2, jf, jz⟩ := own3 (g := wr.heap.size) (Below.refl _ (wr.alloc (.cells #[.int .i64 l[k].Kind, .int .i64 l[k].Ch, .int .i64 l[k].Amt] 82))) (by simp) (heap_at rfl)
        obtain ⟨u0, hu0, haddu⟩ := str_add hS.out (str_lit (l := [32]) rfl) (by first | omega | (simp; omega))
        go_wp2_with fail
        go_region_held3 (fun w' => w'.cell? ⟨wr.heap.size, 0, none⟩ = some (.int .i64 l[k].Kind) ∧ w'.cell? ⟨wr.heap.size, 1, none⟩ = some (.int .i64 l[k].Ch) ∧ w'.cell? ⟨wr.heap.size, 2, none⟩ = some (.int .i64 l[k].Amt))
          (first | exact ⟨j0, j1, j2⟩ | exact ⟨a0, a1, a2⟩ | exact ⟨b0, b1, b2⟩)
          (first
            | (go_at_call 48; refine (s_AccText _ _ _).mono ?_; rintro e wa ⟨rfl, hba⟩; have za := hba.size; (try simp at za); obtain ⟨sa, hsa', hsa⟩ := str_of (accL l[k].Kind l[k].Ch); rw [hsa']; clear hsa'; obtain ⟨ah, a0, a1, a2, af, az⟩ := own3 (g := wr.heap.size) hba (by first | omega | (simp; omega) | (simp; done)) (by (first | ((repeat' first | (with_reducible (first | assumption | (refine heap_at ?_; (first | rfl | (simp; done))) | refine heap_drew ?_ | refine heap_drewN ?_ | refine heap_past ?_ ?_ | refine heap_far ?_ ?_)) | (simp; done) | (simp; omega)); done) | (repeat' first | assumption | (refine heap_at ?_; (simp; done)) | refine heap_drew ?_ | refine heap_drewN ?_ | (refine heap_past ?_ ?_ <;> try (simp; done)) | (refine heap_far ?_ ?_ <;> try (simp; done))))); obtain ⟨p0, hp0, haddp0⟩ := str_add hu0.out hsa.out (by first | omega | (simp; omega)); obtain ⟨p1, hp1, haddp1⟩ := str_add hp0.out (str_lit (l := [58]) rfl) (by first | omega | (simp; omega)))
            | (go_at_call 43; refine (s_NumText _ _).mono ?_; rintro e wb ⟨rfl, hbb⟩; have zb := hbb.size; (try simp at zb); obtain ⟨sb, hsb', hsb⟩ := str_of (numL l[k].Amt); rw [hsb']; clear hsb'; obtain ⟨bh, b0, b1, b2, bf, bz⟩ := own3 (g := wr.heap.size) hbb (by first | omega | (simp; omega) | (simp; done)) (by (first | ((repeat' first | (with_reducible (first | assumption | (refine heap_at ?_; (first | rfl | (simp; done))) | refine heap_drew ?_ | refine heap_drewN ?_ | refine heap_past ?_ ?_ | refine heap_far ?_ ?_)) | (simp; done) | (simp; omega)); done) | (repeat' first | assumption | (refine heap_at ?_; (simp; done)) | refine heap_drew ?_ | refine heap_drewN ?_ | (refine heap_past ?_ ?_ <;> try (simp; done)) | (refine heap_far ?_ ?_ <;> try (simp; done))))); obtain ⟨p2, hp2, haddp2⟩ := str_add hp1.out hsb.out (by first | omega | (simp; omega))))
        all_goals
          go_wp2_with fail
          go_roundw
          case rel => exact ⟨k + 1, _, by omega, by go_num, rfl, Lib.hid (by
            rw [HK.out]
            have h := hp2.out
            unfold Str at h ⊢
            rw [h]
            simp [itemL]), by (first | ((repeat' first | (with_reducible (first | exact Below.refl _ _ | assumption | refine Below.setCell ?_ ?_ _ | refine Below.alloc ?_ ?_ _ | refine Below.drew ?_ | refine below_drewN ?_ _ | refine Below.trans ?_ (Below.mono (by assumption) ?_))) | omega | (simp; omega) | (simp; done)); done) | (repeat' first | exact Below.refl _ _ | assumption | refine Below.setCell ?_ (by first | omega | (simp; omega) | (simp; done)) _ | refine Below.alloc ?_ (by first | omega | (simp; omega) | (simp; done)) _ | refine Below.drew ?_ | refine below_drewN ?_ _ | refine Below.trans ?_ (Below.mono (by assumption) (by first | omega | (simp; omega) | (simp; done)))))⟩
          case measure => simp [intOf]; omega
      · obtain rfl : k = l.length := by omega
        rw [List.take_length] at hS
        go_wp2_with fail
        go_ret
        refine ⟨?_, by (first | ((repeat' first | (with_reducible (first | exact Below.refl _ _ | assumption | refine Below.setCell ?_ ?_ _ | refine Below.alloc ?_ ?_ _ | refine Below.drew ?_ | refine below_drewN ?_ _ | refine Below.trans ?_ (Below.mono (by assumption) ?_))) | omega | (simp; omega) | (simp; done)); done) | (repeat' first | exact Below.refl _ _ | assumption | refine Below.setCell ?_ (by first | omega | (simp; omega) | (simp; done)) _ | refine Below.alloc ?_ (by first | omega | (simp; omega) | (simp; done)) _ | refine Below.drew ?_ | refine below_drewN ?_ _ | refine Below.trans ?_ (Below.mono (by assumption) (by first | omega | (simp; omega) | (simp; done)))))⟩
        show Ending.returned (.string S) = _
        rw [HE.out, hS.out]
set_option maxRecDepth 100000 in
set_option maxHeartbeats 2000000 in
theorem i_LedgerText (z : Int) (l : List Line) (A : Option Addr) (cap : Nat) (w : World) (hld : Ld w) (hl : l.length ≤ 1048576) (hr : Rd w w.heap.size 3 A (l.map Line.cells)) :
    Calls Tryd.prog 17 #[.agg #[.int .i64 z, .slice A l.length cap]] w fun e w' => e = .returned (.string ⟨(ledgerL z l).toArray⟩) ∧ Below w.heap.size w w' := by
  have HLD := Lib.hid hld
  clear hld
  have HR := Lib.hid hr
  clear hr
  cases hB : ledgerB z l
  · have HE := Lib.hid (show ledgerL z l = [] by unfold ledgerL; rw [hB]; rfl)
    have HB := Lib.hid hB
    clear hB
    go_enter Tryd.func17, Tryd.ntmps17
    go_wp2_with fail
    refine (i_LedgerOk z l _ _ _ hl ((HR.out.below (by (first | ((repeat' first | (with_reducible (first | exact Below.refl _ _ | assumption | refine Below.setCell ?_ ?_ _ | refine Below.alloc ?_ ?_ _ | refine Below.drew ?_ | refine below_drewN ?_ _ | refine Below.trans ?_ (Below.mono (by assumption) ?_))) | omega | (simp; omega) | (simp; done)); done) | (repeat' first | exact Below.refl _ _ | assumption | refine Below.setCell ?_ (by first | omega | (simp; omega) | (simp; done)) _ | refine Below.alloc ?_ (by first | omega | (simp; omega) | (simp; done)) _ | refine Below.drew ?_ | refine below_drewN ?_ _ | refine Below.trans ?_ (Below.mono (by assumption) (by first | omega | (simp; omega) | (simp; done))))))).more (by first | omega | (simp; omega) | (simp; done)))).mono ?_
    rintro e w1 ⟨rfl, hb1⟩
    have z1 := hb1.size
    try simp at z1
    rw [HB.out]
    go_wp2_with fail
    go_ret
    exact ⟨by rw [HE.out]; rfl, by (first | ((repeat' first | (with_reducible (first | exact Below.refl _ _ | assumption | refine Below.setCell ?_ ?_ _ | refine Below.alloc ?_ ?_ _ | refine Below.drew ?_ | refine below_drewN ?_ _ | refine Below.trans ?_ (Below.mono (by assumption) ?_))) | omega | (simp; omega) | (simp; done)); done) | (repeat' first | exact Below.refl _ _ | assumption | refine Below.setCell ?_ (by first | omega | (simp; omega) | (simp; done)) _ | refine Below.alloc ?_ (by first | omega | (simp; omega) | (simp; done)) _ | refine Below.drew ?_ | refine below_drewN ?_ _ | refine Below.trans ?_ (Below.mono (by assumption) (by first | omega | (simp; omega) | (simp; done)))))⟩
  · have HE := Lib.hid (show ledgerL z l = ledTo z l by unfold ledgerL; rw [hB]; rfl)
    have HB := Lib.hid hB
    have hl3 : l.length ≤ 320 := by have := ledgerB_iff.1 hB; omega
    clear hB
    go_enter Tryd.func17, Tryd.ntmps17
    go_wp2_with fail
    refine (i_LedgerOk z l _ _ _ hl ((HR.out.below (by (first | ((repeat' first | (with_reducible (first | exact Below.refl _ _ | assumption | refine Below.setCell ?_ ?_ _ | refine Below.alloc ?_ ?_ _ | refine Below.drew ?_ | refine below_drewN ?_ _ | refine Below.trans ?_ (Below.mono (by assumption) ?_))) | omega | (simp; omega) | (simp; done)); done) | (repeat' first | exact Below.refl _ _ | assumption | refine Below.setCell ?_ (by first | omega | (simp; omega) | (simp; done)) _ | refine Below.alloc ?_ (by first | omega | (simp; omega) | (simp; done)) _ | refine Below.drew ?_ | refine below_drewN ?_ _ | refine Below.trans ?_ (Below.mono (by assumption) (by first | omega | (simp; omega) | (simp; done))))))).more (by first | omega | (simp; omega) | (simp; done)))).mono ?_
    rintro e w1 ⟨rfl, hb1⟩
    have z1 := hb1.size
    try simp at z1
    rw [HB.out]
    obtain ⟨eh, e0, e1, ef, ez⟩ := own2 (g := w.heap.size) hb1 (by first | omega | (simp; omega) | (simp; done)) (by (first | ((repeat' first | (with_reducible (first | assumption | (refine heap_at ?_; (first | rfl | (simp; done))) | refine heap_drew ?_ | refine heap_drewN ?_ | refine heap_past ?_ ?_ | refine heap_far ?_ ?_)) | (simp; done) | (simp; omega)); done) | (repeat' first | assumption | (refine heap_at ?_; (simp; done)) | refine heap_drew ?_ | refine heap_drewN ?_ | (refine heap_past ?_ ?_ <;> try (simp; done)) | (refine heap_far ?_ ?_ <;> try (simp; done)))))
    go_wp2_with fail
    have hbA : Below w.heap.size w w1 := by (first | ((repeat' first | (with_reducible (first | exact Below.refl _ _ | assumption | refine Below.setCell ?_ ?_ _ | refine Below.alloc ?_ ?_ _ | refine Below.drew ?_ | refine below_drewN ?_ _ | refine Below.trans ?_ (Below.mono (by assumption) ?_))) | omega | (simp; omega) | (simp; done)); done) | (repeat' first | exact Below.refl _ _ | assumption | refine Below.setCell ?_ (by first | omega | (simp; omega) | (simp; done)) _ | refine Below.alloc ?_ (by first | omega | (simp; omega) | (simp; done)) _ | refine Below.drew ?_ | refine below_drewN ?_ _ | refine Below.trans ?_ (Below.mono (by assumption) (by first | omega | (simp; omega) | (simp; done)))))
    refine (i_withNumbers [108, 101, 100, 103, 101, 114] _ [z] _ _ _ (HLD.out.below (by (first | ((repeat' first | (with_reducible (first | exact Below.refl _ _ | assumption | refine Below.setCell ?_ ?_ _ | refine Below.alloc ?_ ?_ _ | refine Below.drew ?_ | refine below_drewN ?_ _ | refine Below.trans ?_ (Below.mono (by assumption) ?_))) | omega | (simp; omega) | (simp; done)); done) | (repeat' first | exact Below.refl _ _ | assumption | refine Below.setCell ?_ (by first | omega | (simp; omega) | (simp; done)) _ | refine Below.alloc ?_ (by first | omega | (simp; omega) | (simp; done)) _ | refine Below.drew ?_ | refine below_drewN ?_ _ | refine Below.trans ?_ (Below.mono (by assumption) (by first | omega | (simp; omega) | (simp; done))))))) rfl (by simp) (by simp) (rd_one (cs := [.int .i64 z]) (heap_at (by first | rfl | (simp; done))) rfl)).mono ?_
    rintro e w2 ⟨rfl, hb2⟩
    have z2 := hb2.size
    (try simp at z2)
    obtain ⟨s0, hs0', hs0⟩ := str_of (numsC [108, 101, 100, 103, 101, 114] [z])
    rw [hs0']
    clear hs0'
    obtain ⟨fh, f0, f1, ff, fz⟩ := own2 (g := w.heap.size) hb2 (by first | omega | (simp; omega) | (simp; done)) (by (first | ((repeat' first | (with_reducible (first | assumption | (refine heap_at ?_; (first | rfl | (simp; done))) | refine heap_drew ?_ | refine heap_drewN ?_ | refine heap_past ?_ ?_ | refine heap_far ?_ ?_)) | (simp; done) | (simp; omega)); done) | (repeat' first | assumption | (refine heap_at ?_; (simp; done)) | refine heap_drew ?_ | refine heap_drewN ?_ | (refine heap_past ?_ ?_ <;> try (simp; done)) | (refine heap_far ?_ ?_ <;> try (simp; done)))))
    obtain ⟨t1, ht1, hadd1⟩ := str_add hs0.out (str_lit (l := [10]) rfl) (by have := numsC_len [108, 101, 100, 103, 101, 114] [z]; simp at this ⊢; omega)
    have HS := Lib.hid (show Str (ledTo z (l.take 0)) t1 from by
      have h := ht1.out
      unfold Str at h ⊢
      rw [h]
      simp [ledTo, ledHead, numsC, wordsC])
    have hbB : Below w.heap.size w w2 := by (first | ((repeat' first | (with_reducible (first | exact Below.refl _ _ | assumption | refine Below.setCell ?_ ?_ _ | refine Below.alloc ?_ ?_ _ | refine Below.drew ?_ | refine below_drewN ?_ _ | refine Below.trans ?_ (Below.mono (by assumption) ?_))) | omega | (simp; omega) | (simp; done)); done) | (repeat' first | exact Below.refl _ _ | assumption | refine Below.setCell ?_ (by first | omega | (simp; omega) | (simp; done)) _ | refine Below.alloc ?_ (by first | omega | (simp; omega) | (simp; done)) _ | refine Below.drew ?_ | refine below_drewN ?_ _ | refine Below.trans ?_ (Below.mono (by assumption) (by first | omega | (simp; omega) | (simp; done)))))
    clear hb1 hb2
    go_wp2_with fail
    clear eh e0 e1 ef ez fh f0 f1 ff fz
    go_loopw [3, 17] (fun v i wr => ∃ (k : Nat) (S : ByteArray), k ≤ l.length ∧ i = .int .i64 k ∧ v = .string S ∧ Hid (Str (ledTo z (l.take k)) S) ∧ Below w.heap.size w wr) (fun _ i _ => l.length - (intOf i).toNat)
    case atStart => exact ⟨0, _, Nat.zero_le _, rfl, rfl, HS, hbB⟩
    case round =>
      clear HS hbB
      obtain ⟨k, S, hk, rfl, rfl, hS, hbw⟩ := hrel
      have hbz := hbw.size
      by_cases hlt : k < l.length
      · obtain ⟨b, off, rfl, hbB, c0, c1, c2⟩ := Line.rd (HR.out.below hbw) hlt
        have HK := Lib.hid (ledTo_succ z l hlt)
        have hOl : (ledTo z (l.take k)).length ≤ 20000 := by
          have h1 := ledTo_len z (l.take k)
          have h2 : (l.take k).length ≤ 320 := by rw [List.length_take]; omega
          omega
        obtain ⟨O, hO⟩ : ∃ O, ledTo z (l.take k) = O := ⟨_, rfl⟩
        rw [hO] at HK hOl hS
        clear hO
        have h_n := numL_len l[k].Amt
        have h_a := accL_len l[k].Kind l[k].Ch
        obtain ⟨jh, j0, j1, j2, jf, jz⟩ := own3 (g := wr.heap.size) (Below.refl _ (wr.alloc (.cells #[.int .i64 l[k].Kind, .int .i64 l[k].Ch, .int .i64 l[k].Amt] 82))) (by simp) (heap_at rfl)
        go_wp2_with fail
        go_region_held3 (fun w' => w'.cell? ⟨wr.heap.size, 0, none⟩ = some (.int .i64 l[k].Kind) ∧ w'.cell? ⟨wr.heap.size, 1, none⟩ = some (.int .i64 l[k].Ch) ∧ w'.cell? ⟨wr.heap.size, 2, none⟩ = some (.int .i64 l[k].Amt))
          (first | exact ⟨j0, j1, j2⟩ | exact ⟨a0, a1, a2⟩ | exact ⟨cell_past (by simp) j0, cell_past (by simp) j1, cell_past (by simp) j2⟩ | exact ⟨cell_past (by first | omega | (simp; omega)) a0, cell_past (by first | omega | (simp; omega)) a1, cell_past (by first | omega | (simp; omega)) a2⟩ | exact ⟨b0, b1, b2⟩)
          (first
            | (go_at_call 52; refine (i_AccText _ _ _ (HLD.out.below (by (first | ((repeat' first | (with_reducible (first | exact Below.refl _ _ | assumption | refine Below.setCell ?_ ?_ _ | refine Below.alloc ?_ ?_ _ | refine Below.drew ?_ | refine below_drewN ?_ _ | refine Below.trans ?_ (Below.mono (by assumption) ?_))) | omega | (simp; omega) | (simp; done)); done) | (repeat' first | exact Below.refl _ _ | assumption | refine Below.setCell ?_ (by first | omega | (simp; omega) | (simp; done)) _ | refine Below.alloc ?_ (by first | omega | (simp; omega) | (simp; done)) _ | refine Below.drew ?_ | refine below_drewN ?_ _ | refine Below.trans ?_ (Below.mono (by assumption) (by first | omega | (simp; omega) | (simp; done)))))))).mono ?_; rintro e wa ⟨rfl, hba⟩; have za := hba.size; (try simp at za); obtain ⟨sa, hsa', hsa⟩ := str_of (accL l[k].Kind l[k].Ch); rw [hsa']; clear hsa'; obtain ⟨ah, a0, a1, a2, af, az⟩ := own3 (g := wr.heap.size) hba (by first | omega | (simp; omega) | (simp; done)) (by (first | ((repeat' first | (with_reducible (first | assumption | (refine heap_at ?_; (first | rfl | (simp; done))) | refine heap_drew ?_ | refine heap_drewN ?_ | refine heap_past ?_ ?_ | refine heap_far ?_ ?_)) | (simp; done) | (simp; omega)); done) | (repeat' first | assumption | (refine heap_at ?_; (simp; done)) | refine heap_drew ?_ | refine heap_drewN ?_ | (refine heap_past ?_ ?_ <;> try (simp; done)) | (refine heap_far ?_ ?_ <;> try (simp; done))))); (try (have hbx : wa.heap[wr.heap.size + 1]? = some (.cells #[.int .i64 l[k].Amt] 3 (0, 0)) := heap_below hba (by simp) (heap_at (by simp)))))
            | (go_at_call 51; refine (i_withNumbers (accL l[k].Kind l[k].Ch) _ [l[k].Amt] _ _ _ (HLD.out.below (by (first | ((repeat' first | (with_reducible (first | exact Below.refl _ _ | assumption | refine Below.setCell ?_ ?_ _ | refine Below.alloc ?_ ?_ _ | refine Below.drew ?_ | refine below_drewN ?_ _ | refine Below.trans ?_ (Below.mono (by assumption) ?_))) | omega | (simp; omega) | (simp; done)); done) | (repeat' first | exact Below.refl _ _ | assumption | refine Below.setCell ?_ (by first | omega | (simp; omega) | (simp; done)) _ | refine Below.alloc ?_ (by first | omega | (simp; omega) | (simp; done)) _ | refine Below.drew ?_ | refine below_drewN ?_ _ | refine Below.trans ?_ (Below.mono (by assumption) (by first | omega | (simp; omega) | (simp; done))))))) hsa.out (by simp) (by omega) (rd_one (cs := [.int .i64 l[k].Amt]) (by (first | ((repeat' first | (with_reducible (first | assumption | (refine heap_at ?_; (first | rfl | (simp; done))) | refine heap_drew ?_ | refine heap_drewN ?_ | refine heap_past ?_ ?_ | refine heap_far ?_ ?_)) | (simp; done) | (simp; omega)); done) | (repeat' first | assumption | (refine heap_at ?_; (simp; done)) | refine heap_drew ?_ | refine heap_drewN ?_ | (refine heap_past ?_ ?_ <;> try (simp; done)) | (refine heap_far ?_ ?_ <;> try (simp; done))))) rfl)).mono ?_; rintro e wb ⟨rfl, hbb⟩; have zb := hbb.size; (try simp at zb); obtain ⟨sb, hsb', hsb⟩ := str_of (numsC (accL l[k].Kind l[k].Ch) [l[k].Amt]); rw [hsb']; clear hsb'; obtain ⟨bh, b0, b1, b2, bf, bz⟩ := own3 (g := wr.heap.size) hbb (by first | omega | (simp; omega) | (simp; done)) (by (first | ((repeat' first | (with_reducible (first | assumption | (refine heap_at ?_; (first | rfl | (simp; done))) | refine heap_drew ?_ | refine heap_drewN ?_ | refine heap_past ?_ ?_ | refine heap_far ?_ ?_)) | (simp; done) | (simp; omega)); done) | (repeat' first | assumption | (refine heap_at ?_; (simp; done)) | refine heap_drew ?_ | refine heap_drewN ?_ | (refine heap_past ?_ ?_ <;> try (simp; done)) | (refine heap_far ?_ ?_ <;> try (simp; done))))); have h_w := numsC_len (accL l[k].Kind l[k].Ch) [l[k].Amt]; simp at h_w; obtain ⟨p0, hp0, haddp0⟩ := str_add hsb.out (str_lit (l := [10]) rfl) (by first | omega | (simp; omega)); obtain ⟨p1, hp1, haddp1⟩ := str_add hS.out hp0.out (by first | omega | (simp; omega))))
        all_goals
          go_wp2_with fail
          go_roundw
          case rel => exact ⟨k + 1, _, by omega, by go_num, rfl, Lib.hid (by
            rw [HK.out]
            have h := hp1.out
            unfold Str at h ⊢
            rw [h]
            simp [rowL, numsC, wordsC]), by (first | ((repeat' first | (with_reducible (first | exact Below.refl _ _ | assumption | refine Below.setCell ?_ ?_ _ | refine Below.alloc ?_ ?_ _ | refine Below.drew ?_ | refine below_drewN ?_ _ | refine Below.trans ?_ (Below.mono (by assumption) ?_))) | omega | (simp; omega) | (simp; done)); done) | (repeat' first | exact Below.refl _ _ | assumption | refine Below.setCell ?_ (by first | omega | (simp; omega) | (simp; done)) _ | refine Below.alloc ?_ (by first | omega | (simp; omega) | (simp; done)) _ | refine Below.drew ?_ | refine below_drewN ?_ _ | refine Below.trans ?_ (Below.mono (by assumption) (by first | omega | (simp; omega) | (simp; done)))))⟩
          case measure => simp [intOf]; omega
      · obtain rfl : k = l.length := by omega
        rw [List.take_length] at hS
        go_wp2_with fail
        go_ret
        refine ⟨?_, by (first | ((repeat' first | (with_reducible (first | exact Below.refl _ _ | assumption | refine Below.setCell ?_ ?_ _ | refine Below.alloc ?_ ?_ _ | refine Below.drew ?_ | refine below_drewN ?_ _ | refine Below.trans ?_ (Below.mono (by assumption) ?_))) | omega | (simp; omega) | (simp; done)); done) | (repeat' first | exact Below.refl _ _ | assumption | refine Below.setCell ?_ (by first | omega | (simp; omega) | (simp; done)) _ | refine Below.alloc ?_ (by first | omega | (simp; omega) | (simp; done)) _ | refine Below.drew ?_ | refine below_drewN ?_ _ | refine Below.trans ?_ (Below.mono (by assumption) (by first | omega | (simp; omega) | (simp; done)))))⟩
        show Ending.returned (.string S) = _
        rw [HE.out, hS.out]
set_option maxRecDepth 100000 in
set_option maxHeartbeats 2000000 in
theorem i_PostingText (z : Int) (l : List Line) (A : Option Addr) (cap : Nat) (w : World) (hld : Ld w) (hl : l.length ≤ 1048576) (hr : Rd w w.heap.size 3 A (l.map Line.cells)) :
    Calls Tryd.prog 22 #[.agg #[.int .i64 z, .slice A l.length cap]] w fun e w' => e = .returned (.string ⟨(postingL z l).toArray⟩) ∧ Below w.heap.size w w' := by
  have HLD := Lib.hid hld
  clear hld
  have HR := Lib.hid hr
  clear hr
  cases hB : postingB z l
  · have HE := Lib.hid (show postingL z l = [] by unfold postingL; rw [hB]; rfl)
    have HB := Lib.hid hB
    clear hB
    go_enter Tryd.func22, Tryd.ntmps22
    go_wp2_with fail
    refine (i_PostingOk z l _ _ _ hl ((HR.out.below (by (first | ((repeat' first | (with_reducible (first | exact Below.refl _ _ | assumption | refine Below.setCell ?_ ?_ _ | refine Below.alloc ?_ ?_ _ | refine Below.drew ?_ | refine below_drewN ?_ _ | refine Below.trans ?_ (Below.mono (by assumption) ?_))) | omega | (simp; omega) | (simp; done)); done) | (repeat' first | exact Below.refl _ _ | assumption | refine Below.setCell ?_ (by first | omega | (simp; omega) | (simp; done)) _ | refine Below.alloc ?_ (by first | omega | (simp; omega) | (simp; done)) _ | refine Below.drew ?_ | refine below_drewN ?_ _ | refine Below.trans ?_ (Below.mono (by assumption) (by first | omega | (simp; omega) | (simp; done))))))).more (by first | omega | (simp; omega) | (simp; done)))).mono ?_
    rintro e w1 ⟨rfl, hb1⟩
    have z1 := hb1.size
    try simp at z1
    rw [HB.out]
    go_wp2_with fail
    go_ret
    exact ⟨by rw [HE.out]; rfl, by (first | ((repeat' first | (with_reducible (first | exact Below.refl _ _ | assumption | refine Below.setCell ?_ ?_ _ | refine Below.alloc ?_ ?_ _ | refine Below.drew ?_ | refine below_drewN ?_ _ | refine Below.trans ?_ (Below.mono (by assumption) ?_))) | omega | (simp; omega) | (simp; done)); done) | (repeat' first | exact Below.refl _ _ | assumption | refine Below.setCell ?_ (by first | omega | (simp; omega) | (simp; done)) _ | refine Below.alloc ?_ (by first | omega | (simp; omega) | (simp; done)) _ | refine Below.drew ?_ | refine below_drewN ?_ _ | refine Below.trans ?_ (Below.mono (by assumption) (by first | omega | (simp; omega) | (simp; done)))))⟩
  · have HE := Lib.hid (show postingL z l = postTo z l by unfold postingL; rw [hB]; rfl)
    have HB := Lib.hid hB
    have hl3 : l.length ≤ 320 := by have := postingB_iff.1 hB; omega
    clear hB
    go_enter Tryd.func22, Tryd.ntmps22
    go_wp2_with fail
    refine (i_PostingOk z l _ _ _ hl ((HR.out.below (by (first | ((repeat' first | (with_reducible (first | exact Below.refl _ _ | assumption | refine Below.setCell ?_ ?_ _ | refine Below.alloc ?_ ?_ _ | refine Below.drew ?_ | refine below_drewN ?_ _ | refine Below.trans ?_ (Below.mono (by assumption) ?_))) | omega | (simp; omega) | (simp; done)); done) | (repeat' first | exact Below.refl _ _ | assumption | refine Below.setCell ?_ (by first | omega | (simp; omega) | (simp; done)) _ | refine Below.alloc ?_ (by first | omega | (simp; omega) | (simp; done)) _ | refine Below.drew ?_ | refine below_drewN ?_ _ | refine Below.trans ?_ (Below.mono (by assumption) (by first | omega | (simp; omega) | (simp; done))))))).more (by first | omega | (simp; omega) | (simp; done)))).mono ?_
    rintro e w1 ⟨rfl, hb1⟩
    have z1 := hb1.size
    try simp at z1
    rw [HB.out]
    obtain ⟨eh, e0, e1, ef, ez⟩ := own2 (g := w.heap.size) hb1 (by first | omega | (simp; omega) | (simp; done)) (by (first | ((repeat' first | (with_reducible (first | assumption | (refine heap_at ?_; (first | rfl | (simp; done))) | refine heap_drew ?_ | refine heap_drewN ?_ | refine heap_past ?_ ?_ | refine heap_far ?_ ?_)) | (simp; done) | (simp; omega)); done) | (repeat' first | assumption | (refine heap_at ?_; (simp; done)) | refine heap_drew ?_ | refine heap_drewN ?_ | (refine heap_past ?_ ?_ <;> try (simp; done)) | (refine heap_far ?_ ?_ <;> try (simp; done)))))
    go_wp2_with fail
    have hbA : Below w.heap.size w w1 := by (first | ((repeat' first | (with_reducible (first | exact Below.refl _ _ | assumption | refine Below.setCell ?_ ?_ _ | refine Below.alloc ?_ ?_ _ | refine Below.drew ?_ | refine below_drewN ?_ _ | refine Below.trans ?_ (Below.mono (by assumption) ?_))) | omega | (simp; omega) | (simp; done)); done) | (repeat' first | exact Below.refl _ _ | assumption | refine Below.setCell ?_ (by first | omega | (simp; omega) | (simp; done)) _ | refine Below.alloc ?_ (by first | omega | (simp; omega) | (simp; done)) _ | refine Below.drew ?_ | refine below_drewN ?_ _ | refine Below.trans ?_ (Below.mono (by assumption) (by first | omega | (simp; omega) | (simp; done)))))
    refine (i_withNumbers [112, 111, 115, 116] _ [z] _ _ _ (HLD.out.below (by (first | ((repeat' first | (with_reducible (first | exact Below.refl _ _ | assumption | refine Below.setCell ?_ ?_ _ | refine Below.alloc ?_ ?_ _ | refine Below.drew ?_ | refine below_drewN ?_ _ | refine Below.trans ?_ (Below.mono (by assumption) ?_))) | omega | (simp; omega) | (simp; done)); done) | (repeat' first | exact Below.refl _ _ | assumption | refine Below.setCell ?_ (by first | omega | (simp; omega) | (simp; done)) _ | refine Below.alloc ?_ (by first | omega | (simp; omega) | (simp; done)) _ | refine Below.drew ?_ | refine below_drewN ?_ _ | refine Below.trans ?_ (Below.mono (by assumption) (by first | omega | (simp; omega) | (simp; done))))))) rfl (by simp) (by simp) (rd_one (cs := [.int .i64 z]) (heap_at (by first | rfl | (simp; done))) rfl)).mono ?_
    rintro e w2 ⟨rfl, hb2⟩
    have z2 := hb2.size
    (try simp at z2)
    obtain ⟨s0, hs0', hs0⟩ := str_of (numsC [112, 111, 115, 116] [z])
    rw [hs0']
    clear hs0'
    obtain ⟨fh, f0, f1, ff, fz⟩ := own2 (g := w.heap.size) hb2 (by first | omega | (simp; omega) | (simp; done)) (by (first | ((repeat' first | (with_reducible (first | assumption | (refine heap_at ?_; (first | rfl | (simp; done))) | refine heap_drew ?_ | refine heap_drewN ?_ | refine heap_past ?_ ?_ | refine heap_far ?_ ?_)) | (simp; done) | (simp; omega)); done) | (repeat' first | assumption | (refine heap_at ?_; (simp; done)) | refine heap_drew ?_ | refine heap_drewN ?_ | (refine heap_past ?_ ?_ <;> try (simp; done)) | (refine heap_far ?_ ?_ <;> try (simp; done)))))
    have HS := Lib.hid (show Str (postTo z (l.take 0)) s0 from by
      have h := hs0.out
      unfold Str at h ⊢
      rw [h]
      simp [postTo, postHead, numsC, wordsC])
    have hbB : Below w.heap.size w w2 := by (first | ((repeat' first | (with_reducible (first | exact Below.refl _ _ | assumption | refine Below.setCell ?_ ?_ _ | refine Below.alloc ?_ ?_ _ | refine Below.drew ?_ | refine below_drewN ?_ _ | refine Below.trans ?_ (Below.mono (by assumption) ?_))) | omega | (simp; omega) | (simp; done)); done) | (repeat' first | exact Below.refl _ _ | assumption | refine Below.setCell ?_ (by first | omega | (simp; omega) | (simp; done)) _ | refine Below.alloc ?_ (by first | omega | (simp; omega) | (simp; done)) _ | refine Below.drew ?_ | refine below_drewN ?_ _ | refine Below.trans ?_ (Below.mono (by assumption) (by first | omega | (simp; omega) | (simp; done)))))
    clear hb1 hb2
    go_wp2_with fail
    clear eh e0 e1 ef ez fh f0 f1 ff fz
    go_loopw [3, 16] (fun v i wr => ∃ (k : Nat) (S : ByteArray), k ≤ l.length ∧ i = .int .i64 k ∧ v = .string S ∧ Hid (Str (postTo z (l.take k)) S) ∧ Below w.heap.size w wr) (fun _ i _ => l.length - (intOf i).toNat)
    case atStart => exact ⟨0, _, Nat.zero_le _, rfl, rfl, HS, hbB⟩
    case round =>
      clear HS hbB
      obtain ⟨k, S, hk, rfl, rfl, hS, hbw⟩ := hrel
      have hbz := hbw.size
      by_cases hlt : k < l.length
      · obtain ⟨b, off, rfl, hbB, c0, c1, c2⟩ := Line.rd (HR.out.below hbw) hlt
        have HK := Lib.hid (postTo_succ z l hlt)
        have hOl : (postTo z (l.take k)).length ≤ 20000 := by
          have h1 := postTo_len z (l.take k)
          have h2 : (l.take k).length ≤ 320 := by rw [List.length_take]; omega
          omega
        obtain ⟨O, hO⟩ : ∃ O, postTo z (l.take k) = O := ⟨_, rfl⟩
        rw [hO] at HK hOl hS
        clear hO
        have h_n := numL_len l[k].Amt
        have h_a := accL_len l[k].Kind l[k].Ch
        obtain ⟨jh, j0, j1, j2, jf, jz⟩ := own3 (g := wr.heap.size) (Below.refl _ (wr.alloc (.cells #[.int .i64 l[k].Kind, .int .i64 l[k].Ch, .int .i64 l[k].Amt] 82))) (by simp) (heap_at rfl)
        go_wp2_with fail
        go_region_held3 (fun w' => w'.cell? ⟨wr.heap.size, 0, none⟩ = some (.int .i64 l[k].Kind) ∧ w'.cell? ⟨wr.heap.size, 1, none⟩ = some (.int .i64 l[k].Ch) ∧ w'.cell? ⟨wr.heap.size, 2, none⟩ = some (.int .i64 l[k].Amt))
          (first | exact ⟨j0, j1, j2⟩ | exact ⟨a0, a1, a2⟩ | exact ⟨b0, b1, b2⟩)
          (first
            | (go_at_call 52; refine (i_AccText _ _ _ (HLD.out.below (by (first | ((repeat' first | (with_reducible (first | exact Below.refl _ _ | assumption | refine Below.setCell ?_ ?_ _ | refine Below.alloc ?_ ?_ _ | refine Below.drew ?_ | refine below_drewN ?_ _ | refine Below.trans ?_ (Below.mono (by assumption) ?_))) | omega | (simp; omega) | (simp; done)); done) | (repeat' first | exact Below.refl _ _ | assumption | refine Below.setCell ?_ (by first | omega | (simp; omega) | (simp; done)) _ | refine Below.alloc ?_ (by first | omega | (simp; omega) | (simp; done)) _ | refine Below.drew ?_ | refine below_drewN ?_ _ | refine Below.trans ?_ (Below.mono (by assumption) (by first | omega | (simp; omega) | (simp; done)))))))).mono ?_; rintro e wa ⟨rfl, hba⟩; have za := hba.size; (try simp at za); obtain ⟨sa, hsa', hsa⟩ := str_of (accL l[k].Kind l[k].Ch); rw [hsa']; clear hsa'; obtain ⟨ah, a0, a1, a2, af, az⟩ := own3 (g := wr.heap.size) hba (by first | omega | (simp; omega) | (simp; done)) (by (first | ((repeat' first | (with_reducible (first | assumption | (refine heap_at ?_; (first | rfl | (simp; done))) | refine heap_drew ?_ | refine heap_drewN ?_ | refine heap_past ?_ ?_ | refine heap_far ?_ ?_)) | (simp; done) | (simp; omega)); done) | (repeat' first | assumption | (refine heap_at ?_; (simp; done)) | refine heap_drew ?_ | refine heap_drewN ?_ | (refine heap_past ?_ ?_ <;> try (simp; done)) | (refine heap_far ?_ ?_ <;> try (simp; done))))); obtain ⟨p0, hp0, haddp0⟩ := str_add (str_lit (l := [32]) rfl) hsa.out (by first | omega | (simp; omega)); obtain ⟨p1, hp1, haddp1⟩ := str_add hp0.out (str_lit (l := [58]) rfl) (by first | omega | (simp; omega)))
            | (go_at_call 45; refine (i_NumText _ _ (HLD.out.below (by (first | ((repeat' first | (with_reducible (first | exact Below.refl _ _ | assumption | refine Below.setCell ?_ ?_ _ | refine Below.alloc ?_ ?_ _ | refine Below.drew ?_ | refine below_drewN ?_ _ | refine Below.trans ?_ (Below.mono (by assumption) ?_))) | omega | (simp; omega) | (simp; done)); done) | (repeat' first | exact Below.refl _ _ | assumption | refine Below.setCell ?_ (by first | omega | (simp; omega) | (simp; done)) _ | refine Below.alloc ?_ (by first | omega | (simp; omega) | (simp; done)) _ | refine Below.drew ?_ | refine below_drewN ?_ _ | refine Below.trans ?_ (Below.mono (by assumption) (by first | omega | (simp; omega) | (simp; done)))))))).mono ?_; rintro e wb ⟨rfl, hbb⟩; have zb := hbb.size; (try simp at zb); obtain ⟨sb, hsb', hsb⟩ := str_of (numL l[k].Amt); rw [hsb']; clear hsb'; obtain ⟨bh, b0, b1, b2, bf, bz⟩ := own3 (g := wr.heap.size) hbb (by first | omega | (simp; omega) | (simp; done)) (by (first | ((repeat' first | (with_reducible (first | assumption | (refine heap_at ?_; (first | rfl | (simp; done))) | refine heap_drew ?_ | refine heap_drewN ?_ | refine heap_past ?_ ?_ | refine heap_far ?_ ?_)) | (simp; done) | (simp; omega)); done) | (repeat' first | assumption | (refine heap_at ?_; (simp; done)) | refine heap_drew ?_ | refine heap_drewN ?_ | (refine heap_past ?_ ?_ <;> try (simp; done)) | (refine heap_far ?_ ?_ <;> try (simp; done))))); obtain ⟨p2, hp2, haddp2⟩ := str_add hp1.out hsb.out (by first | omega | (simp; omega)); obtain ⟨p3, hp3, haddp3⟩ := str_add hS.out hp2.out (by first | omega | (simp; omega))))
        all_goals
          go_wp2_with fail
          go_roundw
          case rel => exact ⟨k + 1, _, by omega, by go_num, rfl, Lib.hid (by
            rw [HK.out]
            have h := hp3.out
            unfold Str at h ⊢
            rw [h]
            simp [itemL]), by (first | ((repeat' first | (with_reducible (first | exact Below.refl _ _ | assumption | refine Below.setCell ?_ ?_ _ | refine Below.alloc ?_ ?_ _ | refine Below.drew ?_ | refine below_drewN ?_ _ | refine Below.trans ?_ (Below.mono (by assumption) ?_))) | omega | (simp; omega) | (simp; done)); done) | (repeat' first | exact Below.refl _ _ | assumption | refine Below.setCell ?_ (by first | omega | (simp; omega) | (simp; done)) _ | refine Below.alloc ?_ (by first | omega | (simp; omega) | (simp; done)) _ | refine Below.drew ?_ | refine below_drewN ?_ _ | refine Below.trans ?_ (Below.mono (by assumption) (by first | omega | (simp; omega) | (simp; done)))))⟩
          case measure => simp [intOf]; omega
      · obtain rfl : k = l.length := by omega
        rw [List.take_length] at hS
        go_wp2_with fail
        go_ret
        refine ⟨?_, by (first | ((repeat' first | (with_reducible (first | exact Below.refl _ _ | assumption | refine Below.setCell ?_ ?_ _ | refine Below.alloc ?_ ?_ _ | refine Below.drew ?_ | refine below_drewN ?_ _ | refine Below.trans ?_ (Below.mono (by assumption) ?_))) | omega | (simp; omega) | (simp; done)); done) | (repeat' first | exact Below.refl _ _ | assumption | refine Below.setCell ?_ (by first | omega | (simp; omega) | (simp; done)) _ | refine Below.alloc ?_ (by first | omega | (simp; omega) | (simp; done)) _ | refine Below.drew ?_ | refine below_drewN ?_ _ | refine Below.trans ?_ (Below.mono (by assumption) (by first | omega | (simp; omega) | (simp; done)))))⟩
        show Ending.returned (.string S) = _
        rw [HE.out, hS.out]
end Go.Proofs.YtgpledgjpjifcaaDoor
