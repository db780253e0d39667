/- Share: the walks. -/
import Derived.Test.YtkgnipaponfbkaaRows
import Derived.Test.YtkgnipaponfbkaaGainS
import Derived.Test.YtkgnipaponfbkaaMulI
import Derived.Test.YtkgnipaponfbkaaSteady
namespace Go.Proofs.Ytkgnipaponfbkaa
open Go.RowKit

def notCh (ch : Int) (g : Gain) : Bool := g.Ch != ch
def shareOf (l : List Gain) (ch : Int) : Int := match l.find? (fun g => !notCh ch g) with | some g => mulQ g.Fees 1000000 (gainSum l) | none => 0
theorem shareOf_none {l : List Gain} {ch : Int} (h : (l.take l.length).all (notCh ch) = true) : shareOf l ch = 0 := by
  rw [List.take_length] at h
  have : l.find? (fun g => !notCh ch g) = none := by
    rw [List.find?_eq_none]
    intro x hx
    simp [List.all_eq_true.1 h x hx]
  unfold shareOf
  rw [this]
theorem shareOf_at {l : List Gain} {ch : Int} {k : Nat} (hk : k < l.length) (h : (l.take k).all (notCh ch) = true) (hc : notCh ch l[k] = false) : shareOf l ch = mulQ l[k].Fees 1000000 (gainSum l) := by
  have e : l = l.take k ++ l[k] :: l.drop (k + 1) := by rw [List.getElem_cons_drop, List.take_append_drop]
  have : l.find? (fun g => !notCh ch g) = some l[k] := by
    have h1 : (l.take k).find? (fun g => !notCh ch g) = none := by
      rw [List.find?_eq_none]
      intro x hx
      simp [List.all_eq_true.1 h x hx]
    have h2 : (l.take k ++ l[k] :: l.drop (k + 1)).find? (fun g => !notCh ch g) = some l[k] := by
      rw [List.find?_append, h1, List.find?_cons_of_pos (by simp [hc])]
      rfl
    rwa [← e] at h2
  unfold shareOf
  rw [this]
set_option maxHeartbeats 1000000 in
theorem i_Share (l : List Gain) (ch : Int) (A : Option Addr) (cap : Nat) (w : World) (hl : l.length ≤ 1048576) (hr : Rd w w.heap.size 4 A (l.map Gain.cells)) :
    Calls Try.prog 54 #[.slice A l.length cap, .int .i64 ch] w fun e w' => e = .returned (.int .i64 (shareOf l ch)) ∧ Below w.heap.size w w' := by
  have HR := Lib.hid hr
  clear hr
  go_enter Try.func54, Try.ntmps54
  go_wp2_with fail
  go_loopw [11] (fun i wr => ∃ k : Nat, k ≤ l.length ∧ i = .int .i64 k ∧ Hid ((l.take k).all (notCh ch) = true) ∧ Below w.heap.size w wr) (fun i _ => l.length - (intOf i).toNat)
  case atStart => exact ⟨0, Nat.zero_le _, rfl, Lib.hid rfl, Below.refl _ _⟩
  case round =>
    obtain ⟨k, hk, rfl, HA, hbw⟩ := hrel
    have hbz := hbw.size
    by_cases hlt : k < l.length
    · obtain ⟨b, off, rfl, hbB, c0, c1, c2, c3⟩ := Gain.rd (HR.out.below hbw) hlt
      cases hch : (l[k].Ch == ch)
      · have HC := Lib.hid (show notCh ch l[k] = true by simp [notCh, bne, hch])
        go_wp2_with fail
        go_roundw
        case rel => exact ⟨k + 1, by omega, by go_num, Lib.hid (by rw [all_take_succ l _ hlt, HA.out, HC.out]; rfl), by (first | ((repeat' first | (with_reducible (first | exact Below.refl _ _ | assumption | refine Below.setCell ?_ ?_ _ | refine Below.alloc ?_ ?_ _ | refine Below.drew ?_ | refine below_drewN ?_ _ | refine Below.trans ?_ (Below.mono (by assumption) ?_))) | omega | (simp; omega) | (simp; done)); done) | (repeat' first | exact Below.refl _ _ | assumption | refine Below.setCell ?_ (by first | omega | (simp; omega) | (simp; done)) _ | refine Below.alloc ?_ (by first | omega | (simp; omega) | (simp; done)) _ | refine Below.drew ?_ | refine below_drewN ?_ _ | refine Below.trans ?_ (Below.mono (by assumption) (by first | omega | (simp; omega) | (simp; done)))))⟩
        case measure => simp [intOf]; omega
      · have HC := Lib.hid (show notCh ch l[k] = false by simp [notCh, bne, hch])
        go_wp2_with fail
        refine wp_region_steady (by kernel_rfl) (by kernel_rfl) ?_
        have K0 : ∀ w2, Above (wr.alloc (.cells #[.int .i64 l[k].Ch, .int .i64 l[k].Fees, .int .i64 l[k].Count, .int .i64 l[k].Failed] 60)).drew w2 → w2.cell? ⟨wr.heap.size, 0, none⟩ = some (.int .i64 l[k].Ch) ∧ w2.cell? ⟨wr.heap.size, 1, none⟩ = some (.int .i64 l[k].Fees) ∧ w2.cell? ⟨wr.heap.size, 2, none⟩ = some (.int .i64 l[k].Count) ∧ w2.cell? ⟨wr.heap.size, 3, none⟩ = some (.int .i64 l[k].Failed) := fun w2 hw2 => by
          obtain ⟨kh, k0, k1, k2, k3, kf, kz⟩ := own4 (g := wr.heap.size) hw2 (by first | omega | (simp; omega) | (simp; done)) (by (first | ((repeat' first | (with_reducible (first | assumption | refine heap_at ?_ | refine heap_drew ?_ | refine heap_drewN ?_ | refine heap_past ?_ ?_ | refine heap_far ?_ ?_)) | (simp; done)); done) | (repeat' first | assumption | (refine heap_at ?_; (simp; done)) | refine heap_drew ?_ | refine heap_drewN ?_ | (refine heap_past ?_ ?_ <;> try (simp; done)) | (refine heap_far ?_ ?_ <;> try (simp; done)))))
          exact ⟨k0, k1, k2, k3⟩
        have HK := Lib.hid K0
        clear K0
        repeat (first | (refine wpSteady_skip rfl ?_; intro K hK; go_simp; refine hK _ ?_; clear hK K) | (refine wpSteady_value ?_ rfl ?_ ?_; rotate_left; (focus (intro w2 hw2; obtain ⟨k0, k1, k2, k3⟩ := HK.out w2 hw2; go_simp; rfl)); intro K hK; go_simp; refine hK _ ?_; clear hK K))
        refine wpSteady_call 102 #[.slice (some ⟨b, off, none⟩) l.length cap] (.int .i64 (gainSum l)) rfl (fun w2 hw2 => by go_simp) (fun w2 hw2 => (i_GainSum l _ cap _ hl ((HR.out.below (by (first | ((repeat' first | (with_reducible (first | exact Below.refl _ _ | assumption | refine Below.setCell ?_ ?_ _ | refine Below.alloc ?_ ?_ _ | refine Below.drew ?_ | refine below_drewN ?_ _ | refine Below.trans ?_ (Below.mono (by assumption) ?_))) | omega | (simp; omega) | (simp; done)); done) | (repeat' first | exact Below.refl _ _ | assumption | refine Below.setCell ?_ (by first | omega | (simp; omega) | (simp; done)) _ | refine Below.alloc ?_ (by first | omega | (simp; omega) | (simp; done)) _ | refine Below.drew ?_ | refine below_drewN ?_ _ | refine Below.trans ?_ (Below.mono (by assumption) (by first | omega | (simp; omega) | (simp; done))))))).more (by have := hw2.size; simp at this; omega))).mono (fun e w3 hh => ⟨hh.1, hh.2⟩)) ?_
        intro K hK; go_simp; refine hK _ ?_; clear hK K
        refine wpSteady_call 88 #[.int .i64 l[k].Fees, .int .i64 1000000, .int .i64 (gainSum l)] (.tuple #[.int .i64 (mulQ l[k].Fees 1000000 (gainSum l)), .bool (mulOk l[k].Fees 1000000 (gainSum l))]) rfl (fun w2 hw2 => by go_simp) (fun w2 hw2 => (i_MulDiv _ _ _ _).mono (fun e w3 hh => hh)) ?_
        intro K hK; go_simp; refine hK _ ?_; clear hK K
        repeat (first | (refine wpSteady_skip rfl ?_; intro K hK; go_simp; refine hK _ ?_; clear hK K) | (refine wpSteady_value ?_ rfl ?_ ?_; rotate_left; (focus (intro w2 hw2; obtain ⟨k0, k1, k2, k3⟩ := HK.out w2 hw2; go_simp; rfl)); intro K hK; go_simp; refine hK _ ?_; clear hK K))
        refine wpSteady_nil ?_; intro w9 hb9
        go_wp2_with fail
        go_ret
        exact ⟨ret_int (shareOf_at hlt HA.out HC.out).symm, by (first | ((repeat' first | (with_reducible (first | exact Below.refl _ _ | assumption | refine Below.setCell ?_ ?_ _ | refine Below.alloc ?_ ?_ _ | refine Below.drew ?_ | refine below_drewN ?_ _ | refine Below.trans ?_ (Below.mono (by assumption) ?_))) | omega | (simp; omega) | (simp; done)); done) | (repeat' first | exact Below.refl _ _ | assumption | refine Below.setCell ?_ (by first | omega | (simp; omega) | (simp; done)) _ | refine Below.alloc ?_ (by first | omega | (simp; omega) | (simp; done)) _ | refine Below.drew ?_ | refine below_drewN ?_ _ | refine Below.trans ?_ (Below.mono (by assumption) (by first | omega | (simp; omega) | (simp; done)))))⟩
    · obtain rfl : k = l.length := by omega
      go_wp2_with fail
      go_ret
      exact ⟨ret_int (shareOf_none HA.out).symm, by (first | ((repeat' first | (with_reducible (first | exact Below.refl _ _ | assumption | refine Below.setCell ?_ ?_ _ | refine Below.alloc ?_ ?_ _ | refine Below.drew ?_ | refine below_drewN ?_ _ | refine Below.trans ?_ (Below.mono (by assumption) ?_))) | omega | (simp; omega) | (simp; done)); done) | (repeat' first | exact Below.refl _ _ | assumption | refine Below.setCell ?_ (by first | omega | (simp; omega) | (simp; done)) _ | refine Below.alloc ?_ (by first | omega | (simp; omega) | (simp; done)) _ | refine Below.drew ?_ | refine below_drewN ?_ _ | refine Below.trans ?_ (Below.mono (by assumption) (by first | omega | (simp; omega) | (simp; done)))))⟩
set_option maxHeartbeats 1000000 in
theorem s_Share (l : List Gain) (ch : Int) (A : Option Addr) (cap : Nat) (w : World) (hl : l.length ≤ 1048576) (hr : Rd w w.heap.size 4 A (l.map Gain.cells)) :
    Calls Try.prog 52 #[.slice A l.length cap, .int .i64 ch] w fun e w' => e = .returned (.int .i64 (shareOf l ch)) ∧ Below w.heap.size w w' := by
  have HR := Lib.hid hr
  clear hr
  go_enter Try.func52, Try.ntmps52
  go_wp2_with fail
  go_loopw [11] (fun i wr => ∃ k : Nat, k ≤ l.length ∧ i = .int .i64 k ∧ Hid ((l.take k).all (notCh ch) = true) ∧ Below w.heap.size w wr) (fun i _ => l.length - (intOf i).toNat)
  case atStart => exact ⟨0, Nat.zero_le _, rfl, Lib.hid rfl, Below.refl _ _⟩
  case round =>
    obtain ⟨k, hk, rfl, HA, hbw⟩ := hrel
    have hbz := hbw.size
    by_cases hlt : k < l.length
    · obtain ⟨b, off, rfl, hbB, c0, c1, c2, c3⟩ := Gain.rd (HR.out.below hbw) hlt
      cases hch : (l[k].Ch == ch)
      · have HC := Lib.hid (show notCh ch l[k] = true by simp [notCh, bne, hch])
        go_wp2_with fail
        go_roundw
        case rel => exact ⟨k + 1, by omega, by go_num, Lib.hid (by rw [all_take_succ l _ hlt, HA.out, HC.out]; rfl), by (first | ((repeat' first | (with_reducible (first | exact Below.refl _ _ | assumption | refine Below.setCell ?_ ?_ _ | refine Below.alloc ?_ ?_ _ | refine Below.drew ?_ | refine below_drewN ?_ _ | refine Below.trans ?_ (Below.mono (by assumption) ?_))) | omega | (simp; omega) | (simp; done)); done) | (repeat' first | exact Below.refl _ _ | assumption | refine Below.setCell ?_ (by first | omega | (simp; omega) | (simp; done)) _ | refine Below.alloc ?_ (by first | omega | (simp; omega) | (simp; done)) _ | refine Below.drew ?_ | refine below_drewN ?_ _ | refine Below.trans ?_ (Below.mono (by assumption) (by first | omega | (simp; omega) | (simp; done)))))⟩
        case measure => simp [intOf]; omega
      · have HC := Lib.hid (show notCh ch l[k] = false by simp [notCh, bne, hch])
        go_wp2_with fail
        refine wp_region_steady (by kernel_rfl) (by kernel_rfl) ?_
        have K0 : ∀ w2, Above (wr.alloc (.cells #[.int .i64 l[k].Ch, .int .i64 l[k].Fees, .int .i64 l[k].Count, .int .i64 l[k].Failed] 60)).drew w2 → w2.cell? ⟨wr.heap.size, 0, none⟩ = some (.int .i64 l[k].Ch) ∧ w2.cell? ⟨wr.heap.size, 1, none⟩ = some (.int .i64 l[k].Fees) ∧ w2.cell? ⟨wr.heap.size, 2, none⟩ = some (.int .i64 l[k].Count) ∧ w2.cell? ⟨wr.heap.size, 3, none⟩ = some (.int .i64 l[k].Failed) := fun w2 hw2 => by
          obtain ⟨kh, k0, k1, k2, k3, kf, kz⟩ := own4 (g := wr.heap.size) hw2 (by first | omega | (simp; omega) | (simp; done)) (by (first | ((repeat' first | (with_reducible (first | assumption | refine heap_at ?_ | refine heap_drew ?_ | refine heap_drewN ?_ | refine heap_past ?_ ?_ | refine heap_far ?_ ?_)) | (simp; done)); done) | (repeat' first | assumption | (refine heap_at ?_; (simp; done)) | refine heap_drew ?_ | refine heap_drewN ?_ | (refine heap_past ?_ ?_ <;> try (simp; done)) | (refine heap_far ?_ ?_ <;> try (simp; done)))))
          exact ⟨k0, k1, k2, k3⟩
        have HK := Lib.hid K0
        clear K0
        repeat (first | (refine wpSteady_skip rfl ?_; intro K hK; go_simp; refine hK _ ?_; clear hK K) | (refine wpSteady_value ?_ rfl ?_ ?_; rotate_left; (focus (intro w2 hw2; obtain ⟨k0, k1, k2, k3⟩ := HK.out w2 hw2; go_simp; rfl)); intro K hK; go_simp; refine hK _ ?_; clear hK K))
        refine wpSteady_call 101 #[.slice (some ⟨b, off, none⟩) l.length cap] (.int .i64 (gainSum l)) rfl (fun w2 hw2 => by go_simp) (fun w2 hw2 => (s_GainSum l _ cap _ hl ((HR.out.below (by (first | ((repeat' first | (with_reducible (first | exact Below.refl _ _ | assumption | refine Below.setCell ?_ ?_ _ | refine Below.alloc ?_ ?_ _ | refine Below.drew ?_ | refine below_drewN ?_ _ | refine Below.trans ?_ (Below.mono (by assumption) ?_))) | omega | (simp; omega) | (simp; done)); done) | (repeat' first | exact Below.refl _ _ | assumption | refine Below.setCell ?_ (by first | omega | (simp; omega) | (simp; done)) _ | refine Below.alloc ?_ (by first | omega | (simp; omega) | (simp; done)) _ | refine Below.drew ?_ | refine below_drewN ?_ _ | refine Below.trans ?_ (Below.mono (by assumption) (by first | omega | (simp; omega) | (simp; done))))))).more (by have := hw2.size; simp at this; omega))).mono (fun e w3 hh => ⟨hh.1, hh.2⟩)) ?_
        intro K hK; go_simp; refine hK _ ?_; clear hK K
        refine wpSteady_call 90 #[.int .i64 l[k].Fees, .int .i64 1000000, .int .i64 (gainSum l)] (.tuple #[.int .i64 (mulQ l[k].Fees 1000000 (gainSum l)), .bool (mulOk l[k].Fees 1000000 (gainSum l))]) rfl (fun w2 hw2 => by go_simp) (fun w2 hw2 => (s_MulDiv _ _ _ _).mono (fun e w3 hh => ⟨hh.1, by rw [← hh.2]; exact Below.refl _ _⟩)) ?_
        intro K hK; go_simp; refine hK _ ?_; clear hK K
        repeat (first | (refine wpSteady_skip rfl ?_; intro K hK; go_simp; refine hK _ ?_; clear hK K) | (refine wpSteady_value ?_ rfl ?_ ?_; rotate_left; (focus (intro w2 hw2; obtain ⟨k0, k1, k2, k3⟩ := HK.out w2 hw2; go_simp; rfl)); intro K hK; go_simp; refine hK _ ?_; clear hK K))
        refine wpSteady_nil ?_; intro w9 hb9
        go_wp2_with fail
        go_ret
        exact ⟨ret_int (shareOf_at hlt HA.out HC.out).symm, by (first | ((repeat' first | (with_reducible (first | exact Below.refl _ _ | assumption | refine Below.setCell ?_ ?_ _ | refine Below.alloc ?_ ?_ _ | refine Below.drew ?_ | refine below_drewN ?_ _ | refine Below.trans ?_ (Below.mono (by assumption) ?_))) | omega | (simp; omega) | (simp; done)); done) | (repeat' first | exact Below.refl _ _ | assumption | refine Below.setCell ?_ (by first | omega | (simp; omega) | (simp; done)) _ | refine Below.alloc ?_ (by first | omega | (simp; omega) | (simp; done)) _ | refine Below.drew ?_ | refine below_drewN ?_ _ | refine Below.trans ?_ (Below.mono (by assumption) (by first | omega | (simp; omega) | (simp; done)))))⟩
    · obtain rfl : k = l.length := by omega
      go_wp2_with fail
      go_ret
      exact ⟨ret_int (shareOf_none HA.out).symm, by (first | ((repeat' first | (with_reducible (first | exact Below.refl _ _ | assumption | refine Below.setCell ?_ ?_ _ | refine Below.alloc ?_ ?_ _ | refine Below.drew ?_ | refine below_drewN ?_ _ | refine Below.trans ?_ (Below.mono (by assumption) ?_))) | omega | (simp; omega) | (simp; done)); done) | (repeat' first | exact Below.refl _ _ | assumption | refine Below.setCell ?_ (by first | omega | (simp; omega) | (simp; done)) _ | refine Below.alloc ?_ (by first | omega | (simp; omega) | (simp; done)) _ | refine Below.drew ?_ | refine below_drewN ?_ _ | refine Below.trans ?_ (Below.mono (by assumption) (by first | omega | (simp; omega) | (simp; done)))))⟩
end Go.Proofs.Ytkgnipaponfbkaa
