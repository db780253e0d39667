/- Purses: what may be spent: the walks of the reference. -/
import Derived.Test.YtplchgkppkibnaaRows
import Derived.Test.YtplchgkppkibnaaPurseM
import Derived.Test.YtplchgkppkibnaaPurseSk
import Derived.Test.YtplchgkppkibnaaSteady
namespace Go.Proofs.Ytplchgkppkibnaa
open Go.RowKit

def askB (c s at_ n : Int) (l : List Coin) : Bool := purseOk c s l && canAsk l at_ n
set_option maxHeartbeats 2000000 in
theorem s_l23Ask (c s at_ n : Int) (l : List Coin) (A : Option Addr) (cap : Nat) (w : World) (hl : l.length ≤ 1048576) (hr : Rd w w.heap.size 2 A (l.map Coin.cells)) :
    Calls Try.prog 99 #[.agg #[.int .i64 c, .int .i64 s, .slice A l.length cap], .int .i64 at_, .int .i64 n] w fun e w' => e = .returned (.bool (askB c s at_ n l)) ∧ Below w.heap.size w w' := by
  have HR := Lib.hid hr
  clear hr
  cases h1 : purseOk c s l
  · go_enter Try.func99, Try.ntmps99
    go_wp2_with fail
    refine (s_PurseOk c s l A cap _ hl ((HR.out.below (by (first | ((repeat' first | (with_reducible (first | exact Below.refl _ _ | assumption | refine Below.setCell ?_ ?_ _ | refine Below.alloc ?_ ?_ _ | refine Below.drew ?_ | refine below_drewN ?_ _ | refine Below.trans ?_ (Below.mono (by assumption) ?_))) | omega | (simp; omega) | (simp; done)); done) | (repeat' first | exact Below.refl _ _ | assumption | refine Below.setCell ?_ (by first | omega | (simp; omega) | (simp; done)) _ | refine Below.alloc ?_ (by first | omega | (simp; omega) | (simp; done)) _ | refine Below.drew ?_ | refine below_drewN ?_ _ | refine Below.trans ?_ (Below.mono (by assumption) (by first | omega | (simp; omega) | (simp; done))))))).more (by simp))).mono ?_
    rintro e w1 ⟨rfl, hb1⟩
    have z1 := hb1.size
    try simp at z1
    rw [h1]
    go_wp2_with fail
    go_ret
    exact ⟨ret_bool (by simp [askB, h1]), by (first | ((repeat' first | (with_reducible (first | exact Below.refl _ _ | assumption | refine Below.setCell ?_ ?_ _ | refine Below.alloc ?_ ?_ _ | refine Below.drew ?_ | refine below_drewN ?_ _ | refine Below.trans ?_ (Below.mono (by assumption) ?_))) | omega | (simp; omega) | (simp; done)); done) | (repeat' first | exact Below.refl _ _ | assumption | refine Below.setCell ?_ (by first | omega | (simp; omega) | (simp; done)) _ | refine Below.alloc ?_ (by first | omega | (simp; omega) | (simp; done)) _ | refine Below.drew ?_ | refine below_drewN ?_ _ | refine Below.trans ?_ (Below.mono (by assumption) (by first | omega | (simp; omega) | (simp; done)))))⟩
  · cases h2 : timeB at_
    · go_enter Try.func99, Try.ntmps99
      go_wp2_with fail
      refine (s_PurseOk c s l A cap _ hl ((HR.out.below (by (first | ((repeat' first | (with_reducible (first | exact Below.refl _ _ | assumption | refine Below.setCell ?_ ?_ _ | refine Below.alloc ?_ ?_ _ | refine Below.drew ?_ | refine below_drewN ?_ _ | refine Below.trans ?_ (Below.mono (by assumption) ?_))) | omega | (simp; omega) | (simp; done)); done) | (repeat' first | exact Below.refl _ _ | assumption | refine Below.setCell ?_ (by first | omega | (simp; omega) | (simp; done)) _ | refine Below.alloc ?_ (by first | omega | (simp; omega) | (simp; done)) _ | refine Below.drew ?_ | refine below_drewN ?_ _ | refine Below.trans ?_ (Below.mono (by assumption) (by first | omega | (simp; omega) | (simp; done))))))).more (by simp))).mono ?_
      rintro e w1 ⟨rfl, hb1⟩
      have z1 := hb1.size
      try simp at z1
      rw [h1]
      go_wp2_with (go_at_call 56; refine (s_l15Time _ _).mono ?_; rintro e w' ⟨rfl, rfl⟩)
      go_ret
      exact ⟨ret_bool (by simp [askB, canAsk, h1, h2]), by (first | ((repeat' first | (with_reducible (first | exact Below.refl _ _ | assumption | refine Below.setCell ?_ ?_ _ | refine Below.alloc ?_ ?_ _ | refine Below.drew ?_ | refine below_drewN ?_ _ | refine Below.trans ?_ (Below.mono (by assumption) ?_))) | omega | (simp; omega) | (simp; done)); done) | (repeat' first | exact Below.refl _ _ | assumption | refine Below.setCell ?_ (by first | omega | (simp; omega) | (simp; done)) _ | refine Below.alloc ?_ (by first | omega | (simp; omega) | (simp; done)) _ | refine Below.drew ?_ | refine below_drewN ?_ _ | refine Below.trans ?_ (Below.mono (by assumption) (by first | omega | (simp; omega) | (simp; done)))))⟩
    · have h4 : (amtB n = false ∧ inB n 1 1125899906842624 = false) ∨ (amtB n = true ∧ n ≤ 0 ∧ inB n 1 1125899906842624 = false) ∨ (amtB n = true ∧ 0 < n ∧ inB n 1 1125899906842624 = true) := by
        cases ha : amtB n
        · refine .inl ⟨rfl, ?_⟩
          cases hb : inB n 1 1125899906842624
          · rfl
          · rw [amtB_iff.2 ⟨by have := inB_iff.1 hb; omega, (inB_iff.1 hb).2⟩] at ha
            cases ha
        · have hh := amtB_iff.1 ha
          by_cases h0 : n ≤ 0
          · refine .inr (.inl ⟨rfl, h0, ?_⟩)
            cases hb : inB n 1 1125899906842624
            · rfl
            · have := inB_iff.1 hb; omega
          · exact .inr (.inr ⟨rfl, by omega, inB_iff.2 ⟨by omega, hh.2⟩⟩)
      by_cases h0 : 0 < l.length
      · obtain ⟨j, hj⟩ : ∃ j, l.length = j + 1 := ⟨l.length - 1, by omega⟩
        have hjl : j < l.length := by omega
        have hlast : lastAt l = l[j].At := by rw [lastAt_get h0]; congr 1; congr 1; omega
        obtain ⟨b, off, rfl, hbB, c0, c1⟩ := Coin.rd HR.out hjl
        have i1 : (0 : Int) ≤ (j : Int) := by omega
        have i2 : (j : Int) < (l.length : Int) := by omega
        have i3 : ((l.length : Int) == 0) = false := by rw [beq_eq_false_iff_ne]; omega
        have e1 : (l.length : Int) - 1 = (j : Int) := by omega
        have HL := Lib.hid hlast
        clear hj h0 hlast
        by_cases h3 : l[j].At ≤ at_
        · rcases h4 with ⟨h4, h5⟩ | ⟨h4, h6, h5⟩ | ⟨h4, h6, h5⟩
          all_goals
            have H5 := Lib.hid h5
            clear h5
            go_enter Try.func99, Try.ntmps99
            go_wp2_with fail
            refine (s_PurseOk c s l _ cap _ hl ((HR.out.below (by (first | ((repeat' first | (with_reducible (first | exact Below.refl _ _ | assumption | refine Below.setCell ?_ ?_ _ | refine Below.alloc ?_ ?_ _ | refine Below.drew ?_ | refine below_drewN ?_ _ | refine Below.trans ?_ (Below.mono (by assumption) ?_))) | omega | (simp; omega) | (simp; done)); done) | (repeat' first | exact Below.refl _ _ | assumption | refine Below.setCell ?_ (by first | omega | (simp; omega) | (simp; done)) _ | refine Below.alloc ?_ (by first | omega | (simp; omega) | (simp; done)) _ | refine Below.drew ?_ | refine below_drewN ?_ _ | refine Below.trans ?_ (Below.mono (by assumption) (by first | omega | (simp; omega) | (simp; done))))))).more (by simp))).mono ?_
            rintro e w1 ⟨rfl, hb1⟩
            have z1 := hb1.size
            try simp at z1
            rw [h1]
            obtain ⟨kh, k0, k1, k2, kf, kz⟩ := own3 (g := w.heap.size) hb1 (by first | omega | (simp; omega) | (simp; done)) (by (first | ((repeat' first | (with_reducible (first | assumption | (refine heap_at ?_; (first | rfl | (simp; done))) | refine heap_drew ?_ | refine heap_drewN ?_ | refine heap_past ?_ ?_ | refine heap_far ?_ ?_)) | (simp; done) | (simp; omega)); done) | (repeat' first | assumption | (refine heap_at ?_; (simp; done)) | refine heap_drew ?_ | refine heap_drewN ?_ | (refine heap_past ?_ ?_ <;> try (simp; done)) | (refine heap_far ?_ ?_ <;> try (simp; done)))))
            have d0 := (hb1.cell (p := ⟨b, off + j * 2, none⟩) (by simp; omega)).trans (by simpa [go_sem, World.cell?_alloc_past, hbB] using c0)
            clear c0 c1
            go_wp2_with (first | (go_at_call 56; refine (s_l15Time _ _).mono ?_; rintro e w' ⟨rfl, rfl⟩) | (go_at_call 54; refine (s_AmtOk _ _).mono ?_; rintro e w' ⟨rfl, rfl⟩))
            go_ret
            exact ⟨ret_bool (by simp [askB, canAsk, h1, h2, HL.out, h3, H5.out] <;> omega), by (first | ((repeat' first | (with_reducible (first | exact Below.refl _ _ | assumption | refine Below.setCell ?_ ?_ _ | refine Below.alloc ?_ ?_ _ | refine Below.drew ?_ | refine below_drewN ?_ _ | refine Below.trans ?_ (Below.mono (by assumption) ?_))) | omega | (simp; omega) | (simp; done)); done) | (repeat' first | exact Below.refl _ _ | assumption | refine Below.setCell ?_ (by first | omega | (simp; omega) | (simp; done)) _ | refine Below.alloc ?_ (by first | omega | (simp; omega) | (simp; done)) _ | refine Below.drew ?_ | refine below_drewN ?_ _ | refine Below.trans ?_ (Below.mono (by assumption) (by first | omega | (simp; omega) | (simp; done)))))⟩
        · clear h4
          go_enter Try.func99, Try.ntmps99
          go_wp2_with fail
          refine (s_PurseOk c s l _ cap _ hl ((HR.out.below (by (first | ((repeat' first | (with_reducible (first | exact Below.refl _ _ | assumption | refine Below.setCell ?_ ?_ _ | refine Below.alloc ?_ ?_ _ | refine Below.drew ?_ | refine below_drewN ?_ _ | refine Below.trans ?_ (Below.mono (by assumption) ?_))) | omega | (simp; omega) | (simp; done)); done) | (repeat' first | exact Below.refl _ _ | assumption | refine Below.setCell ?_ (by first | omega | (simp; omega) | (simp; done)) _ | refine Below.alloc ?_ (by first | omega | (simp; omega) | (simp; done)) _ | refine Below.drew ?_ | refine below_drewN ?_ _ | refine Below.trans ?_ (Below.mono (by assumption) (by first | omega | (simp; omega) | (simp; done))))))).more (by simp))).mono ?_
          rintro e w1 ⟨rfl, hb1⟩
          have z1 := hb1.size
          try simp at z1
          rw [h1]
          obtain ⟨kh, k0, k1, k2, kf, kz⟩ := own3 (g := w.heap.size) hb1 (by first | omega | (simp; omega) | (simp; done)) (by (first | ((repeat' first | (with_reducible (first | assumption | (refine heap_at ?_; (first | rfl | (simp; done))) | refine heap_drew ?_ | refine heap_drewN ?_ | refine heap_past ?_ ?_ | refine heap_far ?_ ?_)) | (simp; done) | (simp; omega)); done) | (repeat' first | assumption | (refine heap_at ?_; (simp; done)) | refine heap_drew ?_ | refine heap_drewN ?_ | (refine heap_past ?_ ?_ <;> try (simp; done)) | (refine heap_far ?_ ?_ <;> try (simp; done)))))
          have d0 := (hb1.cell (p := ⟨b, off + j * 2, none⟩) (by simp; omega)).trans (by simpa [go_sem, World.cell?_alloc_past, hbB] using c0)
          clear c0 c1
          go_wp2_with (first | (go_at_call 56; refine (s_l15Time _ _).mono ?_; rintro e w' ⟨rfl, rfl⟩) | (go_at_call 54; refine (s_AmtOk _ _).mono ?_; rintro e w' ⟨rfl, rfl⟩))
          go_ret
          exact ⟨ret_bool (by simp [askB, canAsk, h1, h2, HL.out]; omega), by (first | ((repeat' first | (with_reducible (first | exact Below.refl _ _ | assumption | refine Below.setCell ?_ ?_ _ | refine Below.alloc ?_ ?_ _ | refine Below.drew ?_ | refine below_drewN ?_ _ | refine Below.trans ?_ (Below.mono (by assumption) ?_))) | omega | (simp; omega) | (simp; done)); done) | (repeat' first | exact Below.refl _ _ | assumption | refine Below.setCell ?_ (by first | omega | (simp; omega) | (simp; done)) _ | refine Below.alloc ?_ (by first | omega | (simp; omega) | (simp; done)) _ | refine Below.drew ?_ | refine below_drewN ?_ _ | refine Below.trans ?_ (Below.mono (by assumption) (by first | omega | (simp; omega) | (simp; done)))))⟩
      · have hn : l = [] := List.eq_nil_of_length_eq_zero (by omega)
        subst hn
        have ht := (timeB_iff.1 h2).1
        rcases h4 with ⟨h4, h5⟩ | ⟨h4, h6, h5⟩ | ⟨h4, h6, h5⟩
        all_goals
          have H5 := Lib.hid h5
          clear h5 h0
          go_enter Try.func99, Try.ntmps99
          go_wp2_with fail
          refine (s_PurseOk c s [] _ cap _ hl ((HR.out.below (by (first | ((repeat' first | (with_reducible (first | exact Below.refl _ _ | assumption | refine Below.setCell ?_ ?_ _ | refine Below.alloc ?_ ?_ _ | refine Below.drew ?_ | refine below_drewN ?_ _ | refine Below.trans ?_ (Below.mono (by assumption) ?_))) | omega | (simp; omega) | (simp; done)); done) | (repeat' first | exact Below.refl _ _ | assumption | refine Below.setCell ?_ (by first | omega | (simp; omega) | (simp; done)) _ | refine Below.alloc ?_ (by first | omega | (simp; omega) | (simp; done)) _ | refine Below.drew ?_ | refine below_drewN ?_ _ | refine Below.trans ?_ (Below.mono (by assumption) (by first | omega | (simp; omega) | (simp; done))))))).more (by simp))).mono ?_
          rintro e w1 ⟨rfl, hb1⟩
          have z1 := hb1.size
          try simp at z1
          rw [h1]
          obtain ⟨kh, k0, k1, k2, kf, kz⟩ := own3 (g := w.heap.size) hb1 (by first | omega | (simp; omega) | (simp; done)) (by (first | ((repeat' first | (with_reducible (first | assumption | (refine heap_at ?_; (first | rfl | (simp; done))) | refine heap_drew ?_ | refine heap_drewN ?_ | refine heap_past ?_ ?_ | refine heap_far ?_ ?_)) | (simp; done) | (simp; omega)); done) | (repeat' first | assumption | (refine heap_at ?_; (simp; done)) | refine heap_drew ?_ | refine heap_drewN ?_ | (refine heap_past ?_ ?_ <;> try (simp; done)) | (refine heap_far ?_ ?_ <;> try (simp; done)))))
          go_wp2_with (first | (go_at_call 56; refine (s_l15Time _ _).mono ?_; rintro e w' ⟨rfl, rfl⟩) | (go_at_call 54; refine (s_AmtOk _ _).mono ?_; rintro e w' ⟨rfl, rfl⟩))
          go_ret
          exact ⟨ret_bool (by simp [askB, canAsk, lastAt_nil, h1, h2, H5.out, ht] <;> omega), by (first | ((repeat' first | (with_reducible (first | exact Below.refl _ _ | assumption | refine Below.setCell ?_ ?_ _ | refine Below.alloc ?_ ?_ _ | refine Below.drew ?_ | refine below_drewN ?_ _ | refine Below.trans ?_ (Below.mono (by assumption) ?_))) | omega | (simp; omega) | (simp; done)); done) | (repeat' first | exact Below.refl _ _ | assumption | refine Below.setCell ?_ (by first | omega | (simp; omega) | (simp; done)) _ | refine Below.alloc ?_ (by first | omega | (simp; omega) | (simp; done)) _ | refine Below.drew ?_ | refine below_drewN ?_ _ | refine Below.trans ?_ (Below.mono (by assumption) (by first | omega | (simp; omega) | (simp; done)))))⟩
theorem askB_may {c s at_ n : Int} {l : List Coin} : maySpend c s at_ n l = (askB c s at_ n l && mayB c s at_ n l) := rfl
theorem askB_used {c s at_ n : Int} {l : List Coin} (h : askB c s at_ n l = true) : usedR c s at_ l = counted s at_ l := by
  simp only [askB, Bool.and_eq_true] at h
  have hf : purseForm c s l = true := by
    have := h.1
    simp only [purseOk, Bool.and_eq_true] at this
    exact this.1
  have ha : lastAt l ≤ at_ := by
    have := h.2
    simp only [canAsk, Bool.and_eq_true, decide_eq_true_eq] at this
    exact this.1.2
  rw [usedR, if_pos hf, if_pos (counted_amt h.1 ha)]
set_option maxHeartbeats 2000000 in
theorem s_MaySpend (c s at_ n : Int) (l : List Coin) (A : Option Addr) (cap : Nat) (w : World) (hl : l.length ≤ 1048576) (hr : Rd w w.heap.size 2 A (l.map Coin.cells)) :
    Calls Try.prog 78 #[.agg #[.int .i64 c, .int .i64 s, .slice A l.length cap], .int .i64 at_, .int .i64 n] w fun e w' => e = .returned (.bool (maySpend c s at_ n l)) ∧ Below w.heap.size w w' := by
  have HR := Lib.hid hr
  clear hr
  cases h1 : askB c s at_ n l
  · have H1 := Lib.hid h1
    clear h1
    go_enter Try.func78, Try.ntmps78
    go_wp2_with fail
    refine wp_region_steady (by kernel_rfl) (by kernel_rfl) ?_
    have K0 : ∀ w2, Above (w.alloc (.cells #[.int .i64 c, .int .i64 s, .slice A l.length cap] 59)).drew w2 → w2.cell? ⟨w.heap.size, 0, none⟩ = some (.int .i64 c) ∧ w2.cell? ⟨w.heap.size, 1, none⟩ = some (.int .i64 s) ∧ w2.cell? ⟨w.heap.size, 2, none⟩ = some (.slice A l.length cap) := fun w2 hw2 => by
      obtain ⟨kh, k0, k1, k2, kf, kz⟩ := own3 (g := w.heap.size) hw2 (by first | omega | (simp; omega) | (simp; done)) (by (first | ((repeat' first | (with_reducible (first | assumption | (refine heap_at ?_; (first | rfl | (simp; done))) | refine heap_drew ?_ | refine heap_drewN ?_ | refine heap_past ?_ ?_ | refine heap_far ?_ ?_)) | (simp; done) | (simp; omega)); done) | (repeat' first | assumption | (refine heap_at ?_; (simp; done)) | refine heap_drew ?_ | refine heap_drewN ?_ | (refine heap_past ?_ ?_ <;> try (simp; done)) | (refine heap_far ?_ ?_ <;> try (simp; done)))))
      exact ⟨k0, k1, k2⟩
    have HK := Lib.hid K0
    clear K0
    repeat (first | (refine wpSteady_skip rfl ?_; intro K hK; go_simp; refine hK _ ?_; clear hK K) | (refine wpSteady_value ?_ rfl ?_ ?_; rotate_left; (focus (intro w2 hw2; obtain ⟨k0, k1, k2⟩ := HK.out w2 hw2; go_simp; rfl)); intro K hK; go_simp; refine hK _ ?_; clear hK K))
    refine wpSteady_call 99 #[.agg #[.int .i64 c, .int .i64 s, .slice A l.length cap], .int .i64 at_, .int .i64 n] (.bool false) rfl (fun w2 hw2 => by go_simp) (fun w2 hw2 => (s_l23Ask c s at_ n l _ cap _ hl ((HR.out.below (by (first | ((repeat' first | (with_reducible (first | exact Below.refl _ _ | assumption | refine Below.setCell ?_ ?_ _ | refine Below.alloc ?_ ?_ _ | refine Below.drew ?_ | refine below_drewN ?_ _ | refine Below.trans ?_ (Below.mono (by assumption) ?_))) | omega | (simp; omega) | (simp; done)); done) | (repeat' first | exact Below.refl _ _ | assumption | refine Below.setCell ?_ (by first | omega | (simp; omega) | (simp; done)) _ | refine Below.alloc ?_ (by first | omega | (simp; omega) | (simp; done)) _ | refine Below.drew ?_ | refine below_drewN ?_ _ | refine Below.trans ?_ (Below.mono (by assumption) (by first | omega | (simp; omega) | (simp; done))))))).more (by have := hw2.size; simp at this; omega))).mono (fun e w3 hh => ⟨hh.1.trans (by rw [H1.out]), hh.2⟩)) ?_
    intro K hK; go_simp; refine hK _ ?_; clear hK K
    repeat (first | (refine wpSteady_skip rfl ?_; intro K hK; go_simp; refine hK _ ?_; clear hK K) | (refine wpSteady_value ?_ rfl ?_ ?_; rotate_left; (focus (intro w2 hw2; obtain ⟨k0, k1, k2⟩ := HK.out w2 hw2; go_simp; rfl)); intro K hK; go_simp; refine hK _ ?_; clear hK K))
    refine wpSteady_nil ?_; intro w9 hb9
    go_wp2_with fail
    go_ret
    exact ⟨ret_bool (by rw [askB_may, H1.out]; rfl), by (first | ((repeat' first | (with_reducible (first | exact Below.refl _ _ | assumption | refine Below.setCell ?_ ?_ _ | refine Below.alloc ?_ ?_ _ | refine Below.drew ?_ | refine below_drewN ?_ _ | refine Below.trans ?_ (Below.mono (by assumption) ?_))) | omega | (simp; omega) | (simp; done)); done) | (repeat' first | exact Below.refl _ _ | assumption | refine Below.setCell ?_ (by first | omega | (simp; omega) | (simp; done)) _ | refine Below.alloc ?_ (by first | omega | (simp; omega) | (simp; done)) _ | refine Below.drew ?_ | refine below_drewN ?_ _ | refine Below.trans ?_ (Below.mono (by assumption) (by first | omega | (simp; omega) | (simp; done)))))⟩
  · have hu := askB_used h1
    have hf : CoinsOk l := by
      simp only [askB, purseOk, Bool.and_eq_true] at h1
      exact (purseForm_iff.1 h1.1.1).1
    have hn : 1 ≤ n ∧ n ≤ 1125899906842624 := by
      simp only [askB, canAsk, Bool.and_eq_true] at h1
      exact inB_iff.1 h1.2.2
    obtain ⟨n1, n2⟩ := hn
    obtain ⟨g1, g2⟩ := counted_all s at_ hf
    have HU := Lib.hid hu
    have H1 := Lib.hid h1
    clear hu h1 hf
    cases hD : decide (counted s at_ l + n ≤ c)
    all_goals
      have e1 : IntKind.i64.wrap (counted s at_ l + n) = counted s at_ l + n := IntWalk.i64_in _ ⟨by omega, by omega⟩
      have E1 := Lib.hid e1
      clear e1
      go_enter Try.func78, Try.ntmps78
      go_wp2_with fail
      go_region_held3 (fun w' => w'.cell? ⟨w.heap.size, 0, none⟩ = some (.int .i64 c) ∧ w'.cell? ⟨w.heap.size, 1, none⟩ = some (.int .i64 s) ∧ w'.cell? ⟨w.heap.size, 2, none⟩ = some (.slice A l.length cap)) (first | exact ⟨q0, q1, q2⟩ | exact ⟨p0, p1, p2⟩ | (simp [go_sem]; done))
        (first | (go_at_call 99; refine (s_l23Ask c s at_ n l _ cap _ hl ((HR.out.below (by (first | ((repeat' first | (with_reducible (first | exact Below.refl _ _ | assumption | refine Below.setCell ?_ ?_ _ | refine Below.alloc ?_ ?_ _ | refine Below.drew ?_ | refine below_drewN ?_ _ | refine Below.trans ?_ (Below.mono (by assumption) ?_))) | omega | (simp; omega) | (simp; done)); done) | (repeat' first | exact Below.refl _ _ | assumption | refine Below.setCell ?_ (by first | omega | (simp; omega) | (simp; done)) _ | refine Below.alloc ?_ (by first | omega | (simp; omega) | (simp; done)) _ | refine Below.drew ?_ | refine below_drewN ?_ _ | refine Below.trans ?_ (Below.mono (by assumption) (by first | omega | (simp; omega) | (simp; done))))))).more (by simp))).mono ?_; rintro e w2 ⟨rfl, hb2⟩; rw [H1.out]; have z2 := hb2.size; (try simp at z2); obtain ⟨ph, p0, p1, p2, pf, pz⟩ := own3 (g := w.heap.size) hb2 (by first | omega | (simp; omega) | (simp; done)) (by (first | ((repeat' first | (with_reducible (first | assumption | (refine heap_at ?_; (first | rfl | (simp; done))) | refine heap_drew ?_ | refine heap_drewN ?_ | refine heap_past ?_ ?_ | refine heap_far ?_ ?_)) | (simp; done) | (simp; omega)); done) | (repeat' first | assumption | (refine heap_at ?_; (simp; done)) | refine heap_drew ?_ | refine heap_drewN ?_ | (refine heap_past ?_ ?_ <;> try (simp; done)) | (refine heap_far ?_ ?_ <;> try (simp; done))))))
               | (go_at_call 100; refine (s_Used c s at_ l _ cap _ hl ((HR.out.below (by (first | ((repeat' first | (with_reducible (first | exact Below.refl _ _ | assumption | refine Below.setCell ?_ ?_ _ | refine Below.alloc ?_ ?_ _ | refine Below.drew ?_ | refine below_drewN ?_ _ | refine Below.trans ?_ (Below.mono (by assumption) ?_))) | omega | (simp; omega) | (simp; done)); done) | (repeat' first | exact Below.refl _ _ | assumption | refine Below.setCell ?_ (by first | omega | (simp; omega) | (simp; done)) _ | refine Below.alloc ?_ (by first | omega | (simp; omega) | (simp; done)) _ | refine Below.drew ?_ | refine below_drewN ?_ _ | refine Below.trans ?_ (Below.mono (by assumption) (by first | omega | (simp; omega) | (simp; done))))))).more (by first | omega | (simp; omega)))).mono ?_; rintro e w3 ⟨rfl, hb3⟩; rw [HU.out]; have e1 := E1.out; have z3 := hb3.size; (try simp at z3); obtain ⟨qh, q0, q1, q2, qf, qz⟩ := own3 (g := w.heap.size) hb3 (by first | omega | (simp; omega) | (simp; done)) (by (first | ((repeat' first | (with_reducible (first | assumption | (refine heap_at ?_; (first | rfl | (simp; done))) | refine heap_drew ?_ | refine heap_drewN ?_ | refine heap_past ?_ ?_ | refine heap_far ?_ ?_)) | (simp; done) | (simp; omega)); done) | (repeat' first | assumption | (refine heap_at ?_; (simp; done)) | refine heap_drew ?_ | refine heap_drewN ?_ | (refine heap_past ?_ ?_ <;> try (simp; done)) | (refine heap_far ?_ ?_ <;> try (simp; done)))))))
      go_wp2_with fail
      go_ret
      exact ⟨ret_bool (by rw [askB_may, H1.out, mayB, hD]; rfl), by (first | ((repeat' first | (with_reducible (first | exact Below.refl _ _ | assumption | refine Below.setCell ?_ ?_ _ | refine Below.alloc ?_ ?_ _ | refine Below.drew ?_ | refine below_drewN ?_ _ | refine Below.trans ?_ (Below.mono (by assumption) ?_))) | omega | (simp; omega) | (simp; done)); done) | (repeat' first | exact Below.refl _ _ | assumption | refine Below.setCell ?_ (by first | omega | (simp; omega) | (simp; done)) _ | refine Below.alloc ?_ (by first | omega | (simp; omega) | (simp; done)) _ | refine Below.drew ?_ | refine below_drewN ?_ _ | refine Below.trans ?_ (Below.mono (by assumption) (by first | omega | (simp; omega) | (simp; done)))))⟩
end Go.Proofs.Ytplchgkppkibnaa
