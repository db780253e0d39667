/- For every draw: the time returned is the first at which the amount may be spent, and spending then keeps the purse sound: the walk. -/
import Derived.Test.YtplchgkppkibnaaRows
import Derived.Test.YtplchgkppkibnaaDrawQ
import Derived.Test.YtplchgkppkibnaaWhenLaw
import Derived.Test.YtplchgkppkibnaaSteady
import Derived.IntWalk
namespace Go.Proofs.Ytplchgkppkibnaa
open Go.ChangeShapes Go.WideShapes Go.ChangeAt Go.RowKit

theorem may_code {c s t n : Int} {l : List Coin} (h : maySpend c s t n l = true) : (spendCode c s t n l = 0 ∧ (spendKeep s t l).length + 1 ≤ 40) ∨ spendCode c s t n l = 3 := by
  have h1 : askB c s t n l = true ∧ mayB c s t n l = true := by
    rw [askB_may, Bool.and_eq_true] at h
    exact h
  unfold spendCode
  rw [if_pos h1.1, if_pos h1.2]
  split
  · exact .inr rfl
  · exact .inl ⟨rfl, by omega⟩
theorem usedR_rng (c s a : Int) (l : List Coin) : 0 ≤ usedR c s a l ∧ usedR c s a l ≤ 1125899906842624 := by
  unfold usedR
  split
  · split
    · rename_i h
      exact amtB_iff.1 h
    · omega
  · omega
theorem wrap_rng {n : Int} (h : 0 ≤ n ∧ n ≤ 1125899906842624) : IntKind.i64.wrap n = n := IntWalk.i64_in n ⟨by omega, by omega⟩
set_option maxRecDepth 100000 in
set_option maxHeartbeats 4000000 in
theorem l_FnPurse (A : Option Addr) (n cap : Nat) (w : World) (hc : CodeIn w A n cap) :
    Calls Try.prog 7 #[.slice A n cap] w fun e w' => e = .returned (.bool true) ∧ Below w.heap.size w w' := by
  have hnm := hc.len
  unfold maxLen at hnm
  by_cases hn : n ≤ 1048576
  · have HC := Lib.hid (hc.code hn)
    clear hc
    go_enter Try.func7, Try.ntmps7
    go_wp2_with fail
    refine (s_DrawPurseWhen A n cap _ HC.out).mono ?_
    rintro e w1 ⟨c, s, a, m, l, A1, cap1, rfl, hl, ha, hrc, hb1⟩
    have z1 := hb1.size
    have HRC := Lib.hid hrc
    clear hrc
    go_wp2_with fail
    refine (i_PurseWhen c s a m l A1 cap1 _ (by omega) ha ((HRC.out.below ((Below.refl _ _).alloc (Nat.le_refl _) _)).more (by simp))).mono ?_
    rintro e w2 ⟨rfl, hb2⟩
    have z2 := hb2.size
    rw [sizeUpP] at z2
    have B2 : Below w.heap.size w w2 := (hb1.alloc z1 _).trans (hb2.mono (by simp; omega))
    have C2 : Below w1.heap.size w1 w2 := ((Below.refl _ _).alloc (Nat.le_refl _) _).trans (hb2.mono (by simp))
    have p2 : w2.heap[w1.heap.size]? = some (.cells #[.int .i64 c, .int .i64 s, .slice A1 l.length cap1] 59 (0, 0)) := heap_below hb2 (by simp) (heap_at rfl)
    clear hb1 hb2
    obtain ⟨_, k0, k1, k2, kf, kz⟩ := own3 (Below.refl w2.heap.size w2) (Array.getElem?_eq_some_iff.1 p2).1 p2
    go_wp2_with fail
    refine (s_PurseWhen c s a m l A1 cap1 _ (by omega) ((HRC.out.below C2).more (by omega))).mono ?_
    rintro e w3 ⟨rfl, hb3⟩
    have z3 := hb3.size
    have B3 : Below w.heap.size w w3 := B2.trans (hb3.mono (by omega))
    have C3 : Below w1.heap.size w1 w3 := C2.trans (hb3.mono (by omega))
    have p3 := heap_below hb3 (by omega) p2
    clear hb3 B2 C2 p2 k0 k1 k2 kf
    have hlaw := when_law c s a m l
    obtain ⟨T, hT⟩ : ∃ T, purseWhen c s a m l = T := ⟨_, rfl⟩
    rw [hT] at hlaw ⊢
    clear hT
    rcases hlaw with rfl | ⟨t1, t2, hmay, hbef⟩
    · go_wp2_with fail
      go_ret
      exact ⟨rfl, by (first | ((repeat' first | (with_reducible (first | exact Below.refl _ _ | assumption | refine Below.setCell ?_ ?_ _ | refine Below.alloc ?_ ?_ _ | refine Below.drew ?_ | refine below_drewN ?_ _ | refine Below.trans ?_ (Below.mono (by assumption) ?_))) | omega | (simp; omega) | (simp; done)); done) | (repeat' first | exact Below.refl _ _ | assumption | refine Below.setCell ?_ (by first | omega | (simp; omega) | (simp; done)) _ | refine Below.alloc ?_ (by first | omega | (simp; omega) | (simp; done)) _ | refine Below.drew ?_ | refine below_drewN ?_ _ | refine Below.trans ?_ (Below.mono (by assumption) (by first | omega | (simp; omega) | (simp; done)))))⟩
    · have hneg : decide (T < 0) = false := decide_eq_false (by omega)
      have HMAY := Lib.hid hmay
      have HBEF := Lib.hid hbef
      obtain ⟨_, k0, k1, k2, kf, kz⟩ := own3 (Below.refl w3.heap.size w3) (Array.getElem?_eq_some_iff.1 p3).1 p3
      clear hmay hbef
      go_wp2_with fail
      refine (i_Spend c s T m l A1 cap1 _ (by omega) (by omega) ((HRC.out.below C3).more (by omega))).mono ?_
      rintro e w4 ⟨A4, cap4, rfl, how4, hb4⟩
      have z4 := hb4.size
      have B4 : Below w.heap.size w w4 := B3.trans (hb4.mono (by omega))
      have p4 := heap_below hb4 (by omega) p3
      have HQ4 := Lib.hid how4.rd
      have HR4 := Lib.hid (((HRC.out.below C3).below (hb4.mono (by omega))).more (show w1.heap.size ≤ w4.heap.size by omega))
      clear how4 hb4 k0 k1 k2 kf p3
      have hcode : (∃ CC SS L4, spendCap c s T m l = CC ∧ spendSpan c s T m l = SS ∧ spendCoins c s T m l = L4 ∧ spendCode c s T m l = 0 ∧ L4.length ≤ 40 ∧ purseOk CC SS L4 = true ∧ usedR CC SS T L4 = usedR c s T l + m ∧ usedR CC SS T L4 ≤ c) ∨ (∃ CC SS L4, spendCap c s T m l = CC ∧ spendSpan c s T m l = SS ∧ spendCoins c s T m l = L4 ∧ spendCode c s T m l = 3) := by
        rcases may_code HMAY.out with ⟨h0, hk⟩ | h3
        · obtain ⟨g1, g2, g3⟩ := spend_law HMAY.out hk
          exact .inl ⟨c, s, _, by rw [spendCap, if_pos h0], by rw [spendSpan, if_pos h0], by rw [spendCoins, if_pos h0], h0, by simpa using hk, g1, g2, g3⟩
        · exact .inr ⟨_, _, _, rfl, rfl, rfl, h3⟩
      have hguard : (decide (a < T) = false) ∨ (decide (a < T) = true ∧ decide (0 ≤ a) = false) ∨ (decide (a < T) = true ∧ decide (0 ≤ a) = true ∧ decide (a ≤ T - 1) = true ∧ maySpend c s (T - 1) m l = false) := by
        by_cases h1 : a < T
        · by_cases h2 : 0 ≤ a
          · exact .inr (.inr ⟨decide_eq_true h1, decide_eq_true h2, decide_eq_true (by omega), HBEF.out h1 h2⟩)
          · exact .inr (.inl ⟨decide_eq_true h1, decide_eq_false h2⟩)
        · exact .inl (decide_eq_false h1)
      rcases hcode with ⟨CC, SS, L4, e1, e2, e3, e4, h40, l1, l2, l3⟩ | ⟨CC, SS, L4, e1, e2, e3, e4⟩
      · rw [e1, e2, e3, e4]
        rw [e3] at HQ4
        clear e1 e2 e3 e4
        obtain ⟨U, hU⟩ : ∃ U, usedR c s T l = U := ⟨_, rfl⟩
        rw [hU] at l2
        rw [l2] at l3
        have hrng := usedR_rng CC SS T L4
        rw [l2] at hrng
        have hwr := wrap_rng hrng
        clear hrng
        have HU := Lib.hid hU
        have HL1 := Lib.hid l1
        have HL2 := Lib.hid l2
        have hle : decide (U + m ≤ c) = true := decide_eq_true l3
        clear hU l1 l2
        have p5 : (w4.alloc (.cells #[.int .i64 CC, .int .i64 SS, .slice A4 L4.length cap4] 59)).heap[w1.heap.size]? = some (.cells #[.int .i64 c, .int .i64 s, .slice A1 l.length cap1] 59 (0, 0)) := heap_past (by omega) p4
        have q5 : (w4.alloc (.cells #[.int .i64 CC, .int .i64 SS, .slice A4 L4.length cap4] 59)).heap[w4.heap.size]? = some (.cells #[.int .i64 CC, .int .i64 SS, .slice A4 L4.length cap4] 59 (0, 0)) := heap_at rfl
        obtain ⟨_, k0, k1, k2, kf, kz4⟩ := own3 (Below.refl w4.heap.size w4) (Array.getElem?_eq_some_iff.1 p4).1 p4
        rcases hguard with g1 | ⟨g1, g2⟩ | ⟨g1, g2, g3, g4⟩
        · go_wp2_with fail
          obtain ⟨w5, hw5⟩ : ∃ x : World, w4.alloc (.cells #[.int .i64 CC, .int .i64 SS, .slice A4 L4.length cap4] 59) = x := ⟨_, rfl⟩
          have BW : Below w.heap.size w w5 := by rw [← hw5]; exact B4.alloc (by omega) _
          have CW : Below w4.heap.size w4 w5 := by rw [← hw5]; exact (Below.refl _ _).alloc (Nat.le_refl _) _
          have z5 : w4.heap.size + 1 ≤ w5.heap.size := by rw [← hw5, sizeUpP]; exact Nat.le_refl _
          rw [hw5] at p5 q5 ⊢
          have pW := p5
          have qW := q5
          have HRW := Lib.hid ((HR4.out.below CW).more CW.size)
          have HQW := Lib.hid ((HQ4.out.below CW).more CW.size)
          clear hw5 k0 k1 k2 kf
          have HK : Hid (∀ w2, Above w5.drew w2 → w2.cell? ⟨w1.heap.size, 0, none⟩ = some (.int .i64 c) ∧ w2.cell? ⟨w1.heap.size, 1, none⟩ = some (.int .i64 s) ∧ w2.cell? ⟨w1.heap.size, 2, none⟩ = some (.slice A1 l.length cap1) ∧ w2.cell? ⟨w4.heap.size, 0, none⟩ = some (.int .i64 CC) ∧ w2.cell? ⟨w4.heap.size, 1, none⟩ = some (.int .i64 SS) ∧ w2.cell? ⟨w4.heap.size, 2, none⟩ = some (.slice A4 L4.length cap4)) := Lib.hid (fun w2 hw2 => by
            have hb2 : Below w5.heap.size w5 w2 := ((Below.refl _ _).drew).trans hw2
            have x1 := heap_below hb2 (Array.getElem?_eq_some_iff.1 pW).1 pW
            have x2 := heap_below hb2 (Array.getElem?_eq_some_iff.1 qW).1 qW
            exact ⟨blk_cell x1 0, blk_cell x1 1, blk_cell x1 2, blk_cell x2 0, blk_cell x2 1, blk_cell x2 2⟩)
          refine wp_region_steady (by kernel_rfl) (by kernel_rfl) ?_
          repeat (first | (refine wpSteady_skip rfl ?_; intro K hK; go_simp; refine hK _ ?_; clear hK K) | (refine wpSteady_value ?_ rfl ?_ ?_; rotate_left; (focus (intro w2 hw2; obtain ⟨k0, k1, k2, v0, v1, v2⟩ := HK.out w2 hw2; go_simp; rfl)); intro K hK; go_simp; refine hK _ ?_; clear hK K))
          refine wpSteady_call 38 #[.agg #[.int .i64 CC, .int .i64 SS, .slice A4 L4.length cap4]] (.bool true) rfl (fun w2 hw2 => by go_simp) (fun w2 hw2 => (i_PurseOk CC SS L4 A4 cap4 w2 (by omega) ((HQW.out.below (((Below.refl _ _).drew).trans hw2)).more (by have := Below.size (((Below.refl _ _).drew).trans hw2); omega))).mono (fun e w3 hh => ⟨hh.1.trans (by rw [HL1.out]), hh.2⟩)) ?_
          intro K hK; go_simp; refine hK _ ?_; clear hK K
          repeat (first | (refine wpSteady_skip rfl ?_; intro K hK; go_simp; refine hK _ ?_; clear hK K) | (refine wpSteady_value ?_ rfl ?_ ?_; rotate_left; (focus (intro w2 hw2; obtain ⟨k0, k1, k2, v0, v1, v2⟩ := HK.out w2 hw2; go_simp; rfl)); intro K hK; go_simp; refine hK _ ?_; clear hK K))
          refine wpSteady_call 39 #[.agg #[.int .i64 CC, .int .i64 SS, .slice A4 L4.length cap4], .int .i64 T] (.int .i64 (U + m)) rfl (fun w2 hw2 => by go_simp) (fun w2 hw2 => (i_Used CC SS T L4 A4 cap4 w2 (by omega) (by omega) ((HQW.out.below (((Below.refl _ _).drew).trans hw2)).more (by have := Below.size (((Below.refl _ _).drew).trans hw2); omega))).mono (fun e w3 hh => ⟨hh.1.trans (by rw [HL2.out]), hh.2⟩)) ?_
          intro K hK; go_simp; refine hK _ ?_; clear hK K
          repeat (first | (refine wpSteady_skip rfl ?_; intro K hK; go_simp; refine hK _ ?_; clear hK K) | (refine wpSteady_value ?_ rfl ?_ ?_; rotate_left; (focus (intro w2 hw2; obtain ⟨k0, k1, k2, v0, v1, v2⟩ := HK.out w2 hw2; go_simp; rfl)); intro K hK; go_simp; refine hK _ ?_; clear hK K))
          refine wpSteady_call 39 #[.agg #[.int .i64 c, .int .i64 s, .slice A1 l.length cap1], .int .i64 T] (.int .i64 U) rfl (fun w2 hw2 => by go_simp) (fun w2 hw2 => (i_Used c s T l A1 cap1 w2 (by omega) (by omega) ((HRW.out.below (((Below.refl _ _).drew).trans hw2)).more (by have := Below.size (((Below.refl _ _).drew).trans hw2); omega))).mono (fun e w3 hh => ⟨hh.1.trans (by rw [HU.out]), hh.2⟩)) ?_
          intro K hK; go_simp; refine hK _ ?_; clear hK K
          repeat (first | (refine wpSteady_skip rfl ?_; intro K hK; go_simp; refine hK _ ?_; clear hK K) | (refine wpSteady_value ?_ rfl ?_ ?_; rotate_left; (focus (intro w2 hw2; obtain ⟨k0, k1, k2, v0, v1, v2⟩ := HK.out w2 hw2; go_simp; rfl)); intro K hK; go_simp; refine hK _ ?_; clear hK K))
          refine wpSteady_call 39 #[.agg #[.int .i64 CC, .int .i64 SS, .slice A4 L4.length cap4], .int .i64 T] (.int .i64 (U + m)) rfl (fun w2 hw2 => by go_simp) (fun w2 hw2 => (i_Used CC SS T L4 A4 cap4 w2 (by omega) (by omega) ((HQW.out.below (((Below.refl _ _).drew).trans hw2)).more (by have := Below.size (((Below.refl _ _).drew).trans hw2); omega))).mono (fun e w3 hh => ⟨hh.1.trans (by rw [HL2.out]), hh.2⟩)) ?_
          intro K hK; go_simp; refine hK _ ?_; clear hK K
          repeat (first | (refine wpSteady_skip rfl ?_; intro K hK; go_simp; refine hK _ ?_; clear hK K) | (refine wpSteady_value ?_ rfl ?_ ?_; rotate_left; (focus (intro w2 hw2; obtain ⟨k0, k1, k2, v0, v1, v2⟩ := HK.out w2 hw2; go_simp; rfl)); intro K hK; go_simp; refine hK _ ?_; clear hK K))
          refine wpSteady_call 37 #[.agg #[.int .i64 c, .int .i64 s, .slice A1 l.length cap1], .int .i64 T, .int .i64 m] (.bool true) rfl (fun w2 hw2 => by go_simp) (fun w2 hw2 => (i_MaySpend c s T m l A1 cap1 w2 (by omega) (by omega) ((HRW.out.below (((Below.refl _ _).drew).trans hw2)).more (by have := Below.size (((Below.refl _ _).drew).trans hw2); omega))).mono (fun e w3 hh => ⟨hh.1.trans (by rw [HMAY.out]), hh.2⟩)) ?_
          intro K hK; go_simp; refine hK _ ?_; clear hK K
          repeat (first | (refine wpSteady_skip rfl ?_; intro K hK; go_simp; refine hK _ ?_; clear hK K) | (refine wpSteady_value ?_ rfl ?_ ?_; rotate_left; (focus (intro w2 hw2; obtain ⟨k0, k1, k2, v0, v1, v2⟩ := HK.out w2 hw2; go_simp; rfl)); intro K hK; go_simp; refine hK _ ?_; clear hK K))
          refine wpSteady_nil ?_; intro w9 hb9
          go_wp2_with fail
          go_ret
          exact ⟨rfl, BW.trans (Below.mono (((Below.refl _ _).drew).trans hb9) (by show w.heap.size ≤ w5.heap.size; omega))⟩
        · go_wp2_with fail
          obtain ⟨w5, hw5⟩ : ∃ x : World, w4.alloc (.cells #[.int .i64 CC, .int .i64 SS, .slice A4 L4.length cap4] 59) = x := ⟨_, rfl⟩
          have BW : Below w.heap.size w w5 := by rw [← hw5]; exact B4.alloc (by omega) _
          have CW : Below w4.heap.size w4 w5 := by rw [← hw5]; exact (Below.refl _ _).alloc (Nat.le_refl _) _
          have z5 : w4.heap.size + 1 ≤ w5.heap.size := by rw [← hw5, sizeUpP]; exact Nat.le_refl _
          rw [hw5] at p5 q5 ⊢
          have pW := p5
          have qW := q5
          have HRW := Lib.hid ((HR4.out.below CW).more CW.size)
          have HQW := Lib.hid ((HQ4.out.below CW).more CW.size)
          clear hw5 k0 k1 k2 kf
          have HK : Hid (∀ w2, Above w5.drew w2 → w2.cell? ⟨w1.heap.size, 0, none⟩ = some (.int .i64 c) ∧ w2.cell? ⟨w1.heap.size, 1, none⟩ = some (.int .i64 s) ∧ w2.cell? ⟨w1.heap.size, 2, none⟩ = some (.slice A1 l.length cap1) ∧ w2.cell? ⟨w4.heap.size, 0, none⟩ = some (.int .i64 CC) ∧ w2.cell? ⟨w4.heap.size, 1, none⟩ = some (.int .i64 SS) ∧ w2.cell? ⟨w4.heap.size, 2, none⟩ = some (.slice A4 L4.length cap4)) := Lib.hid (fun w2 hw2 => by
            have hb2 : Below w5.heap.size w5 w2 := ((Below.refl _ _).drew).trans hw2
            have x1 := heap_below hb2 (Array.getElem?_eq_some_iff.1 pW).1 pW
            have x2 := heap_below hb2 (Array.getElem?_eq_some_iff.1 qW).1 qW
            exact ⟨blk_cell x1 0, blk_cell x1 1, blk_cell x1 2, blk_cell x2 0, blk_cell x2 1, blk_cell x2 2⟩)
          refine wp_region_steady (by kernel_rfl) (by kernel_rfl) ?_
          repeat (first | (refine wpSteady_skip rfl ?_; intro K hK; go_simp; refine hK _ ?_; clear hK K) | (refine wpSteady_value ?_ rfl ?_ ?_; rotate_left; (focus (intro w2 hw2; obtain ⟨k0, k1, k2, v0, v1, v2⟩ := HK.out w2 hw2; go_simp; rfl)); intro K hK; go_simp; refine hK _ ?_; clear hK K))
          refine wpSteady_call 38 #[.agg #[.int .i64 CC, .int .i64 SS, .slice A4 L4.length cap4]] (.bool true) rfl (fun w2 hw2 => by go_simp) (fun w2 hw2 => (i_PurseOk CC SS L4 A4 cap4 w2 (by omega) ((HQW.out.below (((Below.refl _ _).drew).trans hw2)).more (by have := Below.size (((Below.refl _ _).drew).trans hw2); omega))).mono (fun e w3 hh => ⟨hh.1.trans (by rw [HL1.out]), hh.2⟩)) ?_
          intro K hK; go_simp; refine hK _ ?_; clear hK K
          repeat (first | (refine wpSteady_skip rfl ?_; intro K hK; go_simp; refine hK _ ?_; clear hK K) | (refine wpSteady_value ?_ rfl ?_ ?_; rotate_left; (focus (intro w2 hw2; obtain ⟨k0, k1, k2, v0, v1, v2⟩ := HK.out w2 hw2; go_simp; rfl)); intro K hK; go_simp; refine hK _ ?_; clear hK K))
          refine wpSteady_call 39 #[.agg #[.int .i64 CC, .int .i64 SS, .slice A4 L4.length cap4], .int .i64 T] (.int .i64 (U + m)) rfl (fun w2 hw2 => by go_simp) (fun w2 hw2 => (i_Used CC SS T L4 A4 cap4 w2 (by omega) (by omega) ((HQW.out.below (((Below.refl _ _).drew).trans hw2)).more (by have := Below.size (((Below.refl _ _).drew).trans hw2); omega))).mono (fun e w3 hh => ⟨hh.1.trans (by rw [HL2.out]), hh.2⟩)) ?_
          intro K hK; go_simp; refine hK _ ?_; clear hK K
          repeat (first | (refine wpSteady_skip rfl ?_; intro K hK; go_simp; refine hK _ ?_; clear hK K) | (refine wpSteady_value ?_ rfl ?_ ?_; rotate_left; (focus (intro w2 hw2; obtain ⟨k0, k1, k2, v0, v1, v2⟩ := HK.out w2 hw2; go_simp; rfl)); intro K hK; go_simp; refine hK _ ?_; clear hK K))
          refine wpSteady_call 39 #[.agg #[.int .i64 c, .int .i64 s, .slice A1 l.length cap1], .int .i64 T] (.int .i64 U) rfl (fun w2 hw2 => by go_simp) (fun w2 hw2 => (i_Used c s T l A1 cap1 w2 (by omega) (by omega) ((HRW.out.below (((Below.refl _ _).drew).trans hw2)).more (by have := Below.size (((Below.refl _ _).drew).trans hw2); omega))).mono (fun e w3 hh => ⟨hh.1.trans (by rw [HU.out]), hh.2⟩)) ?_
          intro K hK; go_simp; refine hK _ ?_; clear hK K
          repeat (first | (refine wpSteady_skip rfl ?_; intro K hK; go_simp; refine hK _ ?_; clear hK K) | (refine wpSteady_value ?_ rfl ?_ ?_; rotate_left; (focus (intro w2 hw2; obtain ⟨k0, k1, k2, v0, v1, v2⟩ := HK.out w2 hw2; go_simp; rfl)); intro K hK; go_simp; refine hK _ ?_; clear hK K))
          refine wpSteady_call 39 #[.agg #[.int .i64 CC, .int .i64 SS, .slice A4 L4.length cap4], .int .i64 T] (.int .i64 (U + m)) rfl (fun w2 hw2 => by go_simp) (fun w2 hw2 => (i_Used CC SS T L4 A4 cap4 w2 (by omega) (by omega) ((HQW.out.below (((Below.refl _ _).drew).trans hw2)).more (by have := Below.size (((Below.refl _ _).drew).trans hw2); omega))).mono (fun e w3 hh => ⟨hh.1.trans (by rw [HL2.out]), hh.2⟩)) ?_
          intro K hK; go_simp; refine hK _ ?_; clear hK K
          repeat (first | (refine wpSteady_skip rfl ?_; intro K hK; go_simp; refine hK _ ?_; clear hK K) | (refine wpSteady_value ?_ rfl ?_ ?_; rotate_left; (focus (intro w2 hw2; obtain ⟨k0, k1, k2, v0, v1, v2⟩ := HK.out w2 hw2; go_simp; rfl)); intro K hK; go_simp; refine hK _ ?_; clear hK K))
          refine wpSteady_call 37 #[.agg #[.int .i64 c, .int .i64 s, .slice A1 l.length cap1], .int .i64 T, .int .i64 m] (.bool true) rfl (fun w2 hw2 => by go_simp) (fun w2 hw2 => (i_MaySpend c s T m l A1 cap1 w2 (by omega) (by omega) ((HRW.out.below (((Below.refl _ _).drew).trans hw2)).more (by have := Below.size (((Below.refl _ _).drew).trans hw2); omega))).mono (fun e w3 hh => ⟨hh.1.trans (by rw [HMAY.out]), hh.2⟩)) ?_
          intro K hK; go_simp; refine hK _ ?_; clear hK K
          repeat (first | (refine wpSteady_skip rfl ?_; intro K hK; go_simp; refine hK _ ?_; clear hK K) | (refine wpSteady_value ?_ rfl ?_ ?_; rotate_left; (focus (intro w2 hw2; obtain ⟨k0, k1, k2, v0, v1, v2⟩ := HK.out w2 hw2; go_simp; rfl)); intro K hK; go_simp; refine hK _ ?_; clear hK K))
          refine wpSteady_nil ?_; intro w9 hb9
          go_wp2_with fail
          go_ret
          exact ⟨rfl, BW.trans (Below.mono (((Below.refl _ _).drew).trans hb9) (by show w.heap.size ≤ w5.heap.size; omega))⟩
        · go_wp2_with fail
          refine (i_MaySpend c s (T - 1) m l A1 cap1 _ (by omega) (by omega) ((HR4.out.below ((Below.refl _ _).alloc (Nat.le_refl _) _)).more (by simp))).mono ?_
          rintro e w5 ⟨rfl, hb5⟩
          have z5 := hb5.size
          rw [sizeUpP] at z5
          rw [g4]
          have pW := heap_below hb5 (by rw [sizeUpP]; omega) p5
          have qW := heap_below hb5 (by rw [sizeUpP]; omega) q5
          have BW : Below w.heap.size w w5 := (B4.alloc (by omega) _).trans (hb5.mono (by rw [sizeUpP]; omega))
          have CW : Below w4.heap.size w4 w5 := ((Below.refl _ _).alloc (Nat.le_refl _) _).trans (hb5.mono (by rw [sizeUpP]; omega))
          have HRW := Lib.hid ((HR4.out.below CW).more CW.size)
          have HQW := Lib.hid ((HQ4.out.below CW).more CW.size)
          clear hb5 k0 k1 k2 kf
          go_wp2_with fail
          have HK : Hid (∀ w2, Above w5.drew w2 → w2.cell? ⟨w1.heap.size, 0, none⟩ = some (.int .i64 c) ∧ w2.cell? ⟨w1.heap.size, 1, none⟩ = some (.int .i64 s) ∧ w2.cell? ⟨w1.heap.size, 2, none⟩ = some (.slice A1 l.length cap1) ∧ w2.cell? ⟨w4.heap.size, 0, none⟩ = some (.int .i64 CC) ∧ w2.cell? ⟨w4.heap.size, 1, none⟩ = some (.int .i64 SS) ∧ w2.cell? ⟨w4.heap.size, 2, none⟩ = some (.slice A4 L4.length cap4)) := Lib.hid (fun w2 hw2 => by
            have hb2 : Below w5.heap.size w5 w2 := ((Below.refl _ _).drew).trans hw2
            have x1 := heap_below hb2 (Array.getElem?_eq_some_iff.1 pW).1 pW
            have x2 := heap_below hb2 (Array.getElem?_eq_some_iff.1 qW).1 qW
            exact ⟨blk_cell x1 0, blk_cell x1 1, blk_cell x1 2, blk_cell x2 0, blk_cell x2 1, blk_cell x2 2⟩)
          refine wp_region_steady (by kernel_rfl) (by kernel_rfl) ?_
          repeat (first | (refine wpSteady_skip rfl ?_; intro K hK; go_simp; refine hK _ ?_; clear hK K) | (refine wpSteady_value ?_ rfl ?_ ?_; rotate_left; (focus (intro w2 hw2; obtain ⟨k0, k1, k2, v0, v1, v2⟩ := HK.out w2 hw2; go_simp; rfl)); intro K hK; go_simp; refine hK _ ?_; clear hK K))
          refine wpSteady_call 38 #[.agg #[.int .i64 CC, .int .i64 SS, .slice A4 L4.length cap4]] (.bool true) rfl (fun w2 hw2 => by go_simp) (fun w2 hw2 => (i_PurseOk CC SS L4 A4 cap4 w2 (by omega) ((HQW.out.below (((Below.refl _ _).drew).trans hw2)).more (by have := Below.size (((Below.refl _ _).drew).trans hw2); omega))).mono (fun e w3 hh => ⟨hh.1.trans (by rw [HL1.out]), hh.2⟩)) ?_
          intro K hK; go_simp; refine hK _ ?_; clear hK K
          repeat (first | (refine wpSteady_skip rfl ?_; intro K hK; go_simp; refine hK _ ?_; clear hK K) | (refine wpSteady_value ?_ rfl ?_ ?_; rotate_left; (focus (intro w2 hw2; obtain ⟨k0, k1, k2, v0, v1, v2⟩ := HK.out w2 hw2; go_simp; rfl)); intro K hK; go_simp; refine hK _ ?_; clear hK K))
          refine wpSteady_call 39 #[.agg #[.int .i64 CC, .int .i64 SS, .slice A4 L4.length cap4], .int .i64 T] (.int .i64 (U + m)) rfl (fun w2 hw2 => by go_simp) (fun w2 hw2 => (i_Used CC SS T L4 A4 cap4 w2 (by omega) (by omega) ((HQW.out.below (((Below.refl _ _).drew).trans hw2)).more (by have := Below.size (((Below.refl _ _).drew).trans hw2); omega))).mono (fun e w3 hh => ⟨hh.1.trans (by rw [HL2.out]), hh.2⟩)) ?_
          intro K hK; go_simp; refine hK _ ?_; clear hK K
          repeat (first | (refine wpSteady_skip rfl ?_; intro K hK; go_simp; refine hK _ ?_; clear hK K) | (refine wpSteady_value ?_ rfl ?_ ?_; rotate_left; (focus (intro w2 hw2; obtain ⟨k0, k1, k2, v0, v1, v2⟩ := HK.out w2 hw2; go_simp; rfl)); intro K hK; go_simp; refine hK _ ?_; clear hK K))
          refine wpSteady_call 39 #[.agg #[.int .i64 c, .int .i64 s, .slice A1 l.length cap1], .int .i64 T] (.int .i64 U) rfl (fun w2 hw2 => by go_simp) (fun w2 hw2 => (i_Used c s T l A1 cap1 w2 (by omega) (by omega) ((HRW.out.below (((Below.refl _ _).drew).trans hw2)).more (by have := Below.size (((Below.refl _ _).drew).trans hw2); omega))).mono (fun e w3 hh => ⟨hh.1.trans (by rw [HU.out]), hh.2⟩)) ?_
          intro K hK; go_simp; refine hK _ ?_; clear hK K
          repeat (first | (refine wpSteady_skip rfl ?_; intro K hK; go_simp; refine hK _ ?_; clear hK K) | (refine wpSteady_value ?_ rfl ?_ ?_; rotate_left; (focus (intro w2 hw2; obtain ⟨k0, k1, k2, v0, v1, v2⟩ := HK.out w2 hw2; go_simp; rfl)); intro K hK; go_simp; refine hK _ ?_; clear hK K))
          refine wpSteady_call 39 #[.agg #[.int .i64 CC, .int .i64 SS, .slice A4 L4.length cap4], .int .i64 T] (.int .i64 (U + m)) rfl (fun w2 hw2 => by go_simp) (fun w2 hw2 => (i_Used CC SS T L4 A4 cap4 w2 (by omega) (by omega) ((HQW.out.below (((Below.refl _ _).drew).trans hw2)).more (by have := Below.size (((Below.refl _ _).drew).trans hw2); omega))).mono (fun e w3 hh => ⟨hh.1.trans (by rw [HL2.out]), hh.2⟩)) ?_
          intro K hK; go_simp; refine hK _ ?_; clear hK K
          repeat (first | (refine wpSteady_skip rfl ?_; intro K hK; go_simp; refine hK _ ?_; clear hK K) | (refine wpSteady_value ?_ rfl ?_ ?_; rotate_left; (focus (intro w2 hw2; obtain ⟨k0, k1, k2, v0, v1, v2⟩ := HK.out w2 hw2; go_simp; rfl)); intro K hK; go_simp; refine hK _ ?_; clear hK K))
          refine wpSteady_call 37 #[.agg #[.int .i64 c, .int .i64 s, .slice A1 l.length cap1], .int .i64 T, .int .i64 m] (.bool true) rfl (fun w2 hw2 => by go_simp) (fun w2 hw2 => (i_MaySpend c s T m l A1 cap1 w2 (by omega) (by omega) ((HRW.out.below (((Below.refl _ _).drew).trans hw2)).more (by have := Below.size (((Below.refl _ _).drew).trans hw2); omega))).mono (fun e w3 hh => ⟨hh.1.trans (by rw [HMAY.out]), hh.2⟩)) ?_
          intro K hK; go_simp; refine hK _ ?_; clear hK K
          repeat (first | (refine wpSteady_skip rfl ?_; intro K hK; go_simp; refine hK _ ?_; clear hK K) | (refine wpSteady_value ?_ rfl ?_ ?_; rotate_left; (focus (intro w2 hw2; obtain ⟨k0, k1, k2, v0, v1, v2⟩ := HK.out w2 hw2; go_simp; rfl)); intro K hK; go_simp; refine hK _ ?_; clear hK K))
          refine wpSteady_nil ?_; intro w9 hb9
          go_wp2_with fail
          go_ret
          exact ⟨rfl, BW.trans (Below.mono (((Below.refl _ _).drew).trans hb9) (by show w.heap.size ≤ w5.heap.size; omega))⟩
      · rw [e1, e2, e3, e4]
        rw [e3] at HQ4
        clear e1 e2 e3 e4
        have p5 : (w4.alloc (.cells #[.int .i64 CC, .int .i64 SS, .slice A4 L4.length cap4] 59)).heap[w1.heap.size]? = some (.cells #[.int .i64 c, .int .i64 s, .slice A1 l.length cap1] 59 (0, 0)) := heap_past (by omega) p4
        have q5 : (w4.alloc (.cells #[.int .i64 CC, .int .i64 SS, .slice A4 L4.length cap4] 59)).heap[w4.heap.size]? = some (.cells #[.int .i64 CC, .int .i64 SS, .slice A4 L4.length cap4] 59 (0, 0)) := heap_at rfl
        obtain ⟨_, k0, k1, k2, kf, kz4⟩ := own3 (Below.refl w4.heap.size w4) (Array.getElem?_eq_some_iff.1 p4).1 p4
        rcases hguard with g1 | ⟨g1, g2⟩ | ⟨g1, g2, g3, g4⟩
        · go_wp2_with fail
          obtain ⟨w5, hw5⟩ : ∃ x : World, w4.alloc (.cells #[.int .i64 CC, .int .i64 SS, .slice A4 L4.length cap4] 59) = x := ⟨_, rfl⟩
          have BW : Below w.heap.size w w5 := by rw [← hw5]; exact B4.alloc (by omega) _
          have CW : Below w4.heap.size w4 w5 := by rw [← hw5]; exact (Below.refl _ _).alloc (Nat.le_refl _) _
          have z5 : w4.heap.size + 1 ≤ w5.heap.size := by rw [← hw5, sizeUpP]; exact Nat.le_refl _
          rw [hw5] at p5 q5 ⊢
          have pW := p5
          have qW := q5
          have HRW := Lib.hid ((HR4.out.below CW).more CW.size)
          have HQW := Lib.hid ((HQ4.out.below CW).more CW.size)
          clear hw5 k0 k1 k2 kf
          have HK : Hid (∀ w2, Above w5.drew w2 → w2.cell? ⟨w1.heap.size, 0, none⟩ = some (.int .i64 c) ∧ w2.cell? ⟨w1.heap.size, 1, none⟩ = some (.int .i64 s) ∧ w2.cell? ⟨w1.heap.size, 2, none⟩ = some (.slice A1 l.length cap1) ∧ w2.cell? ⟨w4.heap.size, 0, none⟩ = some (.int .i64 CC) ∧ w2.cell? ⟨w4.heap.size, 1, none⟩ = some (.int .i64 SS) ∧ w2.cell? ⟨w4.heap.size, 2, none⟩ = some (.slice A4 L4.length cap4)) := Lib.hid (fun w2 hw2 => by
            have hb2 : Below w5.heap.size w5 w2 := ((Below.refl _ _).drew).trans hw2
            have x1 := heap_below hb2 (Array.getElem?_eq_some_iff.1 pW).1 pW
            have x2 := heap_below hb2 (Array.getElem?_eq_some_iff.1 qW).1 qW
            exact ⟨blk_cell x1 0, blk_cell x1 1, blk_cell x1 2, blk_cell x2 0, blk_cell x2 1, blk_cell x2 2⟩)
          refine wp_region_steady (by kernel_rfl) (by kernel_rfl) ?_
          repeat (first | (refine wpSteady_skip rfl ?_; intro K hK; go_simp; refine hK _ ?_; clear hK K) | (refine wpSteady_value ?_ rfl ?_ ?_; rotate_left; (focus (intro w2 hw2; obtain ⟨k0, k1, k2, v0, v1, v2⟩ := HK.out w2 hw2; go_simp; rfl)); intro K hK; go_simp; refine hK _ ?_; clear hK K))
          refine wpSteady_call 37 #[.agg #[.int .i64 c, .int .i64 s, .slice A1 l.length cap1], .int .i64 T, .int .i64 m] (.bool true) rfl (fun w2 hw2 => by go_simp) (fun w2 hw2 => (i_MaySpend c s T m l A1 cap1 w2 (by omega) (by omega) ((HRW.out.below (((Below.refl _ _).drew).trans hw2)).more (by have := Below.size (((Below.refl _ _).drew).trans hw2); omega))).mono (fun e w3 hh => ⟨hh.1.trans (by rw [HMAY.out]), hh.2⟩)) ?_
          intro K hK; go_simp; refine hK _ ?_; clear hK K
          repeat (first | (refine wpSteady_skip rfl ?_; intro K hK; go_simp; refine hK _ ?_; clear hK K) | (refine wpSteady_value ?_ rfl ?_ ?_; rotate_left; (focus (intro w2 hw2; obtain ⟨k0, k1, k2, v0, v1, v2⟩ := HK.out w2 hw2; go_simp; rfl)); intro K hK; go_simp; refine hK _ ?_; clear hK K))
          refine wpSteady_nil ?_; intro w9 hb9
          go_wp2_with fail
          go_ret
          exact ⟨rfl, BW.trans (Below.mono (((Below.refl _ _).drew).trans hb9) (by show w.heap.size ≤ w5.heap.size; omega))⟩
        · go_wp2_with fail
          obtain ⟨w5, hw5⟩ : ∃ x : World, w4.alloc (.cells #[.int .i64 CC, .int .i64 SS, .slice A4 L4.length cap4] 59) = x := ⟨_, rfl⟩
          have BW : Below w.heap.size w w5 := by rw [← hw5]; exact B4.alloc (by omega) _
          have CW : Below w4.heap.size w4 w5 := by rw [← hw5]; exact (Below.refl _ _).alloc (Nat.le_refl _) _
          have z5 : w4.heap.size + 1 ≤ w5.heap.size := by rw [← hw5, sizeUpP]; exact Nat.le_refl _
          rw [hw5] at p5 q5 ⊢
          have pW := p5
          have qW := q5
          have HRW := Lib.hid ((HR4.out.below CW).more CW.size)
          have HQW := Lib.hid ((HQ4.out.below CW).more CW.size)
          clear hw5 k0 k1 k2 kf
          have HK : Hid (∀ w2, Above w5.drew w2 → w2.cell? ⟨w1.heap.size, 0, none⟩ = some (.int .i64 c) ∧ w2.cell? ⟨w1.heap.size, 1, none⟩ = some (.int .i64 s) ∧ w2.cell? ⟨w1.heap.size, 2, none⟩ = some (.slice A1 l.length cap1) ∧ w2.cell? ⟨w4.heap.size, 0, none⟩ = some (.int .i64 CC) ∧ w2.cell? ⟨w4.heap.size, 1, none⟩ = some (.int .i64 SS) ∧ w2.cell? ⟨w4.heap.size, 2, none⟩ = some (.slice A4 L4.length cap4)) := Lib.hid (fun w2 hw2 => by
            have hb2 : Below w5.heap.size w5 w2 := ((Below.refl _ _).drew).trans hw2
            have x1 := heap_below hb2 (Array.getElem?_eq_some_iff.1 pW).1 pW
            have x2 := heap_below hb2 (Array.getElem?_eq_some_iff.1 qW).1 qW
            exact ⟨blk_cell x1 0, blk_cell x1 1, blk_cell x1 2, blk_cell x2 0, blk_cell x2 1, blk_cell x2 2⟩)
          refine wp_region_steady (by kernel_rfl) (by kernel_rfl) ?_
          repeat (first | (refine wpSteady_skip rfl ?_; intro K hK; go_simp; refine hK _ ?_; clear hK K) | (refine wpSteady_value ?_ rfl ?_ ?_; rotate_left; (focus (intro w2 hw2; obtain ⟨k0, k1, k2, v0, v1, v2⟩ := HK.out w2 hw2; go_simp; rfl)); intro K hK; go_simp; refine hK _ ?_; clear hK K))
          refine wpSteady_call 37 #[.agg #[.int .i64 c, .int .i64 s, .slice A1 l.length cap1], .int .i64 T, .int .i64 m] (.bool true) rfl (fun w2 hw2 => by go_simp) (fun w2 hw2 => (i_MaySpend c s T m l A1 cap1 w2 (by omega) (by omega) ((HRW.out.below (((Below.refl _ _).drew).trans hw2)).more (by have := Below.size (((Below.refl _ _).drew).trans hw2); omega))).mono (fun e w3 hh => ⟨hh.1.trans (by rw [HMAY.out]), hh.2⟩)) ?_
          intro K hK; go_simp; refine hK _ ?_; clear hK K
          repeat (first | (refine wpSteady_skip rfl ?_; intro K hK; go_simp; refine hK _ ?_; clear hK K) | (refine wpSteady_value ?_ rfl ?_ ?_; rotate_left; (focus (intro w2 hw2; obtain ⟨k0, k1, k2, v0, v1, v2⟩ := HK.out w2 hw2; go_simp; rfl)); intro K hK; go_simp; refine hK _ ?_; clear hK K))
          refine wpSteady_nil ?_; intro w9 hb9
          go_wp2_with fail
          go_ret
          exact ⟨rfl, BW.trans (Below.mono (((Below.refl _ _).drew).trans hb9) (by show w.heap.size ≤ w5.heap.size; omega))⟩
        · go_wp2_with fail
          refine (i_MaySpend c s (T - 1) m l A1 cap1 _ (by omega) (by omega) ((HR4.out.below ((Below.refl _ _).alloc (Nat.le_refl _) _)).more (by simp))).mono ?_
          rintro e w5 ⟨rfl, hb5⟩
          have z5 := hb5.size
          rw [sizeUpP] at z5
          rw [g4]
          have pW := heap_below hb5 (by rw [sizeUpP]; omega) p5
          have qW := heap_below hb5 (by rw [sizeUpP]; omega) q5
          have BW : Below w.heap.size w w5 := (B4.alloc (by omega) _).trans (hb5.mono (by rw [sizeUpP]; omega))
          have CW : Below w4.heap.size w4 w5 := ((Below.refl _ _).alloc (Nat.le_refl _) _).trans (hb5.mono (by rw [sizeUpP]; omega))
          have HRW := Lib.hid ((HR4.out.below CW).more CW.size)
          have HQW := Lib.hid ((HQ4.out.below CW).more CW.size)
          clear hb5 k0 k1 k2 kf
          go_wp2_with fail
          have HK : Hid (∀ w2, Above w5.drew w2 → w2.cell? ⟨w1.heap.size, 0, none⟩ = some (.int .i64 c) ∧ w2.cell? ⟨w1.heap.size, 1, none⟩ = some (.int .i64 s) ∧ w2.cell? ⟨w1.heap.size, 2, none⟩ = some (.slice A1 l.length cap1) ∧ w2.cell? ⟨w4.heap.size, 0, none⟩ = some (.int .i64 CC) ∧ w2.cell? ⟨w4.heap.size, 1, none⟩ = some (.int .i64 SS) ∧ w2.cell? ⟨w4.heap.size, 2, none⟩ = some (.slice A4 L4.length cap4)) := Lib.hid (fun w2 hw2 => by
            have hb2 : Below w5.heap.size w5 w2 := ((Below.refl _ _).drew).trans hw2
            have x1 := heap_below hb2 (Array.getElem?_eq_some_iff.1 pW).1 pW
            have x2 := heap_below hb2 (Array.getElem?_eq_some_iff.1 qW).1 qW
            exact ⟨blk_cell x1 0, blk_cell x1 1, blk_cell x1 2, blk_cell x2 0, blk_cell x2 1, blk_cell x2 2⟩)
          refine wp_region_steady (by kernel_rfl) (by kernel_rfl) ?_
          repeat (first | (refine wpSteady_skip rfl ?_; intro K hK; go_simp; refine hK _ ?_; clear hK K) | (refine wpSteady_value ?_ rfl ?_ ?_; rotate_left; (focus (intro w2 hw2; obtain ⟨k0, k1, k2, v0, v1, v2⟩ := HK.out w2 hw2; go_simp; rfl)); intro K hK; go_simp; refine hK _ ?_; clear hK K))
          refine wpSteady_call 37 #[.agg #[.int .i64 c, .int .i64 s, .slice A1 l.length cap1], .int .i64 T, .int .i64 m] (.bool true) rfl (fun w2 hw2 => by go_simp) (fun w2 hw2 => (i_MaySpend c s T m l A1 cap1 w2 (by omega) (by omega) ((HRW.out.below (((Below.refl _ _).drew).trans hw2)).more (by have := Below.size (((Below.refl _ _).drew).trans hw2); omega))).mono (fun e w3 hh => ⟨hh.1.trans (by rw [HMAY.out]), hh.2⟩)) ?_
          intro K hK; go_simp; refine hK _ ?_; clear hK K
          repeat (first | (refine wpSteady_skip rfl ?_; intro K hK; go_simp; refine hK _ ?_; clear hK K) | (refine wpSteady_value ?_ rfl ?_ ?_; rotate_left; (focus (intro w2 hw2; obtain ⟨k0, k1, k2, v0, v1, v2⟩ := HK.out w2 hw2; go_simp; rfl)); intro K hK; go_simp; refine hK _ ?_; clear hK K))
          refine wpSteady_nil ?_; intro w9 hb9
          go_wp2_with fail
          go_ret
          exact ⟨rfl, BW.trans (Below.mono (((Below.refl _ _).drew).trans hb9) (by show w.heap.size ≤ w5.heap.size; omega))⟩
  · have hn' : decide ((1048576 : Int) < (n : Int)) = true := decide_eq_true (by omega)
    go_enter Try.func7, Try.ntmps7
    go_wp2_with fail
    go_ret
    exact ⟨rfl, Below.refl _ _⟩
end Go.Proofs.Ytplchgkppkibnaa
