/- For every draw: the last value of the history of an account is its balance: the walk. -/
import Derived.Test.YtplchgkppkibnaaRows
import Derived.Test.YtplchgkppkibnaaDrawAQ
import Derived.Test.YtplchgkppkibnaaPast
import Derived.Test.YtplchgkppkibnaaPostAll
import Derived.Test.YtplchgkppkibnaaSteady
namespace Go.Proofs.Ytplchgkppkibnaa
open Go.ChangeShapes Go.WideShapes Go.ChangeAt Go.RowKit

theorem pAll_led : ∀ (ps : List (Int × List Line)) (z : Int) (l : List Line) (n : Int), ledgerB z l = true → ledgerB (pAll ps z l n).1 (pAll ps z l n).2.1 = true
  | [], _, _, _, h => h
  | p :: ps, z, l, n, h => by
    rw [pAll]
    split
    · rename_i hc
      obtain ⟨_, _, _, _, _, p5, p6⟩ := post_ok hc
      rw [p5]
      exact pAll_led ps _ _ _ p6
    · exact pAll_led ps z l n h
theorem last_at {R : List Int} {r : Nat} {B : Int} (hr : R.length = r + 1) (h : R.getLast? = some B) (hlt : r < R.length) : R[r] = B := by
  rw [List.getLast?_eq_getElem?, hr, Nat.add_sub_cancel, List.getElem?_eq_getElem hlt] at h
  exact Option.some.inj h
set_option maxRecDepth 100000 in
set_option maxHeartbeats 2000000 in
theorem l_FnAccPast (A : Option Addr) (n cap : Nat) (w : World) (hc : CodeIn w A n cap) :
    Calls Try.prog 9 #[.slice A n cap] w fun e w' => e = .returned (.bool true) ∧ Below w.heap.size w w' := by
  have hnm := hc.len
  unfold maxLen at hnm
  by_cases hn : n ≤ 1048576
  · have HC := Lib.hid (hc.code hn)
    clear hc
    go_enter Try.func9, Try.ntmps9
    go_wp2_with fail
    refine (s_DrawAccPast A n cap _ HC.out).mono ?_
    rintro e w1 ⟨ps, PA, pc, k, c, rfl, hl, hpl, hrp, hb1⟩
    have z1 := hb1.size
    obtain ⟨W, hW⟩ : ∃ W : World, w1.alloc (.cells #[.int .i64 k, .int .i64 c] 40) = W := ⟨_, rfl⟩
    obtain ⟨Q, hQ⟩ : ∃ Q, w1.heap.size = Q := ⟨_, rfl⟩
    have HRP := Lib.hid (show RdP W W.heap.size PA ps by rw [← hW]; exact (hrp.below ((Below.refl _ _).alloc (Nat.le_refl _) _)).more (by simp))
    have hQW : Q < W.heap.size := by rw [← hW, ← hQ]; simp
    have PQ := Lib.hid (show W.heap[Q]? = some (.cells #[.int .i64 k, .int .i64 c] 40 (0, 0)) by rw [← hW, ← hQ]; exact heap_at rfl)
    have BW : Below w.heap.size w W := by rw [← hW]; exact hb1.alloc z1 _
    have hlen : (past (ps.map Pst.pl) k c).length ≤ ps.length := by have := past_len (ps.map Pst.pl) k c; rwa [List.length_map] at this
    have HPL := Lib.hid hpl
    have hls : ∀ p ∈ ps, p.L.length ≤ 1048576 := fun p hp => by have := (hpl p hp).1; omega
    have htot : ps.length + totP ps ≤ 1048576 := by
      have : ∀ qs : List Pst, (∀ p ∈ qs, p.L.length ≤ 15) → totP qs ≤ 15 * qs.length := by
        intro qs
        induction qs with
        | nil => intro _; exact Nat.le_refl _
        | cons q qs ih =>
          intro h
          have h1 := h q (by simp)
          have h2 := ih fun p hp => h p (by simp [hp])
          rw [totP_cons, List.length_cons]
          omega
      have := this ps fun p hp => (hpl p hp).1
      omega
    have HLS := Lib.hid hls
    obtain ⟨_, q0, q1, qf, qz⟩ := own2 (Below.refl W.heap.size W) hQW PQ.out
    clear hrp hb1 hls hpl
    go_wp2_with fail
    clear hW hQ q0 q1 qf qz
    refine (i_AccPast ps PA pc k c W (by omega) HLS.out htot HRP.out).mono ?_
    rintro e w2 ⟨A2, c2, rfl, how2, hb2⟩
    have z2 := hb2.size
    have HO2 := Lib.hid how2
    have PQ2 := Lib.hid (heap_below hb2 hQW PQ.out)
    obtain ⟨_, q0, q1, qf, qz⟩ := own2 (Below.refl w2.heap.size w2) (by omega) PQ2.out
    clear how2
    go_wp2_with fail
    refine (s_AccPast ps PA pc k c w2 (by omega) HLS.out htot ((HRP.out.below hb2).more z2)).mono ?_
    rintro e w3 ⟨A3, c3, rfl, _, hb3⟩
    have z3 := hb3.size
    have C3 : Below W.heap.size W w3 := hb2.trans (hb3.mono z2)
    have HO3 := Lib.hid (HO2.out.below hb3)
    clear hb2 hb3 PQ2 q0 q1 qf qz HO2
    obtain ⟨R, hR⟩ : ∃ R, past (ps.map Pst.pl) k c = R := ⟨_, rfl⟩
    have HRE := Lib.hid hR
    rw [hR] at hlen HO3 ⊢
    clear hR
    have hle : decide ((R.length : Int) ≤ (ps.length : Int)) = true := decide_eq_true (by omega)
    go_wp2_with fail
    go_loopw [30] (fun i wr => ∃ j : Nat, j ≤ ps.length ∧ i = .int .i64 j ∧ Below w3.heap.size w3 wr) (fun i _ => ps.length - (intOf i).toNat)
    case atStart => exact ⟨0, Nat.zero_le _, rfl, Below.refl _ _⟩
    case round =>
      obtain ⟨j, hj, rfl, hbw⟩ := hrel
      have hbz := hbw.size
      have hCW : Below W.heap.size W wr := C3.trans (hbw.mono (by omega))
      by_cases hlt : j < ps.length
      · obtain ⟨b, off, rfl, hbB, c0, c1⟩ := (HRP.out.below hCW).at_ hlt
        have HLN := Lib.hid (((HRP.out.below hCW).lines hlt).more hCW.size)
        have hlk := (HPL.out _ (List.getElem_mem hlt)).1
        obtain ⟨PI, PP, PC, PL, e⟩ : ∃ PI PA PC PL, ps[j] = ⟨PI, PA, PC, PL⟩ := ⟨_, _, _, _, rfl⟩
        rw [e] at c0 c1 HLN hlk
        simp only at c0 c1 HLN hlk
        clear e
        obtain ⟨V, hV⟩ : ∃ V : World, wr.alloc (.cells #[.int .i64 PI, .slice PP PL.length PC] 69) = V := ⟨_, rfl⟩
        obtain ⟨P, hP⟩ : ∃ P, wr.heap.size = P := ⟨_, rfl⟩
        have PV : V.heap[P]? = some (.cells #[.int .i64 PI, .slice PP PL.length PC] 69 (0, 0)) := by rw [← hV, ← hP]; exact heap_at rfl
        have hCV : Below W.heap.size W V := by rw [← hV]; exact hCW.alloc (by omega) _
        have hBV : Below w3.heap.size w3 V := by rw [← hV]; exact hbw.alloc hbz _
        have HLV := Lib.hid (show Rd V V.heap.size 3 PP (PL.map Line.cells) by rw [← hV]; exact (HLN.out.below ((Below.refl _ _).alloc (Nat.le_refl _) _)).more (by simp))
        obtain ⟨bp, hbp⟩ : ∃ bp, postingB PI PL = bp := ⟨_, rfl⟩
        have HBP := Lib.hid hbp
        clear hbp HLN
        have done_ : ∀ w9, Above V.drew w9 → Below w.heap.size w w9 := fun w9 h9 => by
          have h8 : Below V.heap.size V w9 := ((Below.refl _ _).drew).trans h9
          exact BW.trans (Below.mono (hCV.trans (h8.mono hCV.size)) BW.size)
        have next_ : ∀ w9, Above V.drew w9 → Below w3.heap.size w3 w9 := fun w9 h9 => by
          have h8 : Below V.heap.size V w9 := ((Below.refl _ _).drew).trans h9
          exact hBV.trans (h8.mono hBV.size)
        have DONE := Lib.hid done_
        have NEXT := Lib.hid next_
        clear done_ next_
        cases bp
        · have HK : Hid (∀ w2, Above V.drew w2 → w2.cell? ⟨P, 0, none⟩ = some (.int .i64 PI) ∧ w2.cell? ⟨P, 1, none⟩ = some (.slice PP PL.length PC)) := Lib.hid (fun w2 hw2 => by
            have hb2 : Below V.heap.size V w2 := ((Below.refl _ _).drew).trans hw2
            have x1 := heap_below hb2 (Array.getElem?_eq_some_iff.1 PV).1 PV
            exact ⟨blk_cell x1 0, blk_cell x1 1⟩)
          go_wp2_with fail
          refine wp_region_steady (by kernel_rfl) (by kernel_rfl) ?_
          repeat (first | (refine wpSteady_skip rfl ?_; intro K hK; go_simp; refine hK _ ?_; clear hK K) | (refine wpSteady_value ?_ rfl ?_ ?_; rotate_left; (focus (intro w2 hw2; obtain ⟨k0, k1⟩ := HK.out w2 hw2; go_simp; rfl)); intro K hK; go_simp; refine hK _ ?_; clear hK K))
          refine wpSteady_call 46 #[.agg #[.int .i64 PI, .slice PP PL.length PC]] (.bool false) rfl (fun w2 hw2 => by go_simp) (fun w2 hw2 => (i_PostingOk PI PL _ _ w2 (by omega) ((HLV.out.below (((Below.refl _ _).drew).trans hw2)).more (by have := Below.size (((Below.refl _ _).drew).trans hw2); omega))).mono (fun e w3 hh => ⟨hh.1.trans (by rw [HBP.out]), hh.2⟩)) ?_
          intro K hK; go_simp; refine hK _ ?_; clear hK K
          repeat (first | (refine wpSteady_skip rfl ?_; intro K hK; go_simp; refine hK _ ?_; clear hK K) | (refine wpSteady_value ?_ rfl ?_ ?_; rotate_left; (focus (intro w2 hw2; obtain ⟨k0, k1⟩ := HK.out w2 hw2; go_simp; rfl)); intro K hK; go_simp; refine hK _ ?_; clear hK K))
          refine wpSteady_nil ?_; intro w9 hb9
          go_wp2_with fail
          go_ret
          exact ⟨rfl, DONE.out _ hb9⟩
        · by_cases hj0 : j = 0
          · have tj : decide (0 < j) = false := decide_eq_false (by omega)
            have HK : Hid (∀ w2, Above V.drew w2 → w2.cell? ⟨P, 0, none⟩ = some (.int .i64 PI) ∧ w2.cell? ⟨P, 1, none⟩ = some (.slice PP PL.length PC)) := Lib.hid (fun w2 hw2 => by
              have hb2 : Below V.heap.size V w2 := ((Below.refl _ _).drew).trans hw2
              have x1 := heap_below hb2 (Array.getElem?_eq_some_iff.1 PV).1 PV
              exact ⟨blk_cell x1 0, blk_cell x1 1⟩)
            clear hj0
            go_wp2_with fail
            refine wp_region_steady (by kernel_rfl) (by kernel_rfl) ?_
            repeat (first | (refine wpSteady_skip rfl ?_; intro K hK; go_simp; refine hK _ ?_; clear hK K) | (refine wpSteady_value ?_ rfl ?_ ?_; rotate_left; (focus (intro w2 hw2; obtain ⟨k0, k1⟩ := HK.out w2 hw2; go_simp; rfl)); intro K hK; go_simp; refine hK _ ?_; clear hK K))
            refine wpSteady_call 46 #[.agg #[.int .i64 PI, .slice PP PL.length PC]] (.bool true) rfl (fun w2 hw2 => by go_simp) (fun w2 hw2 => (i_PostingOk PI PL _ _ w2 (by omega) ((HLV.out.below (((Below.refl _ _).drew).trans hw2)).more (by have := Below.size (((Below.refl _ _).drew).trans hw2); omega))).mono (fun e w3 hh => ⟨hh.1.trans (by rw [HBP.out]), hh.2⟩)) ?_
            intro K hK; go_simp; refine hK _ ?_; clear hK K
            repeat (first | (refine wpSteady_skip rfl ?_; intro K hK; go_simp; refine hK _ ?_; clear hK K) | (refine wpSteady_value ?_ rfl ?_ ?_; rotate_left; (focus (intro w2 hw2; obtain ⟨k0, k1⟩ := HK.out w2 hw2; go_simp; rfl)); intro K hK; go_simp; refine hK _ ?_; clear hK K))
            refine wpSteady_nil ?_; intro w9 hb9
            go_wp2_with fail
            go_roundw
            case rel => exact ⟨j + 1, by omega, by go_num, NEXT.out _ hb9⟩
            case measure => simp [intOf]; omega
          · have tj : decide (0 < j) = true := decide_eq_true (by omega)
            obtain ⟨m, hm⟩ : ∃ m, j = m + 1 := ⟨j - 1, by omega⟩
            have hml : m < ps.length := by omega
            have e1 : (j : Int) - 1 = (m : Int) := by omega
            have e2 : IntKind.i64.wrap (m : Int) = (m : Int) := IntWalk.i64_in _ ⟨by omega, by omega⟩
            have i1 : (0 : Int) ≤ (m : Int) := by omega
            have i2 : (m : Int) < (ps.length : Int) := by omega
            have HK : Hid (∀ w2, Above V.drew w2 → w2.cell? ⟨P, 0, none⟩ = some (.int .i64 PI) ∧ w2.cell? ⟨P, 1, none⟩ = some (.slice PP PL.length PC) ∧ w2.cell? ⟨b, off + m * 2, none⟩ = some (.int .i64 ps[m].Id)) := Lib.hid (fun w2 hw2 => by
              have hb2 : Below V.heap.size V w2 := ((Below.refl _ _).drew).trans hw2
              have x1 := heap_below hb2 (Array.getElem?_eq_some_iff.1 PV).1 PV
              obtain ⟨_, _, eA, _, y0, _⟩ := (HRP.out.below (hCV.trans (hb2.mono hCV.size))).at_ hml
              injection eA with eA
              injection eA with eA1 eA2
              subst eA1 eA2
              exact ⟨blk_cell x1 0, blk_cell x1 1, y0⟩)
            have HM := Lib.hid hm
            clear hj0 hm
            by_cases hge : PI ≤ ps[m].Id
            · go_wp2_with fail
              refine wp_region_steady (by kernel_rfl) (by kernel_rfl) ?_
              repeat (first | (refine wpSteady_skip rfl ?_; intro K hK; go_simp; refine hK _ ?_; clear hK K) | (refine wpSteady_value ?_ rfl ?_ ?_; rotate_left; (focus (intro w2 hw2; obtain ⟨k0, k1, k2⟩ := HK.out w2 hw2; go_simp; rfl)); intro K hK; go_simp; refine hK _ ?_; clear hK K))
              refine wpSteady_call 46 #[.agg #[.int .i64 PI, .slice PP PL.length PC]] (.bool true) rfl (fun w2 hw2 => by go_simp) (fun w2 hw2 => (i_PostingOk PI PL _ _ w2 (by omega) ((HLV.out.below (((Below.refl _ _).drew).trans hw2)).more (by have := Below.size (((Below.refl _ _).drew).trans hw2); omega))).mono (fun e w3 hh => ⟨hh.1.trans (by rw [HBP.out]), hh.2⟩)) ?_
              intro K hK; go_simp; refine hK _ ?_; clear hK K
              repeat (first | (refine wpSteady_skip rfl ?_; intro K hK; go_simp; refine hK _ ?_; clear hK K) | (refine wpSteady_value ?_ rfl ?_ ?_; rotate_left; (focus (intro w2 hw2; obtain ⟨k0, k1, k2⟩ := HK.out w2 hw2; go_simp; rfl)); intro K hK; go_simp; refine hK _ ?_; clear hK K))
              refine wpSteady_nil ?_; intro w9 hb9
              go_wp2_with fail
              go_ret
              exact ⟨rfl, DONE.out _ hb9⟩
            · have hge' : decide (PI ≤ ps[m].Id) = false := decide_eq_false hge
              go_wp2_with fail
              refine wp_region_steady (by kernel_rfl) (by kernel_rfl) ?_
              repeat (first | (refine wpSteady_skip rfl ?_; intro K hK; go_simp; refine hK _ ?_; clear hK K) | (refine wpSteady_value ?_ rfl ?_ ?_; rotate_left; (focus (intro w2 hw2; obtain ⟨k0, k1, k2⟩ := HK.out w2 hw2; go_simp; rfl)); intro K hK; go_simp; refine hK _ ?_; clear hK K))
              refine wpSteady_call 46 #[.agg #[.int .i64 PI, .slice PP PL.length PC]] (.bool true) rfl (fun w2 hw2 => by go_simp) (fun w2 hw2 => (i_PostingOk PI PL _ _ w2 (by omega) ((HLV.out.below (((Below.refl _ _).drew).trans hw2)).more (by have := Below.size (((Below.refl _ _).drew).trans hw2); omega))).mono (fun e w3 hh => ⟨hh.1.trans (by rw [HBP.out]), hh.2⟩)) ?_
              intro K hK; go_simp; refine hK _ ?_; clear hK K
              repeat (first | (refine wpSteady_skip rfl ?_; intro K hK; go_simp; refine hK _ ?_; clear hK K) | (refine wpSteady_value ?_ rfl ?_ ?_; rotate_left; (focus (intro w2 hw2; obtain ⟨k0, k1, k2⟩ := HK.out w2 hw2; go_simp; rfl)); intro K hK; go_simp; refine hK _ ?_; clear hK K))
              refine wpSteady_nil ?_; intro w9 hb9
              go_wp2_with fail
              go_roundw
              case rel => exact ⟨j + 1, by omega, by go_num, NEXT.out _ hb9⟩
              case measure => simp [intOf]; omega
      · obtain rfl : j = ps.length := by omega
        go_wp2_with fail
        refine (i_PostAll 0 [] none 0 ps PA pc wr ledgerB_empty (by omega) (fun p hp => ⟨HLS.out p hp, (HPL.out p hp).2⟩) Rd.nil_ ((HRP.out.below hCW).more (by omega))).mono ?_
        rintro e w4 ⟨A4, c4, rfl, hc4, how4, hb4⟩
        have z4 := hb4.size
        have hlaw := past_law (ps.map Pst.pl) k c
        have hn1 := pAll_le (ps.map Pst.pl) 0 [] 0
        rw [List.length_map] at hlaw hn1
        rw [HRE.out] at hlaw
        obtain ⟨Z, hZ⟩ : ∃ Z, (pAll (ps.map Pst.pl) 0 [] 0).1 = Z := ⟨_, rfl⟩
        obtain ⟨M, hM⟩ : ∃ M, (pAll (ps.map Pst.pl) 0 [] 0).2.1 = M := ⟨_, rfl⟩
        obtain ⟨N, hN⟩ : ∃ N, (pAll (ps.map Pst.pl) 0 [] 0).2.2 = N := ⟨_, rfl⟩
        rw [hZ, hM, hN] at hlaw
        rw [hN] at hn1
        rw [hM] at how4 hc4
        rw [hZ, hM, hN]
        have HLAW := Lib.hid hlaw
        have hML : M.length ≤ 1048576 := by
          have := (ledgerB_iff.1 (pAll_led (ps.map Pst.pl) 0 [] 0 ledgerB_empty)).2.1
          rw [hM] at this
          omega
        clear hZ hM hN hlaw
        have HO4 := Lib.hid how4
        have hC4 : Below W.heap.size W w4 := hCW.trans (hb4.mono hCW.size)
        obtain ⟨V, hV⟩ : ∃ V : World, w4.alloc (.cells #[.int .i64 Z, .slice A4 M.length c4] 49) = V := ⟨_, rfl⟩
        obtain ⟨P, hP⟩ : ∃ P, w4.heap.size = P := ⟨_, rfl⟩
        have PV : V.heap[P]? = some (.cells #[.int .i64 Z, .slice A4 M.length c4] 49 (0, 0)) := by rw [← hV, ← hP]; exact heap_at rfl
        have hCV : Below W.heap.size W V := by rw [← hV]; exact hC4.alloc (by have := hC4.size; omega) _
        have hBV : Below w3.heap.size w3 V := by rw [← hV]; exact (hbw.trans (hb4.mono hbz)).alloc (by have := hb4.size; omega) _
        have HMV := Lib.hid (show Rd V V.heap.size 3 A4 (M.map Line.cells) by rw [← hV]; exact (HO4.out.alloc _).rd)
        have AV : V.heap[Q]? = some (.cells #[.int .i64 k, .int .i64 c] 40 (0, 0)) := heap_below hCV hQW PQ.out
        have done_ : ∀ w9, Above V.drew w9 → Below w.heap.size w w9 := fun w9 h9 => by
          have h8 : Below V.heap.size V w9 := ((Below.refl _ _).drew).trans h9
          exact BW.trans (Below.mono (hCV.trans (h8.mono hCV.size)) BW.size)
        have DONE := Lib.hid done_
        have BV : Below w.heap.size w V := BW.trans (Below.mono hCV BW.size)
        clear done_ how4 hb4
        obtain ⟨_, l0, l1, lf, lz⟩ := own2 (Below.refl V.heap.size V) (Array.getElem?_eq_some_iff.1 PV).1 PV
        obtain ⟨_, q0, q1, qf, qz⟩ := own2 (Below.refl V.heap.size V) (Array.getElem?_eq_some_iff.1 AV).1 AV
        by_cases hN : N < (ps.length : Int)
        · by_cases hR0 : R.length = 0
          · have tr : ((R.length : Int) == 0) = true := by simp [hR0]
            clear hR0
            go_wp2_with fail
            go_ret
            exact ⟨rfl, BV⟩
          · have tr : ((R.length : Int) == 0) = false := by simp [hR0]
            clear hR0
            go_wp2_with fail
            go_ret
            exact ⟨rfl, BV⟩
        · have hN' : decide (N < (ps.length : Int)) = false := decide_eq_false hN
          obtain ⟨g1, g2⟩ := HLAW.out (by omega)
          by_cases hR0 : R.length = 0
          · have tr : ((R.length : Int) == 0) = true := by simp [hR0]
            have HG := Lib.hid (g1 (List.eq_nil_of_length_eq_zero hR0))
            clear hR0 g1 g2
            go_wp2_with fail
            refine (i_Balance Z M A4 c4 k c V hML HMV.out).mono ?_
            rintro e w5 ⟨rfl, hb5⟩
            rw [HG.out]
            go_wp2_with fail
            go_ret
            exact ⟨rfl, BV.trans (hb5.mono BV.size)⟩
          · have tr : ((R.length : Int) == 0) = false := by simp [hR0]
            have HG := Lib.hid (g2 (fun h => hR0 (by rw [h]; rfl)))
            obtain ⟨r, hr⟩ : ∃ r, R.length = r + 1 := ⟨R.length - 1, by omega⟩
            have hrl : r < R.length := by omega
            have HRB := Lib.hid (last_at hr HG.out hrl)
            have e1 : (R.length : Int) - 1 = (r : Int) := by omega
            have e2 : IntKind.i64.wrap (r : Int) = (r : Int) := IntWalk.i64_in _ ⟨by omega, by omega⟩
            have i1 : (0 : Int) ≤ (r : Int) := by omega
            have i2 : (r : Int) < (R.length : Int) := by omega
            obtain ⟨rb, roff, rfl, hrb, rc⟩ := ints_rd (HO3.out.rd.below hBV) hrl
            rw [HRB.out] at rc
            obtain ⟨BB, hBB⟩ : ∃ BB, balB Z M k c = BB := ⟨_, rfl⟩
            rw [hBB] at rc
            have HBB := Lib.hid hBB
            have HK : Hid (∀ w2, Above V.drew w2 → w2.cell? ⟨P, 0, none⟩ = some (.int .i64 Z) ∧ w2.cell? ⟨P, 1, none⟩ = some (.slice A4 M.length c4) ∧ w2.cell? ⟨Q, 0, none⟩ = some (.int .i64 k) ∧ w2.cell? ⟨Q, 1, none⟩ = some (.int .i64 c) ∧ w2.cell? ⟨rb, roff + r, none⟩ = some (.int .i64 BB)) := Lib.hid (fun w2 hw2 => by
              have hb2 : Below V.heap.size V w2 := ((Below.refl _ _).drew).trans hw2
              have x1 := heap_below hb2 lz PV
              have x2 := heap_below hb2 qz AV
              exact ⟨blk_cell x1 0, blk_cell x1 1, blk_cell x2 0, blk_cell x2 1, (hb2.cell (p := ⟨rb, roff + r, none⟩) (Nat.lt_of_lt_of_le hrb hBV.size)).trans rc⟩)
            clear hR0 g1 g2 hr l0 l1 lf q0 q1 qf rc hBB
            go_wp2_with fail
            refine wp_region_steady (by kernel_rfl) (by kernel_rfl) ?_
            repeat (first | (refine wpSteady_skip rfl ?_; intro K hK; go_simp; refine hK _ ?_; clear hK K) | (refine wpSteady_value ?_ rfl ?_ ?_; rotate_left; (focus (intro w2 hw2; obtain ⟨k0, k1, k2, k3, k4⟩ := HK.out w2 hw2; go_simp; rfl)); intro K hK; go_simp; refine hK _ ?_; clear hK K))
            refine wpSteady_call 47 #[.agg #[.int .i64 Z, .slice A4 M.length c4], .agg #[.int .i64 k, .int .i64 c]] (.int .i64 BB) rfl (fun w2 hw2 => by go_simp) (fun w2 hw2 => (i_Balance Z M A4 c4 k c w2 hML ((HMV.out.below (((Below.refl _ _).drew).trans hw2)).more (by have := Below.size (((Below.refl _ _).drew).trans hw2); omega))).mono (fun e w3 hh => ⟨hh.1.trans (by rw [HBB.out]), hh.2⟩)) ?_
            intro K hK; go_simp; refine hK _ ?_; clear hK K
            repeat (first | (refine wpSteady_skip rfl ?_; intro K hK; go_simp; refine hK _ ?_; clear hK K) | (refine wpSteady_value ?_ rfl ?_ ?_; rotate_left; (focus (intro w2 hw2; obtain ⟨k0, k1, k2, k3, k4⟩ := HK.out w2 hw2; go_simp; rfl)); intro K hK; go_simp; refine hK _ ?_; clear hK K))
            refine wpSteady_nil ?_; intro w9 hb9
            go_wp2_with fail
            go_ret
            exact ⟨rfl, DONE.out _ hb9⟩
  · have hn' : decide ((1048576 : Int) < (n : Int)) = true := decide_eq_true (by omega)
    go_enter Try.func9, Try.ntmps9
    go_wp2_with fail
    go_ret
    exact ⟨rfl, Below.refl _ _⟩
end Go.Proofs.Ytplchgkppkibnaa
