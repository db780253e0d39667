/- For every draw: reversing a posting twice restores it, and both together have no effect: the walk. -/
import Derived.Test.YtplchgkppkibnaaRows
import Derived.Test.YtplchgkppkibnaaDrawAQ
import Derived.Test.YtplchgkppkibnaaRevS
import Derived.Test.YtplchgkppkibnaaPostAll
import Derived.Test.YtplchgkppkibnaaSameL
import Derived.Test.YtplchgkppkibnaaDrawPo
namespace Go.Proofs.Ytplchgkppkibnaa
open Go.ChangeShapes Go.WideShapes Go.ChangeAt Go.RowKit

theorem merge_nil : ∀ l : List Line, mergeF [] l = some l
  | [] => by rw [mergeF]
  | x :: l => by rw [mergeF, merge_nil l]; rfl
theorem negL_negL (l : List Line) : (l.map negL).map negL = l := by
  rw [List.map_map]
  conv => rhs; rw [← List.map_id l]
  refine List.map_congr_left fun x _ => ?_
  show negL (negL x) = x
  unfold negL
  simp
theorem posting_two {z t : Int} {l : List Line} (h : revOk z t l = true) : pAll [((1 : Int), l), (2, l.map negL)] 0 [] 0 = (2, [], 2) := by
  unfold revOk at h
  rw [Bool.and_eq_true] at h
  obtain ⟨h1, h2⟩ := h
  obtain ⟨_, a2, a3, a4⟩ := postingB_iff.1 h1
  obtain ⟨_, b2, b3, b4⟩ := postingB_iff.1 h2
  have p1 : postingB 1 l = true := postingB_iff.2 ⟨by decide, a2, a3, a4⟩
  have p2 : postingB 2 (l.map negL) = true := postingB_iff.2 ⟨by decide, b2, b3, b4⟩
  have l1 : ledgerB 1 l = true := ledgerB_iff.2 ⟨by decide, by omega, a4⟩
  have c1 := postCode_0 ledgerB_empty p1 (by decide) (merge_nil l) (by omega)
  have c2 := postCode_0 l1 p2 (by decide) (merge_neg l negL (fun x => rfl)) (by simp)
  rw [pAll_yes c1.1, c1.2.1, c1.2.2, pAll_yes c2.1, c2.2.1, c2.2.2]
  rfl
theorem revOk_back {z t : Int} {l : List Line} (h : revOk z t l = true) : revOk t z (l.map negL) = true := by
  unfold revOk at *
  rw [Bool.and_eq_true] at *
  rw [negL_negL]
  exact ⟨h.2, h.1⟩
set_option maxRecDepth 100000 in
set_option maxHeartbeats 2000000 in
theorem l_FnReverse (A : Option Addr) (n cap : Nat) (w : World) (hc : CodeIn w A n cap) :
    Calls Try.prog 8 #[.slice A n cap] w fun e w' => e = .returned (.bool true) ∧ Below w.heap.size w w' := by
  have hnm := hc.len
  unfold maxLen at hnm
  by_cases hn : n ≤ 1048576
  · have HC := Lib.hid (hc.code hn)
    clear hc
    go_enter Try.func8, Try.ntmps8
    go_wp2_with fail
    refine (s_DrawReverse A n cap _ HC.out).mono ?_
    rintro e w1 ⟨z, t, L, PA, pc, rfl, ⟨hl, hlc⟩, hr, hb1⟩
    have z1 := hb1.size
    obtain ⟨W, hW⟩ : ∃ W : World, w1.alloc (.cells #[.int .i64 z, .slice PA L.length pc] 69) = W := ⟨_, rfl⟩
    obtain ⟨Q, hQ⟩ : ∃ Q, w1.heap.size = Q := ⟨_, rfl⟩
    have HR := Lib.hid (show Rd W W.heap.size 3 PA (L.map Line.cells) by rw [← hW]; exact (hr.below ((Below.refl _ _).alloc (Nat.le_refl _) _)).more (by simp))
    have hQW : Q < W.heap.size := by rw [← hW, ← hQ]; simp
    have PQ := Lib.hid (show W.heap[Q]? = some (.cells #[.int .i64 z, .slice PA L.length pc] 69 (0, 0)) by rw [← hW, ← hQ]; exact heap_at rfl)
    have BW : Below w.heap.size w W := by rw [← hW]; exact hb1.alloc z1 _
    obtain ⟨_, q0, q1, qf, qz⟩ := own2 (Below.refl W.heap.size W) hQW PQ.out
    clear hr hb1
    go_wp2_with fail
    clear hW hQ q0 q1 qf qz
    refine (i_Reverse_any z t L PA pc W (by omega) HR.out).mono ?_
    rintro e w2 ⟨A2, c2, rfl, how2, hb2⟩
    have z2 := hb2.size
    cases hok : revOk z t L
    · have hML : revLines z t L = [] := by unfold revLines; rw [hok]; rfl
      have hT : revId z t L = 0 := by unfold revId; rw [hok]; rfl
      rw [hT, hML]
      rw [hML] at how2
      have HOK := Lib.hid hok
      clear hok hT hML
      obtain ⟨ML, hml⟩ : ∃ ML : List Line, ([] : List Line) = ML := ⟨_, rfl⟩
      have h0 : ML.length = 0 := by rw [← hml]; rfl
      rw [hml] at how2 ⊢
      have H0 := Lib.hid h0
      clear hml h0
      obtain ⟨V, hV⟩ : ∃ V : World, w2.alloc (.cells #[.int .i64 0, .slice A2 ML.length c2] 69) = V := ⟨_, rfl⟩
      obtain ⟨P, hP⟩ : ∃ P, w2.heap.size = P := ⟨_, rfl⟩
      have CV : Below W.heap.size W V := by rw [← hV]; exact hb2.alloc z2 _
      have PV := Lib.hid (show V.heap[P]? = some (.cells #[.int .i64 0, .slice A2 ML.length c2] 69 (0, 0)) by rw [← hV, ← hP]; exact heap_at rfl)
      have HO := Lib.hid (show Ow V W.heap.size 97 3 (.slice A2 ML.length c2) (ML.map Line.cells) by rw [← hV]; exact how2.alloc _)
      have PQV := Lib.hid (heap_below CV hQW PQ.out)
      have hPV := (Array.getElem?_eq_some_iff.1 PV.out).1
      have hQV : Q < V.heap.size := by have := CV.size; omega
      have BV : Below w.heap.size w V := BW.trans (CV.mono BW.size)
      obtain ⟨_, q0, q1, qf, qz⟩ := own2 (Below.refl V.heap.size V) hQV PQV.out
      clear how2 hb2
      go_wp2_with fail
      clear hV hP q0 q1 qf qz
      refine (s_Reverse z t L PA pc V (by omega) ((HR.out.below CV).more CV.size)).mono ?_
      rintro e w3 ⟨A3, c3, rfl, _, hb3⟩
      rw [HOK.out]
      have z3 := hb3.size
      obtain ⟨PV3, p0, p1, pf, pzz⟩ := own2 hb3 hPV PV.out
      obtain ⟨PQ3, q0, q1, qf, qz⟩ := own2 hb3 hQV PQV.out
      have B3 : Below w.heap.size w w3 := BV.trans (hb3.mono BV.size)
      have C3 : Below W.heap.size W w3 := CV.trans (hb3.mono CV.size)
      rw [H0.out] at p1
      go_wp2_with fail
      go_ret
      exact ⟨rfl, B3.alloc B3.size _⟩
    · have hML : revLines z t L = L.map negL := by unfold revLines; rw [hok]; rfl
      have hT : revId z t L = t := by unfold revId; rw [hok]; rfl
      rw [hT, hML]
      rw [hML] at how2
      have HOK := Lib.hid hok
      clear hok hT hML
      obtain ⟨ML, hml⟩ : ∃ ML : List Line, L.map negL = ML := ⟨_, rfl⟩
      have hlen : ML.length ≤ 15 := by rw [← hml, List.length_map]; exact hl
      rw [hml] at how2 ⊢
      have hmc : ML.length ≤ c2 := by have := how2.capL; rwa [List.length_map] at this
      have HBACK := Lib.hid (show revOk t z ML = true by rw [← hml]; exact revOk_back HOK.out)
      have HL2 := Lib.hid (show revLines t z ML = L by unfold revLines; rw [HBACK.out, ← hml, negL_negL]; rfl)
      have HI2 := Lib.hid (show revId t z ML = z by unfold revId; rw [HBACK.out]; rfl)
      have HPA := Lib.hid (show pAll [((1 : Int), L), (2, ML)] 0 [] 0 = (2, [], 2) by rw [← hml]; exact posting_two HOK.out)
      clear hml
      obtain ⟨V, hV⟩ : ∃ V : World, w2.alloc (.cells #[.int .i64 t, .slice A2 ML.length c2] 69) = V := ⟨_, rfl⟩
      obtain ⟨P, hP⟩ : ∃ P, w2.heap.size = P := ⟨_, rfl⟩
      have CV : Below W.heap.size W V := by rw [← hV]; exact hb2.alloc z2 _
      have PV := Lib.hid (show V.heap[P]? = some (.cells #[.int .i64 t, .slice A2 ML.length c2] 69 (0, 0)) by rw [← hV, ← hP]; exact heap_at rfl)
      have HO := Lib.hid (show Ow V W.heap.size 97 3 (.slice A2 ML.length c2) (ML.map Line.cells) by rw [← hV]; exact how2.alloc _)
      have PQV := Lib.hid (heap_below CV hQW PQ.out)
      have hPV := (Array.getElem?_eq_some_iff.1 PV.out).1
      have hQV : Q < V.heap.size := by have := CV.size; omega
      have BV : Below w.heap.size w V := BW.trans (CV.mono BW.size)
      obtain ⟨_, q0, q1, qf, qz⟩ := own2 (Below.refl V.heap.size V) hQV PQV.out
      clear how2 hb2
      go_wp2_with fail
      clear hV hP q0 q1 qf qz
      refine (s_Reverse z t L PA pc V (by omega) ((HR.out.below CV).more CV.size)).mono ?_
      rintro e w3 ⟨A3, c3, rfl, _, hb3⟩
      rw [HOK.out]
      have z3 := hb3.size
      obtain ⟨PV3, p0, p1, pf, pzz⟩ := own2 hb3 hPV PV.out
      obtain ⟨PQ3, q0, q1, qf, qz⟩ := own2 hb3 hQV PQV.out
      have B3 : Below w.heap.size w w3 := BV.trans (hb3.mono BV.size)
      have C3 : Below W.heap.size W w3 := CV.trans (hb3.mono CV.size)
      have HO3 := Lib.hid (HO.out.below hb3)
      clear hb3
      go_wp2_with fail
      refine (i_Reverse_any t z ML A2 c2 _ (by omega) ((HO3.out.alloc _).rd)).mono ?_
      rintro e w4 ⟨A4, c4, rfl, how4, hb4⟩
      rw [HL2.out, HI2.out, HBACK.out]
      rw [HL2.out] at how4
      have z4 := hb4.size
      rw [sizeUpQ] at z4
      have hb4' : Below w3.heap.size w3 w4 := ((Below.refl _ _).alloc (Nat.le_refl _) _).trans (hb4.mono (by rw [sizeUpQ]; omega))
      obtain ⟨PV4, p0', p1', pf', pz4⟩ := own2 hb4' pzz PV3
      obtain ⟨PQ4, q0', q1', qf', qz4⟩ := own2 hb4' qz PQ3
      have HO4 := Lib.hid (HO3.out.below hb4')
      have B4 : Below w.heap.size w w4 := B3.trans (hb4'.mono (by have := BV.size; omega))
      have C4 : Below W.heap.size W w4 := C3.trans (hb4'.mono C3.size)
      have HN4 := Lib.hid how4
      clear hb4 hb4' how4 p0 p1 pf q0 q1 qf PV3 PQ3 HO3
      obtain ⟨U, hU⟩ : ∃ U : World, w4.alloc (.cells #[.int .i64 z, .slice A4 L.length c4] 69) = U := ⟨_, rfl⟩
      obtain ⟨T, hT⟩ : ∃ T, w4.heap.size = T := ⟨_, rfl⟩
      have PT := Lib.hid (show U.heap[T]? = some (.cells #[.int .i64 z, .slice A4 L.length c4] 69 (0, 0)) by rw [← hU, ← hT]; exact heap_at rfl)
      have CU : Below W.heap.size W U := by rw [← hU]; exact C4.alloc C4.size _
      have BU : Below w.heap.size w U := BW.trans (CU.mono BW.size)
      have HOU := Lib.hid (show Ow U W.heap.size 97 3 (.slice A2 ML.length c2) (ML.map Line.cells) by rw [← hU]; exact HO4.out.alloc _)
      have HNU := Lib.hid (show Rd U U.heap.size 3 A4 (L.map Line.cells) by rw [← hU]; exact (HN4.out.alloc _).rd)
      have PUQ := Lib.hid (show U.heap[Q]? = some (.cells #[.int .i64 z, .slice PA L.length pc] 69 (0, 0)) by rw [← hU]; exact heap_past qz4 PQ4)
      have PUP := Lib.hid (show U.heap[P]? = some (.cells #[.int .i64 t, .slice A2 ML.length c2] 69 (0, 0)) by rw [← hU]; exact heap_past pz4 PV4)
      clear p0' p1' pf' q0' q1' qf' PV4 PQ4 HO4 HN4
      obtain ⟨_, q0, q1, qf, qzU⟩ := own2 (Below.refl U.heap.size U) (Array.getElem?_eq_some_iff.1 PUQ.out).1 PUQ.out
      obtain ⟨_, p0, p1, pf, pzU⟩ := own2 (Below.refl U.heap.size U) (Array.getElem?_eq_some_iff.1 PUP.out).1 PUP.out
      have HLIT := Lib.hid (Ow.lit (w := U) (B := U.heap.size) (n := U.heap.size) (size := 2) (e := 69) (rows := [[.int .i64 1, .slice PA L.length pc], [.int .i64 2, .slice A2 ML.length c2]]) rfl (by simp) (Nat.le_refl _) (show 2 ≤ maxLen by decide))
      have HRP := Lib.hid (show RdP (U.alloc (.cells #[.int .i64 1, .slice PA L.length pc, .int .i64 2, .slice A2 ML.length c2] 69)) (U.alloc (.cells #[.int .i64 1, .slice PA L.length pc, .int .i64 2, .slice A2 ML.length c2] 69)).heap.size (some ⟨U.heap.size, 0, none⟩) [⟨1, PA, pc, L⟩, ⟨2, A2, c2, ML⟩] from
        ⟨HLIT.out.rd, fun p hp => by
          rcases List.mem_cons.1 hp with rfl | hp
          · exact (((HR.out.below CU).more CU.size).below ((Below.refl _ _).alloc (Nat.le_refl _) _)).more (by simp)
          · rw [List.mem_singleton.1 hp]
            exact (HOU.out.alloc _).rd⟩)
      go_wp2_with fail
      clear hU hT
      refine (i_PostAll 0 [] none 0 [⟨1, PA, pc, L⟩, ⟨2, A2, c2, ML⟩] _ 2 _ ledgerB_empty (show 2 ≤ 1048576 by decide) (fun p hp => by
        rcases List.mem_cons.1 hp with rfl | hp
        · exact ⟨by show L.length ≤ 1048576; omega, hlc⟩
        · rw [List.mem_singleton.1 hp]
          exact ⟨by show ML.length ≤ 1048576; omega, hmc⟩) Rd.nil_ HRP.out).mono ?_
      rintro e w5 ⟨A5, c5, rfl, _, _, hb5⟩
      have hb5' : Below U.heap.size U w5 := ((Below.refl _ _).alloc (Nat.le_refl _) _).trans (hb5.mono (by rw [sizeUpQ]; omega))
      have hPAe : pAll ([⟨1, PA, pc, L⟩, ⟨2, A2, c2, ML⟩].map Pst.pl) 0 [] 0 = (2, [], 2) := HPA.out
      rw [hPAe, show ([] : List Line).length = 0 from rfl]
      obtain ⟨PT5, t0, t1, tf, tz⟩ := own2 hb5' (Array.getElem?_eq_some_iff.1 PT.out).1 PT.out
      obtain ⟨PQ5, u0, u1, uf, uz⟩ := own2 hb5' qzU PUQ.out
      have B5 : Below w.heap.size w w5 := BU.trans (hb5'.mono BU.size)
      have C5 : Below W.heap.size W w5 := CU.trans (hb5'.mono CU.size)
      have HN5 := Lib.hid ((HNU.out.below hb5').more hb5'.size)
      clear hb5 hb5' q0 q1 qf p0 p1 pf
      go_wp2_with fail
      refine (l_sameLines L A4 PA _ _ _ (by omega) ((HN5.out.below ((Below.refl _ _).alloc (Nat.le_refl _) _)).more (by rw [sizeUpQ]; omega)) ((HR.out.below (C5.alloc C5.size _)).more (by rw [sizeUpQ]; have := C5.size; omega))).mono ?_
      rintro e w6 ⟨rfl, hb6⟩
      obtain ⟨_, v0, v1, vf, vz⟩ := own2 hb6 (g := w5.heap.size) (by simp) (heap_at rfl)
      go_wp2_with fail
      go_ret
      exact ⟨rfl, (B5.alloc B5.size _).trans (hb6.mono (by rw [sizeUpQ]; have := B5.size; omega))⟩
  · have hn' : decide ((1048576 : Int) < (n : Int)) = true := decide_eq_true (by omega)
    go_enter Try.func8, Try.ntmps8
    go_wp2_with fail
    go_ret
    exact ⟨rfl, Below.refl _ _⟩
end Go.Proofs.Ytplchgkppkibnaa
