/- The past of an account: the walks. -/
import Derived.Test.YtplchgkppkibnaaRows
import Derived.Test.YtplchgkppkibnaaPst
import Derived.Test.YtplchgkppkibnaaMerge
import Derived.Test.YtplchgkppkibnaaBase2
import Derived.Test.YtplchgkppkibnaaBookA
import Derived.Test.YtplchgkppkibnaaAccEq
import Derived.IntWalk
namespace Go.Proofs.Ytplchgkppkibnaa
open Go.RowKit

theorem past_no {k c : Int} {ps : List (Int × List Line)} (h : accB k c = false) : past ps k c = [] := by unfold past; rw [if_neg (by rw [h]; decide)]
theorem past_of {k c : Int} {ps : List (Int × List Line)} {r : Option (List Int)} (h : accB k c = true) (hp : pastP k c ps 0 [] = r) : past ps k c = r.getD [] := by unfold past; rw [if_pos h, hp]
theorem pastP_bad {k c : Int} {ps : List (Int × List Line)} {p : Int × List Line} {s : Int} {o : List Int} (h : postingB p.1 p.2 = false) : pastP k c (p :: ps) s o = none := by rw [pastP, if_neg (by rw [h]; decide)]
theorem pastP_good {k c : Int} {ps : List (Int × List Line)} {p : Int × List Line} {s : Int} {o : List Int} (h : postingB p.1 p.2 = true) : pastP k c (p :: ps) s o = match pastL k c p.2 s o with | none => none | some x => pastP k c ps x.1 x.2 := by
  rw [pastP, if_pos h]
  cases pastL k c p.2 s o <;> rfl
theorem pl_drop {ps : List Pst} {k : Nat} (hk : k < ps.length) : (ps.drop k).map Pst.pl = (ps[k].Id, ps[k].L) :: (ps.drop (k + 1)).map Pst.pl := by rw [List.drop_eq_getElem_cons hk]; rfl
theorem pastL_skip {k c : Int} {x : Line} {l : List Line} {s : Int} {o : List Int} (h : ¬(x.Kind = k ∧ x.Ch = c)) : pastL k c (x :: l) s o = pastL k c l s o := by rw [pastL, if_neg h]
theorem pastL_bad {k c : Int} {x : Line} {l : List Line} {s : Int} {o : List Int} (h : x.Kind = k ∧ x.Ch = c) (hr : rangeB (s + x.Amt) = false) : pastL k c (x :: l) s o = none := by rw [pastL, if_pos h, if_neg (by rw [hr]; decide)]
theorem pastL_hit {k c : Int} {x : Line} {l : List Line} {s : Int} {o : List Int} (h : x.Kind = k ∧ x.Ch = c) (hr : rangeB (s + x.Amt) = true) : pastL k c (x :: l) s o = pastL k c l (s + x.Amt) (o ++ [s + x.Amt]) := by rw [pastL, if_pos h, if_pos hr]
theorem info_int1 : (Try.prog.info? 3).map (fun i => (i.zero, i.size, i.bytes)) = some (some (.int .i64 0), 1, 8) := by kernel_rfl
/-- What a result that is a slice of ints is. -/
def IntsPost (w : World) (l : List Int) (e : Ending) (w' : World) : Prop := ∃ A cap, e = .returned (.slice A l.length cap) ∧ Ow w' w.heap.size 3 1 (.slice A l.length cap) (l.map intCells) ∧ Below w.heap.size w w'
theorem IntsPost.nil_ {w w' : World} {l : List Int} {e : Ending} (h : l = []) (he : e = .returned (.slice none 0 0)) (hb : Below w.heap.size w w') : IntsPost w l e w' := by
  subst h
  exact ⟨none, 0, he, Ow.nil_, hb⟩
theorem getD_none {l : List Int} (h : l = (none : Option (List Int)).getD []) : l = [] := h
set_option maxRecDepth 100000 in
set_option maxHeartbeats 4000000 in
theorem i_AccPast (ps : List Pst) (A : Option Addr) (cap : Nat) (k c : Int) (w : World) (hl : ps.length ≤ 1048576) (hls : ∀ p ∈ ps, p.L.length ≤ 1048576) (htot : ps.length + totP ps ≤ 1048576) (hr : RdP w w.heap.size A ps) :
    Calls Try.prog 19 #[.slice A ps.length cap, .agg #[.int .i64 k, .int .i64 c]] w (IntsPost w (past (ps.map Pst.pl) k c)) := by
  have HR := Lib.hid hr
  have HLS := Lib.hid hls
  clear hr hls
  obtain ⟨i0, hi, hz0, hz1, hz2⟩ := info_parts info_int1
  have HI := Lib.hid hi
  have HZ0 := Lib.hid hz0
  have HZ1 := Lib.hid hz1
  have HZ2 := Lib.hid hz2
  clear hi hz0 hz1 hz2
  cases ha : accB k c
  · have HP := Lib.hid (past_no (ps := ps.map Pst.pl) ha)
    have HA := Lib.hid ha
    clear ha
    go_enter Try.func19, Try.ntmps19
    go_wp2_with fail
    refine (i_AccOk k c _).mono ?_
    rintro e w1 ⟨rfl, hb1⟩
    have z1 := hb1.size
    try simp at z1
    rw [HA.out]
    go_wp2_with fail
    go_ret
    exact IntsPost.nil_ HP.out rfl (by (first | ((repeat' first | (with_reducible (first | exact Below.refl _ _ | assumption | refine Below.setCell ?_ ?_ _ | refine Below.alloc ?_ ?_ _ | refine Below.drew ?_ | refine below_drewN ?_ _ | refine Below.trans ?_ (Below.mono (by assumption) ?_))) | omega | (simp; omega) | (simp; done)); done) | (repeat' first | exact Below.refl _ _ | assumption | refine Below.setCell ?_ (by first | omega | (simp; omega) | (simp; done)) _ | refine Below.alloc ?_ (by first | omega | (simp; omega) | (simp; done)) _ | refine Below.drew ?_ | refine below_drewN ?_ _ | refine Below.trans ?_ (Below.mono (by assumption) (by first | omega | (simp; omega) | (simp; done))))))
  · have HP := fun (r : Option (List Int)) => past_of (ps := ps.map Pst.pl) (r := r) ha
    have HPO := Lib.hid HP
    have HA := Lib.hid ha
    clear ha HP
    go_enter Try.func19, Try.ntmps19
    go_wp2_with fail
    refine (i_AccOk k c _).mono ?_
    rintro e w1 ⟨rfl, hb1⟩
    have z1 := hb1.size
    try simp at z1
    rw [HA.out]
    obtain ⟨kh, k0, k1, kf, kz⟩ := own2 (g := w.heap.size) hb1 (by first | omega | (simp; omega) | (simp; done)) (by (first | ((repeat' first | (with_reducible (first | assumption | (refine heap_at ?_; (first | rfl | (simp; done))) | refine heap_drew ?_ | refine heap_drewN ?_ | refine heap_past ?_ ?_ | refine heap_far ?_ ?_)) | (simp; done) | (simp; omega)); done) | (repeat' first | assumption | (refine heap_at ?_; (simp; done)) | refine heap_drew ?_ | refine heap_drewN ?_ | (refine heap_past ?_ ?_ <;> try (simp; done)) | (refine heap_far ?_ ?_ <;> try (simp; done)))))
    have hB1 : Below w.heap.size w w1 := by (first | ((repeat' first | (with_reducible (first | exact Below.refl _ _ | assumption | refine Below.setCell ?_ ?_ _ | refine Below.alloc ?_ ?_ _ | refine Below.drew ?_ | refine below_drewN ?_ _ | refine Below.trans ?_ (Below.mono (by assumption) ?_))) | omega | (simp; omega) | (simp; done)); done) | (repeat' first | exact Below.refl _ _ | assumption | refine Below.setCell ?_ (by first | omega | (simp; omega) | (simp; done)) _ | refine Below.alloc ?_ (by first | omega | (simp; omega) | (simp; done)) _ | refine Below.drew ?_ | refine below_drewN ?_ _ | refine Below.trans ?_ (Below.mono (by assumption) (by first | omega | (simp; omega) | (simp; done)))))
    have KH := Lib.hid kh
    clear hb1 kh k0 k1 kf
    go_wp2_with fail
    go_loopw [5, 6, 16] (fun vo vs i wr => ∃ (j : Nat) (s : Int) (o : List Int) (B : Option Addr) (cp : Nat), j ≤ ps.length ∧ i = .int .i64 j ∧ vs = .int .i64 s ∧ vo = .slice B o.length cp ∧ (-1125899906842624 ≤ s ∧ s ≤ 1125899906842624) ∧ o.length + totP (ps.drop j) ≤ 1048576 ∧ Hid (pastP k c (ps.map Pst.pl) 0 [] = pastP k c ((ps.drop j).map Pst.pl) s o) ∧ Ow wr (w.heap.size + 1) 3 1 (.slice B o.length cp) (o.map intCells) ∧ wr.heap[w.heap.size]? = some (.cells #[.int .i64 k, .int .i64 c] 40 (0, 0)) ∧ Below w.heap.size w wr) (fun _ _ i _ => ps.length - (intOf i).toNat)
    case atStart => exact ⟨0, 0, [], none, 0, Nat.zero_le _, rfl, rfl, rfl, by omega, by simp; omega, Lib.hid rfl, Ow.nil_, KH.out, hB1⟩
    case round =>
      obtain ⟨j, s0, o0, B0, cp0, hj, rfl, rfl, rfl, hs, hol, HREST, how, hkh, hbw⟩ := hrel
      clear hB1 KH
      have hbz := hbw.size
      have hkz := (Array.getElem?_eq_some_iff.1 hkh).1
      have KH := Lib.hid hkh
      have HW := Lib.hid how
      clear hkh how
      by_cases hlt : j < ps.length
      · obtain ⟨b, off, rfl, hbB, c0, c1⟩ := (HR.out.below hbw).at_ hlt
        have HLIN := Lib.hid (fun (wr : World) (hb : Below w.heap.size w wr) => (HR.out.below hb).lines hlt)
        have HLK := Lib.hid (HLS.out _ (List.getElem_mem hlt))
        have hd := totP_drop hlt
        have HPL := Lib.hid (pl_drop hlt)
        obtain ⟨PI, PA, PC, PL, e⟩ : ∃ PI PA PC PL, ps[j] = ⟨PI, PA, PC, PL⟩ := ⟨_, _, _, _, rfl⟩
        rw [e] at c0 c1 HLIN HLK hd HPL
        simp only at c0 c1 HLIN HLK hd HPL
        clear e
        cases hp : postingB PI PL
        · have HN := Lib.hid (show past (ps.map Pst.pl) k c = [] from HPO.out none (by rw [HREST.out, HPL.out, pastP_bad hp]))
          have HPB := Lib.hid hp
          clear hp
          go_wp2_with fail
          refine (i_PostingOk PI PL _ _ _ HLK.out ((HLIN.out _ (by (first | ((repeat' first | (with_reducible (first | exact Below.refl _ _ | assumption | refine Below.setCell ?_ ?_ _ | refine Below.alloc ?_ ?_ _ | refine Below.drew ?_ | refine below_drewN ?_ _ | refine Below.trans ?_ (Below.mono (by assumption) ?_))) | omega | (simp; omega) | (simp; done)); done) | (repeat' first | exact Below.refl _ _ | assumption | refine Below.setCell ?_ (by first | omega | (simp; omega) | (simp; done)) _ | refine Below.alloc ?_ (by first | omega | (simp; omega) | (simp; done)) _ | refine Below.drew ?_ | refine below_drewN ?_ _ | refine Below.trans ?_ (Below.mono (by assumption) (by first | omega | (simp; omega) | (simp; done))))))).more (by first | omega | (simp; omega) | (simp; done)))).mono ?_
          rintro e w2 ⟨rfl, hb2⟩
          have z2 := hb2.size
          try simp at z2
          rw [HPB.out]
          go_wp2_with fail
          go_ret
          exact IntsPost.nil_ HN.out rfl (by (first | ((repeat' first | (with_reducible (first | exact Below.refl _ _ | assumption | refine Below.setCell ?_ ?_ _ | refine Below.alloc ?_ ?_ _ | refine Below.drew ?_ | refine below_drewN ?_ _ | refine Below.trans ?_ (Below.mono (by assumption) ?_))) | omega | (simp; omega) | (simp; done)); done) | (repeat' first | exact Below.refl _ _ | assumption | refine Below.setCell ?_ (by first | omega | (simp; omega) | (simp; done)) _ | refine Below.alloc ?_ (by first | omega | (simp; omega) | (simp; done)) _ | refine Below.drew ?_ | refine below_drewN ?_ _ | refine Below.trans ?_ (Below.mono (by assumption) (by first | omega | (simp; omega) | (simp; done))))))
        · have HN := Lib.hid (show pastP k c (ps.map Pst.pl) 0 [] = match pastL k c PL s0 o0 with | none => none | some x => pastP k c ((ps.drop (j + 1)).map Pst.pl) x.1 x.2 by rw [HREST.out, HPL.out, pastP_good hp])
          obtain ⟨_, _, hp8, hpl⟩ := postingB_iff.1 hp
          have HPB := Lib.hid hp
          have HLB := Lib.hid hpl
          clear hp hpl HREST HPL
          go_wp2_with fail
          refine (i_PostingOk PI PL _ _ _ HLK.out ((HLIN.out _ (by (first | ((repeat' first | (with_reducible (first | exact Below.refl _ _ | assumption | refine Below.setCell ?_ ?_ _ | refine Below.alloc ?_ ?_ _ | refine Below.drew ?_ | refine below_drewN ?_ _ | refine Below.trans ?_ (Below.mono (by assumption) ?_))) | omega | (simp; omega) | (simp; done)); done) | (repeat' first | exact Below.refl _ _ | assumption | refine Below.setCell ?_ (by first | omega | (simp; omega) | (simp; done)) _ | refine Below.alloc ?_ (by first | omega | (simp; omega) | (simp; done)) _ | refine Below.drew ?_ | refine below_drewN ?_ _ | refine Below.trans ?_ (Below.mono (by assumption) (by first | omega | (simp; omega) | (simp; done))))))).more (by first | omega | (simp; omega) | (simp; done)))).mono ?_
          rintro e w2 ⟨rfl, hb2⟩
          have z2 := hb2.size
          try simp at z2
          rw [HPB.out]
          obtain ⟨ph, p0, p1, pf, pz⟩ := own2 (g := wr.heap.size) hb2 (by first | omega | (simp; omega) | (simp; done)) (by (first | ((repeat' first | (with_reducible (first | assumption | (refine heap_at ?_; (first | rfl | (simp; done))) | refine heap_drew ?_ | refine heap_drewN ?_ | refine heap_past ?_ ?_ | refine heap_far ?_ ?_)) | (simp; done) | (simp; omega)); done) | (repeat' first | assumption | (refine heap_at ?_; (simp; done)) | refine heap_drew ?_ | refine heap_drewN ?_ | (refine heap_past ?_ ?_ <;> try (simp; done)) | (refine heap_far ?_ ?_ <;> try (simp; done)))))
          have hk2 := heap_below hb2 (by simp; omega) (heap_past hkz KH.out)
          have HB2 : Below w.heap.size w w2 := by (first | ((repeat' first | (with_reducible (first | exact Below.refl _ _ | assumption | refine Below.setCell ?_ ?_ _ | refine Below.alloc ?_ ?_ _ | refine Below.drew ?_ | refine below_drewN ?_ _ | refine Below.trans ?_ (Below.mono (by assumption) ?_))) | omega | (simp; omega) | (simp; done)); done) | (repeat' first | exact Below.refl _ _ | assumption | refine Below.setCell ?_ (by first | omega | (simp; omega) | (simp; done)) _ | refine Below.alloc ?_ (by first | omega | (simp; omega) | (simp; done)) _ | refine Below.drew ?_ | refine below_drewN ?_ _ | refine Below.trans ?_ (Below.mono (by assumption) (by first | omega | (simp; omega) | (simp; done)))))
          have HW2 := Lib.hid ((HW.out.alloc (.cells #[.int .i64 PI, .slice PA PL.length PC] 69)).below hb2)
          have KH2 := Lib.hid hk2
          clear hb2 hk2 HW KH c0 c1 hbw ph
          obtain ⟨wo, rfl⟩ : ∃ wo : World, wo = wr := ⟨_, rfl⟩
          go_wp2_with fail
          clear p0 p1 pf
          go_loopw [5, 6, 26] (fun vo vs i wr => ∃ (m : Nat) (s : Int) (o : List Int) (B : Option Addr) (cp : Nat), m ≤ PL.length ∧ i = .int .i64 m ∧ vs = .int .i64 s ∧ vo = .slice B o.length cp ∧ (-1125899906842624 ≤ s ∧ s ≤ 1125899906842624) ∧ o.length + (PL.length - m) + totP (ps.drop (j + 1)) ≤ 1048576 ∧ Hid (pastL k c PL s0 o0 = pastL k c (PL.drop m) s o) ∧ Ow wr (w.heap.size + 1) 3 1 (.slice B o.length cp) (o.map intCells) ∧ wr.heap[w.heap.size]? = some (.cells #[.int .i64 k, .int .i64 c] 40 (0, 0)) ∧ Below w.heap.size w wr) (fun _ _ i _ => PL.length - (intOf i).toNat)
          case atStart => exact ⟨0, s0, o0, B0, cp0, Nat.zero_le _, rfl, rfl, rfl, hs, by omega, Lib.hid rfl, HW2.out, KH2.out, HB2⟩
          case round =>
            clear HW2 KH2 HB2 hs hol hkz hbz
            obtain ⟨m, s, o, B, cp, hm, rfl, rfl, rfl, hs, hol, HRL, how, hkh, hbw⟩ := hrel
            have hbz := hbw.size
            have hkz := (Array.getElem?_eq_some_iff.1 hkh).1
            have hk0 := blk_cell hkh 0
            have hk1 := blk_cell hkh 1
            simp only [List.getElem?_toArray, List.getElem?_cons_zero, List.getElem?_cons_succ] at hk0 hk1
            have KH := Lib.hid hkh
            have OB := Lib.hid how.block
            have HW := Lib.hid how
            clear hkh how
            by_cases hlm : m < PL.length
            · obtain ⟨b, off, rfl, hbB, c0, c1, c2⟩ := Line.rd (HLIN.out _ hbw) hlm
              obtain ⟨_, _, m1, m2⟩ := linesB_at HLB.out hlm
              have hdr := List.drop_eq_getElem_cons hlm
              have HQ := Lib.hid (fun W => neq_acc W PL[m].Kind PL[m].Ch k c)
              by_cases he : PL[m].Kind = k ∧ PL[m].Ch = c
              · have hq : ∀ W, (binOp .neq 40 (.agg #[.int .i64 PL[m].Kind, .int .i64 PL[m].Ch]) (.agg #[.int .i64 k, .int .i64 c])).run Try.prog W = .ok (.bool false) W := fun W => by rw [HQ.out W, he.1, he.2]; simp
                cases hrg : rangeB (s + PL[m].Amt)
                · have HN2 := Lib.hid (show past (ps.map Pst.pl) k c = [] from HPO.out none (by rw [HN.out, HRL.out, hdr, pastL_bad he hrg]))
                  have HRG := Lib.hid hrg
                  clear hrg he hdr
                  go_wp2_with fail
                  refine (i_in _ _ _ _).mono ?_
                  rintro e w' ⟨rfl, rfl⟩
                  rw [show inB (s + PL[m].Amt) (-1125899906842624) 1125899906842624 = false from HRG.out]
                  go_wp2_with fail
                  go_ret
                  exact IntsPost.nil_ HN2.out rfl (by (first | ((repeat' first | (with_reducible (first | exact Below.refl _ _ | assumption | refine Below.setCell ?_ ?_ _ | refine Below.alloc ?_ ?_ _ | refine Below.drew ?_ | refine below_drewN ?_ _ | refine Below.trans ?_ (Below.mono (by assumption) ?_))) | omega | (simp; omega) | (simp; done)); done) | (repeat' first | exact Below.refl _ _ | assumption | refine Below.setCell ?_ (by first | omega | (simp; omega) | (simp; done)) _ | refine Below.alloc ?_ (by first | omega | (simp; omega) | (simp; done)) _ | refine Below.drew ?_ | refine below_drewN ?_ _ | refine Below.trans ?_ (Below.mono (by assumption) (by first | omega | (simp; omega) | (simp; done))))))
                · have HN2 := Lib.hid (show pastL k c PL s0 o0 = pastL k c (PL.drop (m + 1)) (s + PL[m].Amt) (o ++ [s + PL[m].Amt]) by rw [HRL.out, hdr, pastL_hit he hrg])
                  have hrr := inB_iff.1 (show inB (s + PL[m].Amt) (-1125899906842624) 1125899906842624 = true from hrg)
                  have HRG := Lib.hid hrg
                  have NE : some w.heap.size ≠ (Value.slice B o.length cp).ownBlock := fun e => by have := (OB.out _ e.symm).1; omega
                  have KE := Lib.hid (fun o1 o2 (w6 : World) (hgr : ((wr.alloc o1).alloc o2).grownBy w6 (Value.slice B o.length cp).ownBlock) => heap_grown hgr NE (heap_past (by simp; omega) (heap_past hkz KH.out)))
                  have KB := Lib.hid (fun o1 o2 (w6 : World) (hgr : ((wr.alloc o1).alloc o2).grownBy w6 (Value.slice B o.length cp).ownBlock) => ((hbw.alloc (Nat.le_trans (Nat.le_refl _) hbz) o1).alloc (by simp; omega) o2).grown hgr (by simp; omega) (fun k e => by have := (OB.out k e).1; omega))
                  clear hrg he hdr NE
                  go_wp2_with fail
                  refine (i_in _ _ _ _).mono ?_
                  rintro e w' ⟨rfl, rfl⟩
                  rw [show inB (s + PL[m].Amt) (-1125899906842624) 1125899906842624 = true from HRG.out]
                  go_wp2_with (at_builtin; refine wpList_app1 rfl _ _ _ rfl (w.heap.size + 1) 3 i0 _ 1 8 Try.underlying36 HI.out HZ0.out HZ1.out HZ2.out rfl (by decide) (.slice B o.length cp) (o.map intCells) rfl ((HW.out.alloc _).alloc _) (wr.heap.size + 1) 1 [.int .i64 (s + PL[m].Amt)] 3 rfl (heap_at (by first | rfl | (simp; done))) rfl (by simp [Value.oneCell']) (by rw [List.length_map]; omega) (by decide) (by first | omega | (simp; omega) | (simp; done)) ?_; intro g cap' w6 how6 hgr6 hat6 hlt6; rw [List.length_map] at how6; rw [List.length_map]; have XH := Lib.hid (KE.out _ _ _ hgr6); have hb6 := KB.out _ _ _ hgr6; have O6 := Lib.hid how6; clear how6 hgr6 hat6)
                  go_roundw
                  case rel =>
                    refine ⟨m + 1, s + PL[m].Amt, o ++ [s + PL[m].Amt], some ⟨g, 0, none⟩, cap', by omega, by go_num, rfl, by rw [List.length_append]; rfl, hrr, by rw [List.length_append, List.length_singleton]; omega, Lib.hid HN2.out, ?_, XH.out, hb6⟩
                    rw [List.map_append, List.length_append]
                    exact O6.out
                  case measure => simp [intOf]; omega
              · have hq : ∀ W, (binOp .neq 40 (.agg #[.int .i64 PL[m].Kind, .int .i64 PL[m].Ch]) (.agg #[.int .i64 k, .int .i64 c])).run Try.prog W = .ok (.bool true) W := fun W => by
                  rw [HQ.out W]
                  have : (PL[m].Kind == k && PL[m].Ch == c) = false := by rw [Bool.eq_false_iff]; intro h; rw [Bool.and_eq_true, beq_iff_eq, beq_iff_eq] at h; exact he h
                  rw [this]
                  try rfl
                have HN2 := Lib.hid (show pastL k c PL s0 o0 = pastL k c (PL.drop (m + 1)) s o by rw [HRL.out, hdr, pastL_skip he])
                clear he hdr
                go_wp2_with fail
                go_roundw
                case rel => exact ⟨m + 1, s, o, B, cp, by omega, by go_num, rfl, rfl, hs, by omega, Lib.hid HN2.out, HW.out.alloc _, heap_past hkz KH.out, by (first | ((repeat' first | (with_reducible (first | exact Below.refl _ _ | assumption | refine Below.setCell ?_ ?_ _ | refine Below.alloc ?_ ?_ _ | refine Below.drew ?_ | refine below_drewN ?_ _ | refine Below.trans ?_ (Below.mono (by assumption) ?_))) | omega | (simp; omega) | (simp; done)); done) | (repeat' first | exact Below.refl _ _ | assumption | refine Below.setCell ?_ (by first | omega | (simp; omega) | (simp; done)) _ | refine Below.alloc ?_ (by first | omega | (simp; omega) | (simp; done)) _ | refine Below.drew ?_ | refine below_drewN ?_ _ | refine Below.trans ?_ (Below.mono (by assumption) (by first | omega | (simp; omega) | (simp; done)))))⟩
                case measure => simp [intOf]; omega
            · obtain rfl : m = PL.length := by omega
              have HN2 := Lib.hid (show pastP k c (ps.map Pst.pl) 0 [] = pastP k c ((ps.drop (j + 1)).map Pst.pl) s o by rw [HN.out, HRL.out, List.drop_length]; rfl)
              go_wp2_with fail
              go_roundw
              case rel => exact ⟨j + 1, s, o, B, cp, by omega, by go_num, rfl, rfl, hs, by omega, Lib.hid HN2.out, HW.out, KH.out, hbw⟩
              case measure => simp [intOf]; omega
      · obtain rfl : j = ps.length := by omega
        have HN := Lib.hid (show past (ps.map Pst.pl) k c = o0 from HPO.out (some o0) (by rw [HREST.out, List.drop_length]; rfl))
        go_wp2_with fail
        go_ret
        exact ⟨B0, cp0, by rw [HN.out]; rfl, by rw [HN.out]; exact HW.out.more (by omega), hbw⟩
set_option maxRecDepth 100000 in
set_option maxHeartbeats 4000000 in
theorem s_AccPast (ps : List Pst) (A : Option Addr) (cap : Nat) (k c : Int) (w : World) (hl : ps.length ≤ 1048576) (hls : ∀ p ∈ ps, p.L.length ≤ 1048576) (htot : ps.length + totP ps ≤ 1048576) (hr : RdP w w.heap.size A ps) :
    Calls Try.prog 16 #[.slice A ps.length cap, .agg #[.int .i64 k, .int .i64 c]] w (IntsPost w (past (ps.map Pst.pl) k c)) := by
  have HR := Lib.hid hr
  have HLS := Lib.hid hls
  clear hr hls
  obtain ⟨i0, hi, hz0, hz1, hz2⟩ := info_parts info_int1
  have HI := Lib.hid hi
  have HZ0 := Lib.hid hz0
  have HZ1 := Lib.hid hz1
  have HZ2 := Lib.hid hz2
  clear hi hz0 hz1 hz2
  have HE0 := Lib.hid (Ow.empty_ (w := w.alloc (.cells #[.int .i64 k, .int .i64 c] 40)) (g := w.heap.size + 1) (e := 3) (size := 1) (B := w.heap.size + 1) (by simp) (Nat.le_refl _))
  cases ha : accB k c
  · have HP := Lib.hid (past_no (ps := ps.map Pst.pl) ha)
    have HA := Lib.hid ha
    clear ha
    go_enter Try.func16, Try.ntmps16
    go_wp2_with fail
    refine (s_AccOk k c _).mono ?_
    rintro e w1 ⟨rfl, hb1⟩
    have z1 := hb1.size
    try simp at z1
    rw [HA.out]
    go_wp2_with fail
    have HE1 := Lib.hid (HE0.out.below hb1)
    go_ret
    refine ⟨some ⟨w.heap.size + 1, 0, none⟩, 0, by rw [HP.out]; rfl, by rw [HP.out]; exact HE1.out.more (by omega), by (first | ((repeat' first | (with_reducible (first | exact Below.refl _ _ | assumption | refine Below.setCell ?_ ?_ _ | refine Below.alloc ?_ ?_ _ | refine Below.drew ?_ | refine below_drewN ?_ _ | refine Below.trans ?_ (Below.mono (by assumption) ?_))) | omega | (simp; omega) | (simp; done)); done) | (repeat' first | exact Below.refl _ _ | assumption | refine Below.setCell ?_ (by first | omega | (simp; omega) | (simp; done)) _ | refine Below.alloc ?_ (by first | omega | (simp; omega) | (simp; done)) _ | refine Below.drew ?_ | refine below_drewN ?_ _ | refine Below.trans ?_ (Below.mono (by assumption) (by first | omega | (simp; omega) | (simp; done)))))⟩
  · have HP := fun (r : Option (List Int)) => past_of (ps := ps.map Pst.pl) (r := r) ha
    have HPO := Lib.hid HP
    have HA := Lib.hid ha
    clear ha HP
    go_enter Try.func16, Try.ntmps16
    go_wp2_with fail
    refine (s_AccOk k c _).mono ?_
    rintro e w1 ⟨rfl, hb1⟩
    have z1 := hb1.size
    try simp at z1
    rw [HA.out]
    obtain ⟨kh, k0, k1, kf, kz⟩ := own2 (g := w.heap.size) hb1 (by first | omega | (simp; omega) | (simp; done)) (by (first | ((repeat' first | (with_reducible (first | assumption | (refine heap_at ?_; (first | rfl | (simp; done))) | refine heap_drew ?_ | refine heap_drewN ?_ | refine heap_past ?_ ?_ | refine heap_far ?_ ?_)) | (simp; done) | (simp; omega)); done) | (repeat' first | assumption | (refine heap_at ?_; (simp; done)) | refine heap_drew ?_ | refine heap_drewN ?_ | (refine heap_past ?_ ?_ <;> try (simp; done)) | (refine heap_far ?_ ?_ <;> try (simp; done)))))
    have hB1 : Below w.heap.size w w1 := by (first | ((repeat' first | (with_reducible (first | exact Below.refl _ _ | assumption | refine Below.setCell ?_ ?_ _ | refine Below.alloc ?_ ?_ _ | refine Below.drew ?_ | refine below_drewN ?_ _ | refine Below.trans ?_ (Below.mono (by assumption) ?_))) | omega | (simp; omega) | (simp; done)); done) | (repeat' first | exact Below.refl _ _ | assumption | refine Below.setCell ?_ (by first | omega | (simp; omega) | (simp; done)) _ | refine Below.alloc ?_ (by first | omega | (simp; omega) | (simp; done)) _ | refine Below.drew ?_ | refine below_drewN ?_ _ | refine Below.trans ?_ (Below.mono (by assumption) (by first | omega | (simp; omega) | (simp; done)))))
    have HE1 := Lib.hid (HE0.out.below hb1)
    have hz1' : w.heap.size + 2 ≤ w1.heap.size := by simpa using hb1.size
    have KH := Lib.hid kh
    clear hb1 kh k0 k1 kf
    go_wp2_with fail
    go_loopw [5, 6, 18] (fun vo vs i wr => ∃ (j : Nat) (s : Int) (o : List Int) (B : Option Addr) (cp : Nat), j ≤ ps.length ∧ i = .int .i64 j ∧ vs = .int .i64 s ∧ vo = .slice B o.length cp ∧ (-1125899906842624 ≤ s ∧ s ≤ 1125899906842624) ∧ o.length + totP (ps.drop j) ≤ 1048576 ∧ Hid (pastP k c (ps.map Pst.pl) 0 [] = pastP k c ((ps.drop j).map Pst.pl) s o) ∧ Ow wr (w.heap.size + 1) 3 1 (.slice B o.length cp) (o.map intCells) ∧ wr.heap[w.heap.size]? = some (.cells #[.int .i64 k, .int .i64 c] 40 (0, 0)) ∧ Below w.heap.size w wr) (fun _ _ i _ => ps.length - (intOf i).toNat)
    case atStart => exact ⟨0, 0, [], some ⟨w.heap.size + 1, 0, none⟩, 0, Nat.zero_le _, rfl, rfl, rfl, by omega, by simp; omega, Lib.hid rfl, HE1.out, KH.out, hB1⟩
    case round =>
      obtain ⟨j, s0, o0, B0, cp0, hj, rfl, rfl, rfl, hs, hol, HREST, how, hkh, hbw⟩ := hrel
      clear hB1 KH
      have hbz := hbw.size
      have hkz := (Array.getElem?_eq_some_iff.1 hkh).1
      have KH := Lib.hid hkh
      have HW := Lib.hid how
      clear hkh how
      by_cases hlt : j < ps.length
      · obtain ⟨b, off, rfl, hbB, c0, c1⟩ := (HR.out.below hbw).at_ hlt
        have HLIN := Lib.hid (fun (wr : World) (hb : Below w.heap.size w wr) => (HR.out.below hb).lines hlt)
        have HLK := Lib.hid (HLS.out _ (List.getElem_mem hlt))
        have hd := totP_drop hlt
        have HPL := Lib.hid (pl_drop hlt)
        obtain ⟨PI, PA, PC, PL, e⟩ : ∃ PI PA PC PL, ps[j] = ⟨PI, PA, PC, PL⟩ := ⟨_, _, _, _, rfl⟩
        rw [e] at c0 c1 HLIN HLK hd HPL
        simp only at c0 c1 HLIN HLK hd HPL
        clear e
        cases hp : postingB PI PL
        · have HN := Lib.hid (show past (ps.map Pst.pl) k c = [] from HPO.out none (by rw [HREST.out, HPL.out, pastP_bad hp]))
          have HPB := Lib.hid hp
          clear hp
          go_wp2_with fail
          refine (s_PostingOk PI PL _ _ _ HLK.out ((HLIN.out _ (by (first | ((repeat' first | (with_reducible (first | exact Below.refl _ _ | assumption | refine Below.setCell ?_ ?_ _ | refine Below.alloc ?_ ?_ _ | refine Below.drew ?_ | refine below_drewN ?_ _ | refine Below.trans ?_ (Below.mono (by assumption) ?_))) | omega | (simp; omega) | (simp; done)); done) | (repeat' first | exact Below.refl _ _ | assumption | refine Below.setCell ?_ (by first | omega | (simp; omega) | (simp; done)) _ | refine Below.alloc ?_ (by first | omega | (simp; omega) | (simp; done)) _ | refine Below.drew ?_ | refine below_drewN ?_ _ | refine Below.trans ?_ (Below.mono (by assumption) (by first | omega | (simp; omega) | (simp; done))))))).more (by first | omega | (simp; omega) | (simp; done)))).mono ?_
          rintro e w2 ⟨rfl, hb2⟩
          have z2 := hb2.size
          try simp at z2
          rw [HPB.out]
          go_wp2_with fail
          go_ret
          exact IntsPost.nil_ HN.out rfl (by (first | ((repeat' first | (with_reducible (first | exact Below.refl _ _ | assumption | refine Below.setCell ?_ ?_ _ | refine Below.alloc ?_ ?_ _ | refine Below.drew ?_ | refine below_drewN ?_ _ | refine Below.trans ?_ (Below.mono (by assumption) ?_))) | omega | (simp; omega) | (simp; done)); done) | (repeat' first | exact Below.refl _ _ | assumption | refine Below.setCell ?_ (by first | omega | (simp; omega) | (simp; done)) _ | refine Below.alloc ?_ (by first | omega | (simp; omega) | (simp; done)) _ | refine Below.drew ?_ | refine below_drewN ?_ _ | refine Below.trans ?_ (Below.mono (by assumption) (by first | omega | (simp; omega) | (simp; done))))))
        · have HN := Lib.hid (show pastP k c (ps.map Pst.pl) 0 [] = match pastL k c PL s0 o0 with | none => none | some x => pastP k c ((ps.drop (j + 1)).map Pst.pl) x.1 x.2 by rw [HREST.out, HPL.out, pastP_good hp])
          obtain ⟨_, _, hp8, hpl⟩ := postingB_iff.1 hp
          have HPB := Lib.hid hp
          have HLB := Lib.hid hpl
          clear hp hpl HREST HPL
          go_wp2_with fail
          refine (s_PostingOk PI PL _ _ _ HLK.out ((HLIN.out _ (by (first | ((repeat' first | (with_reducible (first | exact Below.refl _ _ | assumption | refine Below.setCell ?_ ?_ _ | refine Below.alloc ?_ ?_ _ | refine Below.drew ?_ | refine below_drewN ?_ _ | refine Below.trans ?_ (Below.mono (by assumption) ?_))) | omega | (simp; omega) | (simp; done)); done) | (repeat' first | exact Below.refl _ _ | assumption | refine Below.setCell ?_ (by first | omega | (simp; omega) | (simp; done)) _ | refine Below.alloc ?_ (by first | omega | (simp; omega) | (simp; done)) _ | refine Below.drew ?_ | refine below_drewN ?_ _ | refine Below.trans ?_ (Below.mono (by assumption) (by first | omega | (simp; omega) | (simp; done))))))).more (by first | omega | (simp; omega) | (simp; done)))).mono ?_
          rintro e w2 ⟨rfl, hb2⟩
          have z2 := hb2.size
          try simp at z2
          rw [HPB.out]
          obtain ⟨ph, p0, p1, pf, pz⟩ := own2 (g := wr.heap.size) hb2 (by first | omega | (simp; omega) | (simp; done)) (by (first | ((repeat' first | (with_reducible (first | assumption | (refine heap_at ?_; (first | rfl | (simp; done))) | refine heap_drew ?_ | refine heap_drewN ?_ | refine heap_past ?_ ?_ | refine heap_far ?_ ?_)) | (simp; done) | (simp; omega)); done) | (repeat' first | assumption | (refine heap_at ?_; (simp; done)) | refine heap_drew ?_ | refine heap_drewN ?_ | (refine heap_past ?_ ?_ <;> try (simp; done)) | (refine heap_far ?_ ?_ <;> try (simp; done)))))
          have hk2 := heap_below hb2 (by simp; omega) (heap_past hkz KH.out)
          have HB2 : Below w.heap.size w w2 := by (first | ((repeat' first | (with_reducible (first | exact Below.refl _ _ | assumption | refine Below.setCell ?_ ?_ _ | refine Below.alloc ?_ ?_ _ | refine Below.drew ?_ | refine below_drewN ?_ _ | refine Below.trans ?_ (Below.mono (by assumption) ?_))) | omega | (simp; omega) | (simp; done)); done) | (repeat' first | exact Below.refl _ _ | assumption | refine Below.setCell ?_ (by first | omega | (simp; omega) | (simp; done)) _ | refine Below.alloc ?_ (by first | omega | (simp; omega) | (simp; done)) _ | refine Below.drew ?_ | refine below_drewN ?_ _ | refine Below.trans ?_ (Below.mono (by assumption) (by first | omega | (simp; omega) | (simp; done)))))
          have HW2 := Lib.hid ((HW.out.alloc (.cells #[.int .i64 PI, .slice PA PL.length PC] 69)).below hb2)
          have KH2 := Lib.hid hk2
          clear hb2 hk2 HW KH c0 c1 hbw ph
          obtain ⟨wo, rfl⟩ : ∃ wo : World, wo = wr := ⟨_, rfl⟩
          go_wp2_with fail
          clear p0 p1 pf
          go_loopw [5, 6, 28] (fun vo vs i wr => ∃ (m : Nat) (s : Int) (o : List Int) (B : Option Addr) (cp : Nat), m ≤ PL.length ∧ i = .int .i64 m ∧ vs = .int .i64 s ∧ vo = .slice B o.length cp ∧ (-1125899906842624 ≤ s ∧ s ≤ 1125899906842624) ∧ o.length + (PL.length - m) + totP (ps.drop (j + 1)) ≤ 1048576 ∧ Hid (pastL k c PL s0 o0 = pastL k c (PL.drop m) s o) ∧ Ow wr (w.heap.size + 1) 3 1 (.slice B o.length cp) (o.map intCells) ∧ wr.heap[w.heap.size]? = some (.cells #[.int .i64 k, .int .i64 c] 40 (0, 0)) ∧ Below w.heap.size w wr) (fun _ _ i _ => PL.length - (intOf i).toNat)
          case atStart => exact ⟨0, s0, o0, B0, cp0, Nat.zero_le _, rfl, rfl, rfl, hs, by omega, Lib.hid rfl, HW2.out, KH2.out, HB2⟩
          case round =>
            clear HW2 KH2 HB2 hs hol hkz hbz
            obtain ⟨m, s, o, B, cp, hm, rfl, rfl, rfl, hs, hol, HRL, how, hkh, hbw⟩ := hrel
            have hbz := hbw.size
            have hkz := (Array.getElem?_eq_some_iff.1 hkh).1
            have hk0 := blk_cell hkh 0
            have hk1 := blk_cell hkh 1
            simp only [List.getElem?_toArray, List.getElem?_cons_zero, List.getElem?_cons_succ] at hk0 hk1
            have KH := Lib.hid hkh
            have OB := Lib.hid how.block
            have HW := Lib.hid how
            clear hkh how
            by_cases hlm : m < PL.length
            · obtain ⟨b, off, rfl, hbB, c0, c1, c2⟩ := Line.rd (HLIN.out _ hbw) hlm
              obtain ⟨_, _, m1, m2⟩ := linesB_at HLB.out hlm
              have hdr := List.drop_eq_getElem_cons hlm
              have HQ := Lib.hid (fun W => eq_acc W PL[m].Kind PL[m].Ch k c)
              by_cases he : PL[m].Kind = k ∧ PL[m].Ch = c
              · have hq : ∀ W, (binOp .eql 40 (.agg #[.int .i64 PL[m].Kind, .int .i64 PL[m].Ch]) (.agg #[.int .i64 k, .int .i64 c])).run Try.prog W = .ok (.bool true) W := fun W => by rw [HQ.out W, he.1, he.2]; simp
                cases hrg : rangeB (s + PL[m].Amt)
                · have HN2 := Lib.hid (show past (ps.map Pst.pl) k c = [] from HPO.out none (by rw [HN.out, HRL.out, hdr, pastL_bad he hrg]))
                  have HRG := Lib.hid hrg
                  clear hrg he hdr
                  go_wp2_with fail
                  refine (s_l02Range _ _).mono ?_
                  rintro e w' ⟨rfl, rfl⟩
                  rw [HRG.out]
                  go_wp2_with fail
                  go_ret
                  exact IntsPost.nil_ HN2.out rfl (by (first | ((repeat' first | (with_reducible (first | exact Below.refl _ _ | assumption | refine Below.setCell ?_ ?_ _ | refine Below.alloc ?_ ?_ _ | refine Below.drew ?_ | refine below_drewN ?_ _ | refine Below.trans ?_ (Below.mono (by assumption) ?_))) | omega | (simp; omega) | (simp; done)); done) | (repeat' first | exact Below.refl _ _ | assumption | refine Below.setCell ?_ (by first | omega | (simp; omega) | (simp; done)) _ | refine Below.alloc ?_ (by first | omega | (simp; omega) | (simp; done)) _ | refine Below.drew ?_ | refine below_drewN ?_ _ | refine Below.trans ?_ (Below.mono (by assumption) (by first | omega | (simp; omega) | (simp; done))))))
                · have HN2 := Lib.hid (show pastL k c PL s0 o0 = pastL k c (PL.drop (m + 1)) (s + PL[m].Amt) (o ++ [s + PL[m].Amt]) by rw [HRL.out, hdr, pastL_hit he hrg])
                  have hrr := inB_iff.1 (show inB (s + PL[m].Amt) (-1125899906842624) 1125899906842624 = true from hrg)
                  have HRG := Lib.hid hrg
                  have NE : some w.heap.size ≠ (Value.slice B o.length cp).ownBlock := fun e => by have := (OB.out _ e.symm).1; omega
                  have KE := Lib.hid (fun o1 o2 (w6 : World) (hgr : ((wr.alloc o1).alloc o2).grownBy w6 (Value.slice B o.length cp).ownBlock) => heap_grown hgr NE (heap_past (by simp; omega) (heap_past hkz KH.out)))
                  have KB := Lib.hid (fun o1 o2 (w6 : World) (hgr : ((wr.alloc o1).alloc o2).grownBy w6 (Value.slice B o.length cp).ownBlock) => ((hbw.alloc (Nat.le_trans (Nat.le_refl _) hbz) o1).alloc (by simp; omega) o2).grown hgr (by simp; omega) (fun k e => by have := (OB.out k e).1; omega))
                  clear hrg he hdr NE
                  go_wp2_with fail
                  refine (s_l02Range _ _).mono ?_
                  rintro e w' ⟨rfl, rfl⟩
                  rw [HRG.out]
                  go_wp2_with (at_builtin; refine wpList_app1 rfl _ _ _ rfl (w.heap.size + 1) 3 i0 _ 1 8 Try.underlying36 HI.out HZ0.out HZ1.out HZ2.out rfl (by decide) (.slice B o.length cp) (o.map intCells) rfl ((HW.out.alloc _).alloc _) (wr.heap.size + 1) 1 [.int .i64 (s + PL[m].Amt)] 3 rfl (heap_at (by first | rfl | (simp; done))) rfl (by simp [Value.oneCell']) (by rw [List.length_map]; omega) (by decide) (by first | omega | (simp; omega) | (simp; done)) ?_; intro g cap' w6 how6 hgr6 hat6 hlt6; rw [List.length_map] at how6; rw [List.length_map]; have XH := Lib.hid (KE.out _ _ _ hgr6); have hb6 := KB.out _ _ _ hgr6; have O6 := Lib.hid how6; clear how6 hgr6 hat6)
                  go_roundw
                  case rel =>
                    refine ⟨m + 1, s + PL[m].Amt, o ++ [s + PL[m].Amt], some ⟨g, 0, none⟩, cap', by omega, by go_num, rfl, by rw [List.length_append]; rfl, hrr, by rw [List.length_append, List.length_singleton]; omega, Lib.hid HN2.out, ?_, XH.out, hb6⟩
                    rw [List.map_append, List.length_append]
                    exact O6.out
                  case measure => simp [intOf]; omega
              · have hq : ∀ W, (binOp .eql 40 (.agg #[.int .i64 PL[m].Kind, .int .i64 PL[m].Ch]) (.agg #[.int .i64 k, .int .i64 c])).run Try.prog W = .ok (.bool false) W := fun W => by
                  rw [HQ.out W]
                  have : (PL[m].Kind == k && PL[m].Ch == c) = false := by rw [Bool.eq_false_iff]; intro h; rw [Bool.and_eq_true, beq_iff_eq, beq_iff_eq] at h; exact he h
                  rw [this]
                  try rfl
                have HN2 := Lib.hid (show pastL k c PL s0 o0 = pastL k c (PL.drop (m + 1)) s o by rw [HRL.out, hdr, pastL_skip he])
                clear he hdr
                go_wp2_with fail
                go_roundw
                case rel => exact ⟨m + 1, s, o, B, cp, by omega, by go_num, rfl, rfl, hs, by omega, Lib.hid HN2.out, HW.out.alloc _, heap_past hkz KH.out, by (first | ((repeat' first | (with_reducible (first | exact Below.refl _ _ | assumption | refine Below.setCell ?_ ?_ _ | refine Below.alloc ?_ ?_ _ | refine Below.drew ?_ | refine below_drewN ?_ _ | refine Below.trans ?_ (Below.mono (by assumption) ?_))) | omega | (simp; omega) | (simp; done)); done) | (repeat' first | exact Below.refl _ _ | assumption | refine Below.setCell ?_ (by first | omega | (simp; omega) | (simp; done)) _ | refine Below.alloc ?_ (by first | omega | (simp; omega) | (simp; done)) _ | refine Below.drew ?_ | refine below_drewN ?_ _ | refine Below.trans ?_ (Below.mono (by assumption) (by first | omega | (simp; omega) | (simp; done)))))⟩
                case measure => simp [intOf]; omega
            · obtain rfl : m = PL.length := by omega
              have HN2 := Lib.hid (show pastP k c (ps.map Pst.pl) 0 [] = pastP k c ((ps.drop (j + 1)).map Pst.pl) s o by rw [HN.out, HRL.out, List.drop_length]; rfl)
              go_wp2_with fail
              go_roundw
              case rel => exact ⟨j + 1, s, o, B, cp, by omega, by go_num, rfl, rfl, hs, by omega, Lib.hid HN2.out, HW.out, KH.out, hbw⟩
              case measure => simp [intOf]; omega
      · obtain rfl : j = ps.length := by omega
        have HN := Lib.hid (show past (ps.map Pst.pl) k c = o0 from HPO.out (some o0) (by rw [HREST.out, List.drop_length]; rfl))
        go_wp2_with fail
        go_ret
        exact ⟨B0, cp0, by rw [HN.out]; rfl, by rw [HN.out]; exact HW.out.more (by omega), hbw⟩
end Go.Proofs.Ytplchgkppkibnaa
