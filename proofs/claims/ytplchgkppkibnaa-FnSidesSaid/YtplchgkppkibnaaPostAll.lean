/- Postings posted one after the other; an account's balance: the program's walks. -/
import Derived.Test.YtplchgkppkibnaaRows
import Derived.Test.YtplchgkppkibnaaPost
import Derived.Deep.RegionHeld3
namespace Go.Proofs.Ytplchgkppkibnaa
open Go.RowKit

theorem pAll_yes {p : Int × List Line} {ps : List (Int × List Line)} {z : Int} {l : List Line} {n : Int} (h : postCode z l p.1 p.2 = 0) : pAll (p :: ps) z l n = pAll ps (postZ z l p.1 p.2) (postL z l p.1 p.2) (n + 1) := by rw [pAll, if_pos h]
theorem pAll_no {p : Int × List Line} {ps : List (Int × List Line)} {z : Int} {l : List Line} {n : Int} (h : ¬ postCode z l p.1 p.2 = 0) : pAll (p :: ps) z l n = pAll ps z l n := by rw [pAll, if_neg h]
theorem pl_dropP {ps : List Pst} {k : Nat} (hk : k < ps.length) : (ps.drop k).map Pst.pl = (ps[k].Id, ps[k].L) :: (ps.drop (k + 1)).map Pst.pl := by rw [List.drop_eq_getElem_cons hk]; rfl
theorem Ow.asideP {w' : World} {B X n i : Nat} {e t : TypeId} {v u : Value} {cs : Array Value} {rows : List (List Value)} (h : Ow w' B e n v rows) (hx : w'.heap[X]? = some (.cells cs t (0, 0))) (hne : e ≠ t) : Ow (w'.setCell ⟨X, i, none⟩ u) B e n v rows :=
  h.grown (grown_set (World.grownBy.refl w' (some X)) i u) (.inr (Ne.symm (h.ne_ hx hne)))
theorem cell_asideP {w : World} {p : Addr} {b i : Nat} {u v : Value} (h : p.block ≠ b) (k : w.cell? p = some v) : (w.setCell ⟨b, i, none⟩ u).cell? p = some v := by
  rw [← k]
  exact World.cell?_of_block (Below.heap_setCell w ⟨b, i, none⟩ u p.block h)
theorem cell_undrewP {w : World} {p : Addr} {v : Value} (k : w.cell? p = some v) : w.drew.cell? p = some v := k
theorem sizeUpQ (w : World) (o : Obj) : (w.alloc o).heap.size = w.heap.size + 1 := by simp
set_option maxRecDepth 100000 in
set_option maxHeartbeats 1000000 in
theorem i_copyLedger (z : Int) (l : List Line) (A : Option Addr) (ca : Nat) (w : World) (hl : l.length ≤ 1048576) (hr : Rd w w.heap.size 3 A (l.map Line.cells)) :
    Calls Try.prog 85 #[.agg #[.int .i64 z, .slice A l.length ca]] w fun e w' => ∃ A' cap', e = .returned (.agg #[.int .i64 z, .slice A' l.length cap']) ∧ Ow w' w.heap.size 97 3 (.slice A' l.length cap') (l.map Line.cells) ∧ Below w.heap.size w w' := by
  have HR := Lib.hid hr
  clear hr
  go_enter Try.func85, Try.ntmps85
  go_wp2_with fail
  have ah : ((w.alloc (.cells #[.int .i64 z, .slice A l.length ca] 49)).alloc (.cells #[.int .i64 0, .slice none 0 0] 49)).heap[w.heap.size]? = some (.cells #[.int .i64 z, .slice A l.length ca] 49 (0, 0)) := heap_past (by simp) (heap_at rfl)
  have a0 := blk_cell ah 0
  have a1 := blk_cell ah 1
  simp only [List.getElem?_toArray, List.getElem?_cons_zero, List.getElem?_cons_succ] at a0 a1
  go_region_held3 (fun w' => w'.cell? ⟨w.heap.size, 0, none⟩ = some (.int .i64 z) ∧ w'.cell? ⟨w.heap.size, 1, none⟩ = some (.slice A l.length ca))
    (((try dsimp only); (repeat' apply And.intro) <;> (repeat (first | (with_reducible assumption) | (with_reducible refine cell_undrewP ?_) | (with_reducible refine cell_asideP (by simp only; omega) ?_)))))
    ((go_at_call 84; refine (i_copyLines l A ca _ hl ((HR.out.below (by (first | ((repeat' first | (with_reducible (first | exact Below.refl _ _ | assumption | refine Below.setCell ?_ ?_ _ | refine Below.alloc ?_ ?_ _ | refine Below.drew ?_ | refine below_drewN ?_ _ | refine Below.trans ?_ (Below.mono (by assumption) ?_))) | omega | (simp; omega) | (simp; done)); done) | (repeat' first | exact Below.refl _ _ | assumption | refine Below.setCell ?_ (by first | omega | (simp; omega) | (simp; done)) _ | refine Below.alloc ?_ (by first | omega | (simp; omega) | (simp; done)) _ | refine Below.drew ?_ | refine below_drewN ?_ _ | refine Below.trans ?_ (Below.mono (by assumption) (by first | omega | (simp; omega) | (simp; done))))))).more (by first | omega | (simp; omega) | (simp; done)))).mono ?_; rintro e w1 ⟨A', cap', rfl, how, hb1⟩; have z1 := hb1.size; (try simp at z1); have HO1 := Lib.hid how; clear how; obtain ⟨bh, b0, b1, bf, bz⟩ := own2 (g := w.heap.size) hb1 (by first | (simp; done) | (simp; omega)) (heap_past (by simp) (heap_at rfl)); obtain ⟨rh, r0, r1, rf, rz⟩ := own2 (g := w.heap.size + 1) hb1 (by simp) (heap_at (by simp))))
  go_wp2_with fail
  obtain ⟨s0, s1⟩ := two_selfP (a := .int .i64 z) (b := .slice A' l.length cap') rh
  refine bodyPost_ret (v := .agg #[.int .i64 z, .slice A' l.length cap']) (by simp [results, Try.results85, go_sem, s0, s1]) rfl ⟨A', cap', rfl, ?_, ?_⟩
  · exact ((HO1.out.far (a := ⟨w.heap.size + 1, 0, none⟩) (by first | (simp; done) | (simp; omega)) _).far (a := ⟨w.heap.size + 1, 1, none⟩) (by first | (simp; done) | (simp; omega)) _).more (by first | (simp; done) | (simp; omega))
  · (first | ((repeat' first | (with_reducible (first | exact Below.refl _ _ | assumption | refine Below.setCell ?_ ?_ _ | refine Below.alloc ?_ ?_ _ | refine Below.drew ?_ | refine below_drewN ?_ _ | refine Below.trans ?_ (Below.mono (by assumption) ?_))) | omega | (simp; omega) | (simp; done)); done) | (repeat' first | exact Below.refl _ _ | assumption | refine Below.setCell ?_ (by first | omega | (simp; omega) | (simp; done)) _ | refine Below.alloc ?_ (by first | omega | (simp; omega) | (simp; done)) _ | refine Below.drew ?_ | refine below_drewN ?_ _ | refine Below.trans ?_ (Below.mono (by assumption) (by first | omega | (simp; omega) | (simp; done)))))
set_option maxRecDepth 100000 in
set_option maxHeartbeats 2000000 in
theorem i_PostAll (z : Int) (l : List Line) (A : Option Addr) (ca : Nat) (ps : List Pst) (PA : Option Addr) (pc : Nat) (w : World) (hl : ledgerB z l = true) (hps : ps.length ≤ 1048576) (hpl : ∀ p ∈ ps, p.L.length ≤ 1048576 ∧ p.L.length ≤ p.cap)
    (hra : Rd w w.heap.size 3 A (l.map Line.cells)) (hrp : RdP w w.heap.size PA ps) :
    Calls Try.prog 43 #[.agg #[.int .i64 z, .slice A l.length ca], .slice PA ps.length pc] w (LedP w (pAll (ps.map Pst.pl) z l 0).1 (pAll (ps.map Pst.pl) z l 0).2.1 (pAll (ps.map Pst.pl) z l 0).2.2) := by
  obtain ⟨_, hl320, _⟩ := ledgerB_iff.1 hl
  have HL := Lib.hid hl
  have HRA := Lib.hid hra
  have HRP := Lib.hid hrp
  have HPL := Lib.hid hpl
  clear hl hra hrp hpl
  go_enter Try.func43, Try.ntmps43
  go_wp2_with fail
  refine (i_LedgerOk z l _ _ _ (by omega) ((HRA.out.below (by (first | ((repeat' first | (with_reducible (first | exact Below.refl _ _ | assumption | refine Below.setCell ?_ ?_ _ | refine Below.alloc ?_ ?_ _ | refine Below.drew ?_ | refine below_drewN ?_ _ | refine Below.trans ?_ (Below.mono (by assumption) ?_))) | omega | (simp; omega) | (simp; done)); done) | (repeat' first | exact Below.refl _ _ | assumption | refine Below.setCell ?_ (by first | omega | (simp; omega) | (simp; done)) _ | refine Below.alloc ?_ (by first | omega | (simp; omega) | (simp; done)) _ | refine Below.drew ?_ | refine below_drewN ?_ _ | refine Below.trans ?_ (Below.mono (by assumption) (by first | omega | (simp; omega) | (simp; done))))))).more (by first | omega | (simp; omega) | (simp; done)))).mono ?_
  rintro e w1 ⟨rfl, hb1⟩
  have z1 := hb1.size
  try simp at z1
  rw [HL.out]
  obtain ⟨lh, l0, l1, lf, lz⟩ := own2 (g := w.heap.size) hb1 (by first | omega | (simp; omega) | (simp; done)) (by (first | ((repeat' first | (with_reducible (first | assumption | (refine heap_at ?_; (first | rfl | (simp; done))) | refine heap_drew ?_ | refine heap_drewN ?_ | refine heap_past ?_ ?_ | refine heap_far ?_ ?_)) | (simp; done) | (simp; omega)); done) | (repeat' first | assumption | (refine heap_at ?_; (simp; done)) | refine heap_drew ?_ | refine heap_drewN ?_ | (refine heap_past ?_ ?_ <;> try (simp; done)) | (refine heap_far ?_ ?_ <;> try (simp; done)))))
  obtain ⟨rh, r0, r1, rf, rz⟩ := own2 (g := w.heap.size + 1) hb1 (by first | omega | (simp; omega) | (simp; done)) (by (first | ((repeat' first | (with_reducible (first | assumption | (refine heap_at ?_; (first | rfl | (simp; done))) | refine heap_drew ?_ | refine heap_drewN ?_ | refine heap_past ?_ ?_ | refine heap_far ?_ ?_)) | (simp; done) | (simp; omega)); done) | (repeat' first | assumption | (refine heap_at ?_; (simp; done)) | refine heap_drew ?_ | refine heap_drewN ?_ | (refine heap_past ?_ ?_ <;> try (simp; done)) | (refine heap_far ?_ ?_ <;> try (simp; done)))))
  have hB1 : Below w.heap.size w w1 := by (first | ((repeat' first | (with_reducible (first | exact Below.refl _ _ | assumption | refine Below.setCell ?_ ?_ _ | refine Below.alloc ?_ ?_ _ | refine Below.drew ?_ | refine below_drewN ?_ _ | refine Below.trans ?_ (Below.mono (by assumption) ?_))) | omega | (simp; omega) | (simp; done)); done) | (repeat' first | exact Below.refl _ _ | assumption | refine Below.setCell ?_ (by first | omega | (simp; omega) | (simp; done)) _ | refine Below.alloc ?_ (by first | omega | (simp; omega) | (simp; done)) _ | refine Below.drew ?_ | refine below_drewN ?_ _ | refine Below.trans ?_ (Below.mono (by assumption) (by first | omega | (simp; omega) | (simp; done)))))
  clear hb1
  go_wp2_with fail
  refine (i_copyLedger z l A ca _ (by omega) ((HRA.out.below hB1).more (by omega))).mono ?_
  rintro e w2 ⟨A2, c2, rfl, how2, hb2⟩
  have z2 := hb2.size
  obtain ⟨rh2, _, _, _, rz2⟩ := own2 hb2 rz rh
  have hB2 : Below w.heap.size w w2 := by (first | ((repeat' first | (with_reducible (first | exact Below.refl _ _ | assumption | refine Below.setCell ?_ ?_ _ | refine Below.alloc ?_ ?_ _ | refine Below.drew ?_ | refine below_drewN ?_ _ | refine Below.trans ?_ (Below.mono (by assumption) ?_))) | omega | (simp; omega) | (simp; done)); done) | (repeat' first | exact Below.refl _ _ | assumption | refine Below.setCell ?_ (by first | omega | (simp; omega) | (simp; done)) _ | refine Below.alloc ?_ (by first | omega | (simp; omega) | (simp; done)) _ | refine Below.drew ?_ | refine below_drewN ?_ _ | refine Below.trans ?_ (Below.mono (by assumption) (by first | omega | (simp; omega) | (simp; done)))))
  have HO2 := Lib.hid ((how2.more (B' := w.heap.size + 2) (by omega)).alloc (.cells #[.int .i64 z, .slice A2 l.length c2] 49))
  have hcap2 : l.length ≤ c2 := by have := how2.cap_; rwa [List.length_map] at this
  have RH2 := Lib.hid (heap_past (o := .cells #[.int .i64 z, .slice A2 l.length c2] 49) rz2 rh2)
  have OH2 := Lib.hid (show (w2.alloc (.cells #[.int .i64 z, .slice A2 l.length c2] 49)).heap[w2.heap.size]? = some (.cells #[.int .i64 z, .slice A2 l.length c2] 49 (0, 0)) from heap_at rfl)
  have hO : w.heap.size + 2 ≤ w2.heap.size := by omega
  obtain ⟨O, hOe⟩ : ∃ O, w2.heap.size = O := ⟨_, rfl⟩
  clear hb2 how2 rh2 rh l0 l1 lf r0 r1 rf
  go_wp2_with fail
  simp only [hOe] at OH2
  rw [hOe] at hO
  go_loopw [7, 20] (fun vn i wr => ∃ (j : Nat) (n y : Int) (m : List Line) (B : Option Addr) (cb : Nat), j ≤ ps.length ∧ i = .int .i64 j ∧ vn = .int .i64 n ∧ (0 ≤ n ∧ n ≤ j) ∧ (m.length ≤ 1048576 ∧ m.length ≤ cb) ∧ Hid (pAll (ps.map Pst.pl) z l 0 = pAll ((ps.drop j).map Pst.pl) y m n) ∧ Ow wr (w.heap.size + 2) 97 3 (.slice B m.length cb) (m.map Line.cells) ∧
    wr.heap[O]? = some (.cells #[.int .i64 y, .slice B m.length cb] 49 (0, 0)) ∧ wr.heap[w.heap.size + 1]? = some (.cells #[.int .i64 0, .slice none 0 0] 49 (0, 0)) ∧ Below w.heap.size w wr) (fun _ i _ => ps.length - (intOf i).toNat)
  case atStart => exact ⟨0, 0, z, l, A2, c2, Nat.zero_le _, rfl, rfl, by omega, ⟨by omega, hcap2⟩, Lib.hid rfl, HO2.out, OH2.out, RH2.out, by (first | ((repeat' first | (with_reducible (first | exact Below.refl _ _ | assumption | refine Below.setCell ?_ ?_ _ | refine Below.alloc ?_ ?_ _ | refine Below.drew ?_ | refine below_drewN ?_ _ | refine Below.trans ?_ (Below.mono (by assumption) ?_))) | omega | (simp; omega) | (simp; done)); done) | (repeat' first | exact Below.refl _ _ | assumption | refine Below.setCell ?_ (by first | omega | (simp; omega) | (simp; done)) _ | refine Below.alloc ?_ (by first | omega | (simp; omega) | (simp; done)) _ | refine Below.drew ?_ | refine below_drewN ?_ _ | refine Below.trans ?_ (Below.mono (by assumption) (by first | omega | (simp; omega) | (simp; done)))))⟩
  case round =>
    clear HO2 OH2 RH2 hB2
    obtain ⟨j, n, y, m, B, cb, hj, rfl, rfl, ⟨n0, n1⟩, ⟨m1, m2⟩, HE, how, hoh, hrh, hbw⟩ := hrel
    have hbz := hbw.size
    obtain ⟨_, o0, o1, of, oz⟩ := own2 (Below.refl wr.heap.size wr) (Array.getElem?_eq_some_iff.1 hoh).1 hoh
    obtain ⟨_, r0, r1, rf, rz3⟩ := own2 (Below.refl wr.heap.size wr) (Array.getElem?_eq_some_iff.1 hrh).1 hrh
    have HW := Lib.hid how
    have OH := Lib.hid hoh
    have RH := Lib.hid hrh
    clear how hoh hrh
    have hRO : w.heap.size + 1 ≠ O := by omega
    by_cases hlt : j < ps.length
    · obtain ⟨b, off, rfl, hbB, c0, c1⟩ := (HRP.out.below hbw).at_ hlt
      have HLN := Lib.hid (((HRP.out.below hbw).lines hlt).more hbw.size)
      obtain ⟨p1, p2⟩ := HPL.out _ (List.getElem_mem hlt)
      have HD := Lib.hid (pl_dropP hlt)
      obtain ⟨PI, PP, PC, PL, e⟩ : ∃ PI PA PC PL, ps[j] = ⟨PI, PA, PC, PL⟩ := ⟨_, _, _, _, rfl⟩
      rw [e] at c0 c1 HLN p1 p2 HD
      simp only at c0 c1 HLN p1 p2 HD
      clear e
      go_wp2_with fail
      refine (i_Post y m B cb PI PL PP PC _ m1 p1 m2 p2 ((HW.out.alloc _).rd) ((HLN.out.below ((Below.refl _ _).alloc (Nat.le_refl _) _)).more (by simp))).mono ?_
      rintro e w3 ⟨B3, cb3, rfl, hc3, how3, hb3⟩
      have z3 := hb3.size
      rw [sizeUpQ] at z3
      have oh3 := heap_below hb3 (by rw [sizeUpQ]; omega) (heap_past oz OH.out)
      have rh3 := heap_below hb3 (by rw [sizeUpQ]; omega) (heap_past rz3 RH.out)
      have hB3 : Below w.heap.size w w3 := by (first | ((repeat' first | (with_reducible (first | exact Below.refl _ _ | assumption | refine Below.setCell ?_ ?_ _ | refine Below.alloc ?_ ?_ _ | refine Below.drew ?_ | refine below_drewN ?_ _ | refine Below.trans ?_ (Below.mono (by assumption) ?_))) | omega | (simp; omega) | (simp; done)); done) | (repeat' first | exact Below.refl _ _ | assumption | refine Below.setCell ?_ (by first | omega | (simp; omega) | (simp; done)) _ | refine Below.alloc ?_ (by first | omega | (simp; omega) | (simp; done)) _ | refine Below.drew ?_ | refine below_drewN ?_ _ | refine Below.trans ?_ (Below.mono (by assumption) (by first | omega | (simp; omega) | (simp; done)))))
      have HW3 := Lib.hid ((HW.out.alloc (.cells #[.int .i64 PI, .slice PP PL.length PC] 69)).below hb3)
      have HN3 := Lib.hid (how3.more (B' := w.heap.size + 2) (by rw [sizeUpQ]; omega))
      have hlen3 : (postL y m PI PL).length ≤ 1048576 ∨ ¬ postCode y m PI PL = 0 := by
        by_cases hc : postCode y m PI PL = 0
        · exact .inl (Nat.le_trans (post_ok hc).2.2.2.2.1 (by decide))
        · exact .inr hc
      have OH3 := Lib.hid oh3
      have RH3 := Lib.hid rh3
      clear hb3 how3 o0 o1 of r0 r1 rf HW OH RH
      obtain ⟨_, o0, o1, of, oz3⟩ := own2 (Below.refl w3.heap.size w3) (Array.getElem?_eq_some_iff.1 oh3).1 oh3
      clear oh3 rh3
      by_cases hc : postCode y m PI PL = 0
      · have tc : (postCode y m PI PL == 0) = true := by simpa using hc
        have HE2 := Lib.hid (show pAll (ps.map Pst.pl) z l 0 = pAll ((ps.drop (j + 1)).map Pst.pl) (postZ y m PI PL) (postL y m PI PL) (n + 1) by rw [HE.out, HD.out, pAll_yes hc])
        have hlen : (postL y m PI PL).length ≤ 1048576 := hlen3.elim id (fun h => absurd hc h)
        obtain ⟨K, hK⟩ : ∃ K, postCode y m PI PL = K := ⟨_, rfl⟩
        obtain ⟨Z, hZ⟩ : ∃ Z, postZ y m PI PL = Z := ⟨_, rfl⟩
        obtain ⟨M, hM⟩ : ∃ M, postL y m PI PL = M := ⟨_, rfl⟩
        rw [hK] at tc
        rw [hZ, hM] at HE2
        rw [hM] at hc3 HN3 hlen
        rw [hK, hZ, hM]
        clear hK hZ hM hc hlen3 HD
        go_wp2_with fail
        go_roundw
        case rel =>
          have h1 : (w3.setCell ⟨O, 0, none⟩ (.int .i64 Z)).heap[O]? = some (.cells #[.int .i64 Z, .slice B m.length cb] 49 (0, 0)) := heap_set OH3.out
          have h2 : ((w3.setCell ⟨O, 0, none⟩ (.int .i64 Z)).setCell ⟨O, 1, none⟩ (.slice B3 M.length cb3)).heap[O]? = some (.cells #[.int .i64 Z, .slice B3 M.length cb3] 49 (0, 0)) := heap_set h1
          have h3 := (HN3.out.asideP (i := 0) (u := .int .i64 Z) OH3.out (by decide)).asideP (i := 1) (u := .slice B3 M.length cb3) h1 (by decide)
          have h4 := heap_far (a := ⟨O, 1, none⟩) (u := .slice B3 M.length cb3) hRO (heap_far (a := ⟨O, 0, none⟩) (u := .int .i64 Z) hRO RH3.out)
          exact ⟨j + 1, n + 1, Z, M, B3, cb3, by omega, by go_num, rfl, by omega, ⟨hlen, hc3⟩, Lib.hid HE2.out, h3.alloc _, heap_past (by simp [World.setCell]; omega) h2, heap_past (by simp [World.setCell]; omega) h4, by (first | ((repeat' first | (with_reducible (first | exact Below.refl _ _ | assumption | refine Below.setCell ?_ ?_ _ | refine Below.alloc ?_ ?_ _ | refine Below.drew ?_ | refine below_drewN ?_ _ | refine Below.trans ?_ (Below.mono (by assumption) ?_))) | omega | (simp; omega) | (simp; done)); done) | (repeat' first | exact Below.refl _ _ | assumption | refine Below.setCell ?_ (by first | omega | (simp; omega) | (simp; done)) _ | refine Below.alloc ?_ (by first | omega | (simp; omega) | (simp; done)) _ | refine Below.drew ?_ | refine below_drewN ?_ _ | refine Below.trans ?_ (Below.mono (by assumption) (by first | omega | (simp; omega) | (simp; done)))))⟩
        case measure => simp [intOf]; omega
      · have tc : (postCode y m PI PL == 0) = false := by simpa using hc
        have HE2 := Lib.hid (show pAll (ps.map Pst.pl) z l 0 = pAll ((ps.drop (j + 1)).map Pst.pl) y m n by rw [HE.out, HD.out, pAll_no hc])
        obtain ⟨K, hK⟩ : ∃ K, postCode y m PI PL = K := ⟨_, rfl⟩
        rw [hK] at tc ⊢
        clear hK hc hlen3 HD
        go_wp2_with fail
        go_roundw
        case rel => exact ⟨j + 1, n, y, m, B, cb, by omega, by go_num, rfl, by omega, ⟨m1, m2⟩, Lib.hid HE2.out, HW3.out.alloc _, heap_past oz3 OH3.out, heap_past (by omega) RH3.out, by (first | ((repeat' first | (with_reducible (first | exact Below.refl _ _ | assumption | refine Below.setCell ?_ ?_ _ | refine Below.alloc ?_ ?_ _ | refine Below.drew ?_ | refine below_drewN ?_ _ | refine Below.trans ?_ (Below.mono (by assumption) ?_))) | omega | (simp; omega) | (simp; done)); done) | (repeat' first | exact Below.refl _ _ | assumption | refine Below.setCell ?_ (by first | omega | (simp; omega) | (simp; done)) _ | refine Below.alloc ?_ (by first | omega | (simp; omega) | (simp; done)) _ | refine Below.drew ?_ | refine below_drewN ?_ _ | refine Below.trans ?_ (Below.mono (by assumption) (by first | omega | (simp; omega) | (simp; done)))))⟩
        case measure => simp [intOf]; omega
    · obtain rfl : j = ps.length := by omega
      have HE2 := Lib.hid (show pAll (ps.map Pst.pl) z l 0 = (y, m, n) by rw [HE.out, List.drop_length]; rfl)
      go_wp2_with fail
      obtain ⟨s0, s1⟩ := two_selfP (a := .int .i64 y) (b := .slice B m.length cb) RH.out
      refine bodyPost_ret (v := .tuple #[.agg #[.int .i64 y, .slice B m.length cb], .int .i64 n]) (by simp [results, Try.results43, go_sem, s0, s1]) rfl ?_
      rw [HE2.out]
      refine ⟨B, cb, rfl, m2, ?_, (hbw.setCell (by simp) _).setCell (by simp) _⟩
      exact ((HW.out.far (a := ⟨w.heap.size + 1, 0, none⟩) (by simp) _).far (a := ⟨w.heap.size + 1, 1, none⟩) (by simp) _).more (by omega)
set_option maxRecDepth 100000 in
set_option maxHeartbeats 1000000 in
theorem i_Balance (z : Int) (l : List Line) (A : Option Addr) (ca : Nat) (k c : Int) (w : World) (hl : l.length ≤ 1048576) (hr : Rd w w.heap.size 3 A (l.map Line.cells)) :
    Calls Try.prog 47 #[.agg #[.int .i64 z, .slice A l.length ca], .agg #[.int .i64 k, .int .i64 c]] w fun e w' => e = .returned (.int .i64 (balB z l k c)) ∧ Below w.heap.size w w' := by
  have HR := Lib.hid hr
  clear hr
  cases h1 : ledgerB z l
  · have HB := Lib.hid (show balB z l k c = 0 by unfold balB; rw [if_neg (by rw [h1]; simp)])
    have H1 := Lib.hid h1
    clear h1
    go_enter Try.func47, Try.ntmps47
    go_wp2_with fail
    refine (i_LedgerOk z l _ _ _ hl ((HR.out.below (by (first | ((repeat' first | (with_reducible (first | exact Below.refl _ _ | assumption | refine Below.setCell ?_ ?_ _ | refine Below.alloc ?_ ?_ _ | refine Below.drew ?_ | refine below_drewN ?_ _ | refine Below.trans ?_ (Below.mono (by assumption) ?_))) | omega | (simp; omega) | (simp; done)); done) | (repeat' first | exact Below.refl _ _ | assumption | refine Below.setCell ?_ (by first | omega | (simp; omega) | (simp; done)) _ | refine Below.alloc ?_ (by first | omega | (simp; omega) | (simp; done)) _ | refine Below.drew ?_ | refine below_drewN ?_ _ | refine Below.trans ?_ (Below.mono (by assumption) (by first | omega | (simp; omega) | (simp; done))))))).more (by first | omega | (simp; omega) | (simp; done)))).mono ?_
    rintro e w1 ⟨rfl, hb1⟩
    have z1 := hb1.size
    try simp at z1
    rw [H1.out]
    go_wp2_with fail
    go_ret
    exact ⟨ret_int HB.out.symm, by (first | ((repeat' first | (with_reducible (first | exact Below.refl _ _ | assumption | refine Below.setCell ?_ ?_ _ | refine Below.alloc ?_ ?_ _ | refine Below.drew ?_ | refine below_drewN ?_ _ | refine Below.trans ?_ (Below.mono (by assumption) ?_))) | omega | (simp; omega) | (simp; done)); done) | (repeat' first | exact Below.refl _ _ | assumption | refine Below.setCell ?_ (by first | omega | (simp; omega) | (simp; done)) _ | refine Below.alloc ?_ (by first | omega | (simp; omega) | (simp; done)) _ | refine Below.drew ?_ | refine below_drewN ?_ _ | refine Below.trans ?_ (Below.mono (by assumption) (by first | omega | (simp; omega) | (simp; done)))))⟩
  · cases h2 : accB k c
    · have HB := Lib.hid (show balB z l k c = 0 by unfold balB; rw [if_neg (by rw [h2]; simp)])
      have H1 := Lib.hid h1
      have H2 := Lib.hid h2
      clear h1 h2
      go_enter Try.func47, Try.ntmps47
      go_wp2_with fail
      refine (i_LedgerOk z l _ _ _ hl ((HR.out.below (by (first | ((repeat' first | (with_reducible (first | exact Below.refl _ _ | assumption | refine Below.setCell ?_ ?_ _ | refine Below.alloc ?_ ?_ _ | refine Below.drew ?_ | refine below_drewN ?_ _ | refine Below.trans ?_ (Below.mono (by assumption) ?_))) | omega | (simp; omega) | (simp; done)); done) | (repeat' first | exact Below.refl _ _ | assumption | refine Below.setCell ?_ (by first | omega | (simp; omega) | (simp; done)) _ | refine Below.alloc ?_ (by first | omega | (simp; omega) | (simp; done)) _ | refine Below.drew ?_ | refine below_drewN ?_ _ | refine Below.trans ?_ (Below.mono (by assumption) (by first | omega | (simp; omega) | (simp; done))))))).more (by first | omega | (simp; omega) | (simp; done)))).mono ?_
      rintro e w1 ⟨rfl, hb1⟩
      have z1 := hb1.size
      try simp at z1
      rw [H1.out]
      obtain ⟨kh, k0, k1, kf, kz⟩ := own2 (g := w.heap.size + 1) hb1 (by first | omega | (simp; omega) | (simp; done)) (by (first | ((repeat' first | (with_reducible (first | assumption | (refine heap_at ?_; (first | rfl | (simp; done))) | refine heap_drew ?_ | refine heap_drewN ?_ | refine heap_past ?_ ?_ | refine heap_far ?_ ?_)) | (simp; done) | (simp; omega)); done) | (repeat' first | assumption | (refine heap_at ?_; (simp; done)) | refine heap_drew ?_ | refine heap_drewN ?_ | (refine heap_past ?_ ?_ <;> try (simp; done)) | (refine heap_far ?_ ?_ <;> try (simp; done)))))
      go_wp2_with fail
      refine (i_AccOk k c _).mono ?_
      rintro e w2 ⟨rfl, hb2⟩
      have z2 := hb2.size
      try simp at z2
      rw [H2.out]
      go_wp2_with fail
      go_ret
      exact ⟨ret_int HB.out.symm, by (first | ((repeat' first | (with_reducible (first | exact Below.refl _ _ | assumption | refine Below.setCell ?_ ?_ _ | refine Below.alloc ?_ ?_ _ | refine Below.drew ?_ | refine below_drewN ?_ _ | refine Below.trans ?_ (Below.mono (by assumption) ?_))) | omega | (simp; omega) | (simp; done)); done) | (repeat' first | exact Below.refl _ _ | assumption | refine Below.setCell ?_ (by first | omega | (simp; omega) | (simp; done)) _ | refine Below.alloc ?_ (by first | omega | (simp; omega) | (simp; done)) _ | refine Below.drew ?_ | refine below_drewN ?_ _ | refine Below.trans ?_ (Below.mono (by assumption) (by first | omega | (simp; omega) | (simp; done)))))⟩
    · have HB := Lib.hid (show balB z l k c = findB k c l by unfold balB; rw [if_pos ⟨h1, h2⟩])
      have H1 := Lib.hid h1
      have H2 := Lib.hid h2
      clear h1 h2
      go_enter Try.func47, Try.ntmps47
      go_wp2_with fail
      refine (i_LedgerOk z l _ _ _ hl ((HR.out.below (by (first | ((repeat' first | (with_reducible (first | exact Below.refl _ _ | assumption | refine Below.setCell ?_ ?_ _ | refine Below.alloc ?_ ?_ _ | refine Below.drew ?_ | refine below_drewN ?_ _ | refine Below.trans ?_ (Below.mono (by assumption) ?_))) | omega | (simp; omega) | (simp; done)); done) | (repeat' first | exact Below.refl _ _ | assumption | refine Below.setCell ?_ (by first | omega | (simp; omega) | (simp; done)) _ | refine Below.alloc ?_ (by first | omega | (simp; omega) | (simp; done)) _ | refine Below.drew ?_ | refine below_drewN ?_ _ | refine Below.trans ?_ (Below.mono (by assumption) (by first | omega | (simp; omega) | (simp; done))))))).more (by first | omega | (simp; omega) | (simp; done)))).mono ?_
      rintro e w1 ⟨rfl, hb1⟩
      have z1 := hb1.size
      try simp at z1
      rw [H1.out]
      obtain ⟨lh, l0, l1, lf, lz⟩ := own2 (g := w.heap.size) hb1 (by first | omega | (simp; omega) | (simp; done)) (by (first | ((repeat' first | (with_reducible (first | assumption | (refine heap_at ?_; (first | rfl | (simp; done))) | refine heap_drew ?_ | refine heap_drewN ?_ | refine heap_past ?_ ?_ | refine heap_far ?_ ?_)) | (simp; done) | (simp; omega)); done) | (repeat' first | assumption | (refine heap_at ?_; (simp; done)) | refine heap_drew ?_ | refine heap_drewN ?_ | (refine heap_past ?_ ?_ <;> try (simp; done)) | (refine heap_far ?_ ?_ <;> try (simp; done)))))
      obtain ⟨kh, k0, k1, kf, kz⟩ := own2 (g := w.heap.size + 1) hb1 (by first | omega | (simp; omega) | (simp; done)) (by (first | ((repeat' first | (with_reducible (first | assumption | (refine heap_at ?_; (first | rfl | (simp; done))) | refine heap_drew ?_ | refine heap_drewN ?_ | refine heap_past ?_ ?_ | refine heap_far ?_ ?_)) | (simp; done) | (simp; omega)); done) | (repeat' first | assumption | (refine heap_at ?_; (simp; done)) | refine heap_drew ?_ | refine heap_drewN ?_ | (refine heap_past ?_ ?_ <;> try (simp; done)) | (refine heap_far ?_ ?_ <;> try (simp; done)))))
      go_wp2_with fail
      refine (i_AccOk k c _).mono ?_
      rintro e w2 ⟨rfl, hb2⟩
      have z2 := hb2.size
      try simp at z2
      rw [H2.out]
      obtain ⟨lh2, m0, m1, mf, mz⟩ := own2 hb2 lz lh
      obtain ⟨kh2, q0, q1, qf, qz⟩ := own2 hb2 kz kh
      have hB2 : Below w.heap.size w w2 := by (first | ((repeat' first | (with_reducible (first | exact Below.refl _ _ | assumption | refine Below.setCell ?_ ?_ _ | refine Below.alloc ?_ ?_ _ | refine Below.drew ?_ | refine below_drewN ?_ _ | refine Below.trans ?_ (Below.mono (by assumption) ?_))) | omega | (simp; omega) | (simp; done)); done) | (repeat' first | exact Below.refl _ _ | assumption | refine Below.setCell ?_ (by first | omega | (simp; omega) | (simp; done)) _ | refine Below.alloc ?_ (by first | omega | (simp; omega) | (simp; done)) _ | refine Below.drew ?_ | refine below_drewN ?_ _ | refine Below.trans ?_ (Below.mono (by assumption) (by first | omega | (simp; omega) | (simp; done)))))
      have KH := Lib.hid kh2
      clear hb1 hb2 l0 l1 lf k0 k1 kf lh kh
      go_wp2_with fail
      clear m0 m1 mf q0 q1 qf lh2 kh2
      go_loopw [18] (fun i wr => ∃ j : Nat, j ≤ l.length ∧ i = .int .i64 j ∧ Hid (findB k c l = findB k c (l.drop j)) ∧ wr.heap[w.heap.size + 1]? = some (.cells #[.int .i64 k, .int .i64 c] 40 (0, 0)) ∧ Below w.heap.size w wr) (fun i _ => l.length - (intOf i).toNat)
      case atStart => exact ⟨0, Nat.zero_le _, rfl, Lib.hid rfl, KH.out, hB2⟩
      case round =>
        clear hB2 KH
        obtain ⟨j, hj, rfl, HF, hkh, hbw⟩ := hrel
        have hbz := hbw.size
        obtain ⟨_, q0, q1, qf, qz⟩ := own2 (Below.refl wr.heap.size wr) (Array.getElem?_eq_some_iff.1 hkh).1 hkh
        have KH := Lib.hid hkh
        clear hkh
        by_cases hlt : j < l.length
        · obtain ⟨b, off, rfl, hbB, c0, c1, c2⟩ := Line.rd (HR.out.below hbw) hlt
          have hdr := List.drop_eq_getElem_cons hlt
          have HQ := Lib.hid (fun W => eq_acc W l[j].Kind l[j].Ch k c)
          by_cases he : l[j].Kind = k ∧ l[j].Ch = c
          · have hq : ∀ W, (binOp .eql 40 (.agg #[.int .i64 l[j].Kind, .int .i64 l[j].Ch]) (.agg #[.int .i64 k, .int .i64 c])).run Try.prog W = .ok (.bool true) W := fun W => by rw [HQ.out W, acc_same he]
            have HF2 := Lib.hid (show balB z l k c = l[j].Amt by rw [HB.out, HF.out, hdr, findB, if_pos he])
            clear he hdr
            go_wp2_with fail
            go_ret
            exact ⟨ret_int HF2.out.symm, by (first | ((repeat' first | (with_reducible (first | exact Below.refl _ _ | assumption | refine Below.setCell ?_ ?_ _ | refine Below.alloc ?_ ?_ _ | refine Below.drew ?_ | refine below_drewN ?_ _ | refine Below.trans ?_ (Below.mono (by assumption) ?_))) | omega | (simp; omega) | (simp; done)); done) | (repeat' first | exact Below.refl _ _ | assumption | refine Below.setCell ?_ (by first | omega | (simp; omega) | (simp; done)) _ | refine Below.alloc ?_ (by first | omega | (simp; omega) | (simp; done)) _ | refine Below.drew ?_ | refine below_drewN ?_ _ | refine Below.trans ?_ (Below.mono (by assumption) (by first | omega | (simp; omega) | (simp; done)))))⟩
          · have hq : ∀ W, (binOp .eql 40 (.agg #[.int .i64 l[j].Kind, .int .i64 l[j].Ch]) (.agg #[.int .i64 k, .int .i64 c])).run Try.prog W = .ok (.bool false) W := fun W => by rw [HQ.out W, acc_other he]
            have HF2 := Lib.hid (show findB k c l = findB k c (l.drop (j + 1)) by rw [HF.out, hdr, findB, if_neg he])
            clear he hdr
            go_wp2_with fail
            go_roundw
            case rel => exact ⟨j + 1, by omega, by go_num, Lib.hid HF2.out, heap_past qz KH.out, by (first | ((repeat' first | (with_reducible (first | exact Below.refl _ _ | assumption | refine Below.setCell ?_ ?_ _ | refine Below.alloc ?_ ?_ _ | refine Below.drew ?_ | refine below_drewN ?_ _ | refine Below.trans ?_ (Below.mono (by assumption) ?_))) | omega | (simp; omega) | (simp; done)); done) | (repeat' first | exact Below.refl _ _ | assumption | refine Below.setCell ?_ (by first | omega | (simp; omega) | (simp; done)) _ | refine Below.alloc ?_ (by first | omega | (simp; omega) | (simp; done)) _ | refine Below.drew ?_ | refine below_drewN ?_ _ | refine Below.trans ?_ (Below.mono (by assumption) (by first | omega | (simp; omega) | (simp; done)))))⟩
            case measure => simp [intOf]; omega
        · obtain rfl : j = l.length := by omega
          have HF2 := Lib.hid (show balB z l k c = 0 by rw [HB.out, HF.out, List.drop_length]; rfl)
          go_wp2_with fail
          go_ret
          exact ⟨ret_int HF2.out.symm, hbw⟩
end Go.Proofs.Ytplchgkppkibnaa
