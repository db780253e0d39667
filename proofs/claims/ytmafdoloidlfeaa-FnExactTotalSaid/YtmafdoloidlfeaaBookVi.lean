/- Books: Total: the walk of the program. -/
import Derived.Test.YtmafdoloidlfeaaRows
import Derived.Test.YtmafdoloidlfeaaBookU0
import Derived.Test.YtmafdoloidlfeaaBookOi
import Derived.IntWalk
namespace Go.Proofs.Ytmafdoloidlfeaa
open Go.RowKit

set_option maxRecDepth 100000 in
set_option maxHeartbeats 4000000 in
theorem i_Total (bt bn bw : Int) (cs : List Chan) (hs : List Htlc) (os : List Circle) (A1 A2 A3 : Option Addr) (p1 p2 p3 : Nat) (w : World) (hlc : cs.length ≤ 1048576) (hlh : hs.length ≤ 1048576) (hlo : os.length ≤ 1048576) (hr : RdBook w w.heap.size A1 cs A2 hs A3 os) :
    Calls Try.prog 17 #[.agg #[.int .i64 bt, .int .i64 bn, .int .i64 bw, .slice A1 cs.length p1, .slice A2 hs.length p2, .slice A3 os.length p3]] w fun e w' => e = .returned (.int .i64 (totalOf bt bn bw cs hs os)) ∧ Below w.heap.size w w' := by
  have HR := Lib.hid hr
  have HCH := Lib.hid hr.c
  clear hr
  cases hb : bookB bt bn bw cs hs os
  · have HB := Lib.hid hb
    have H1 := Lib.hid (show totalOf bt bn bw cs hs os = 0 by simp [totalOf, hb])
    clear hb
    go_enter Try.func17, Try.ntmps17
    go_wp2_with fail
    refine (i_BookOk bt bn bw cs hs os _ _ _ _ _ _ _ hlc hlh hlo ((HR.out.below (by (first | ((repeat' first | (with_reducible (first | exact Below.refl _ _ | assumption | refine Below.setCell ?_ ?_ _ | refine Below.alloc ?_ ?_ _ | refine Below.drew ?_ | refine below_drewN ?_ _ | refine Below.trans ?_ (Below.mono (by assumption) ?_))) | omega | (simp; omega) | (simp; done)); done) | (repeat' first | exact Below.refl _ _ | assumption | refine Below.setCell ?_ (by first | omega | (simp; omega) | (simp; done)) _ | refine Below.alloc ?_ (by first | omega | (simp; omega) | (simp; done)) _ | refine Below.drew ?_ | refine below_drewN ?_ _ | refine Below.trans ?_ (Below.mono (by assumption) (by first | omega | (simp; omega) | (simp; done))))))).more (by first | omega | (simp; omega) | (simp; done)))).mono ?_
    rintro e w1 ⟨rfl, hb1⟩
    have z1 := hb1.size
    try simp at z1
    rw [HB.out]
    go_wp2_with fail
    go_ret
    exact ⟨by first | (rw [H1.out]; done) | (rw [H1.out]; rfl), by (first | ((repeat' first | (with_reducible (first | exact Below.refl _ _ | assumption | refine Below.setCell ?_ ?_ _ | refine Below.alloc ?_ ?_ _ | refine Below.drew ?_ | refine below_drewN ?_ _ | refine Below.trans ?_ (Below.mono (by assumption) ?_))) | omega | (simp; omega) | (simp; done)); done) | (repeat' first | exact Below.refl _ _ | assumption | refine Below.setCell ?_ (by first | omega | (simp; omega) | (simp; done)) _ | refine Below.alloc ?_ (by first | omega | (simp; omega) | (simp; done)) _ | refine Below.drew ?_ | refine below_drewN ?_ _ | refine Below.trans ?_ (Below.mono (by assumption) (by first | omega | (simp; omega) | (simp; done)))))⟩
  · have HB := Lib.hid hb
    have HF := Lib.hid (bookB_facts hb)
    have H1 := Lib.hid (show totalOf bt bn bw cs hs os = cs.foldl (totF hs os) bw by simp [totalOf, hb])
    clear hb
    go_enter Try.func17, Try.ntmps17
    go_wp2_with fail
    refine (i_BookOk bt bn bw cs hs os _ _ _ _ _ _ _ hlc hlh hlo ((HR.out.below (by (first | ((repeat' first | (with_reducible (first | exact Below.refl _ _ | assumption | refine Below.setCell ?_ ?_ _ | refine Below.alloc ?_ ?_ _ | refine Below.drew ?_ | refine below_drewN ?_ _ | refine Below.trans ?_ (Below.mono (by assumption) ?_))) | omega | (simp; omega) | (simp; done)); done) | (repeat' first | exact Below.refl _ _ | assumption | refine Below.setCell ?_ (by first | omega | (simp; omega) | (simp; done)) _ | refine Below.alloc ?_ (by first | omega | (simp; omega) | (simp; done)) _ | refine Below.drew ?_ | refine below_drewN ?_ _ | refine Below.trans ?_ (Below.mono (by assumption) (by first | omega | (simp; omega) | (simp; done))))))).more (by first | omega | (simp; omega) | (simp; done)))).mono ?_
    rintro e w1 ⟨rfl, hb1⟩
    have z1 := hb1.size
    try simp at z1
    rw [HB.out]
    obtain ⟨eh, e0, e1, e2, e3, e4, e5, ef, ezz⟩ := own6 (g := w.heap.size) hb1 (by first | omega | (simp; omega) | (simp; done)) (by (first | ((repeat' first | (with_reducible (first | assumption | (refine heap_at ?_; (first | rfl | (simp; done))) | refine heap_drew ?_ | refine heap_drewN ?_ | refine heap_past ?_ ?_ | refine heap_far ?_ ?_)) | (simp; done) | (simp; omega)); done) | (repeat' first | assumption | (refine heap_at ?_; (simp; done)) | refine heap_drew ?_ | refine heap_drewN ?_ | (refine heap_past ?_ ?_ <;> try (simp; done)) | (refine heap_far ?_ ?_ <;> try (simp; done)))))
    have EH := Lib.hid eh
    have hA1 : Below w.heap.size w w1 := by (first | ((repeat' first | (with_reducible (first | exact Below.refl _ _ | assumption | refine Below.setCell ?_ ?_ _ | refine Below.alloc ?_ ?_ _ | refine Below.drew ?_ | refine below_drewN ?_ _ | refine Below.trans ?_ (Below.mono (by assumption) ?_))) | omega | (simp; omega) | (simp; done)); done) | (repeat' first | exact Below.refl _ _ | assumption | refine Below.setCell ?_ (by first | omega | (simp; omega) | (simp; done)) _ | refine Below.alloc ?_ (by first | omega | (simp; omega) | (simp; done)) _ | refine Below.drew ?_ | refine below_drewN ?_ _ | refine Below.trans ?_ (Below.mono (by assumption) (by first | omega | (simp; omega) | (simp; done)))))
    clear eh hb1
    go_wp2_with fail
    clear e0 e1 e2 e3 e4 e5 ef
    go_loopw [3, 16] (fun n i wr => ∃ k : Nat, k ≤ cs.length ∧ i = .int .i64 k ∧ n = .int .i64 ((cs.take k).foldl (totF hs os) bw) ∧ wr.heap[w.heap.size]? = some (.cells #[.int .i64 bt, .int .i64 bn, .int .i64 bw, .slice A1 cs.length p1, .slice A2 hs.length p2, .slice A3 os.length p3] 34) ∧ Below w.heap.size w wr) (fun _ i _ => cs.length - (intOf i).toNat)
    case atStart => exact ⟨0, Nat.zero_le _, rfl, rfl, EH.out, hA1⟩
    case round =>
      clear hA1
      obtain ⟨k, hk, rfl, rfl, hbox, hbw⟩ := hrel
      have hbz := hbw.size
      obtain ⟨eh, e0, e1, e2, e3, e4, e5, ef, ezz2⟩ := own6 (Below.refl wr.heap.size wr) (Array.getElem?_eq_some_iff.1 hbox).1 hbox
      have EB := Lib.hid eh
      clear eh hbox
      by_cases hlt : k < cs.length
      · obtain ⟨b, off, rfl, hbB, c0, c1, c2, c3, c4, c5, c6⟩ := Chan.rd (HCH.out.below hbw) hlt
        have hbr : b < wr.heap.size := by omega
        have hcl := HF.out.cl
        obtain ⟨n1, n2⟩ := HF.out.tot k hk
        obtain ⟨l1, l2⟩ := HF.out.local_ hlt
        obtain ⟨o1, o2⟩ := HF.out.small.out_bd cs[k].Id
        have TR := fun W q => i_transit bt bn bw cs hs os (some ⟨b, off, none⟩) A2 A3 p1 p2 p3 cs[k].Id W HF.out.small q
        have hst : (cs.take (k + 1)).foldl (totF hs os) bw = (cs.take k).foldl (totF hs os) bw + (cs[k].Local + outOf hs os cs[k].Id) := foldl_take_succ cs (totF hs os) bw hlt
        obtain ⟨OUT, hOUT⟩ : ∃ x, outOf hs os cs[k].Id = x := ⟨_, rfl⟩
        obtain ⟨N, hN⟩ : ∃ x, (cs.take k).foldl (totF hs os) bw = x := ⟨_, rfl⟩
        rw [hN] at hst n1 n2 ⊢
        rw [hOUT] at hst o1 o2 TR
        have HST := Lib.hid hst
        have HTR := Lib.hid TR
        have s1 : IntKind.i64.wrap (cs[k].Local + OUT) = cs[k].Local + OUT := IntWalk.i64_in _ ⟨by omega, by omega⟩
        have s2 : IntKind.i64.wrap (N + (cs[k].Local + OUT)) = N + (cs[k].Local + OUT) := IntWalk.i64_in _ ⟨by omega, by omega⟩
        clear hst TR hOUT hN n1 n2 l1 l2 o1 o2 hcl
        go_wp2_with fail
        refine (HTR.out _ ((HR.out.below (by (first | ((repeat' first | (with_reducible (first | exact Below.refl _ _ | assumption | refine Below.setCell ?_ ?_ _ | refine Below.alloc ?_ ?_ _ | refine Below.drew ?_ | refine below_drewN ?_ _ | refine Below.trans ?_ (Below.mono (by assumption) ?_))) | omega | (simp; omega) | (simp; done)); done) | (repeat' first | exact Below.refl _ _ | assumption | refine Below.setCell ?_ (by first | omega | (simp; omega) | (simp; done)) _ | refine Below.alloc ?_ (by first | omega | (simp; omega) | (simp; done)) _ | refine Below.drew ?_ | refine below_drewN ?_ _ | refine Below.trans ?_ (Below.mono (by assumption) (by first | omega | (simp; omega) | (simp; done))))))).more (by first | omega | (simp; omega) | (simp; done)))).mono ?_
        rintro e w10 ⟨rfl, hb10⟩
        have z10 := hb10.size
        obtain ⟨lh, l0, l1, l2, l3, l4, l5, l6, lf, lz⟩ := own7 (g := wr.heap.size) hb10 (by first | omega | (simp; omega) | (simp; done)) (by (first | ((repeat' first | (with_reducible (first | assumption | (refine heap_at ?_; (first | rfl | (simp; done))) | refine heap_drew ?_ | refine heap_drewN ?_ | refine heap_past ?_ ?_ | refine heap_far ?_ ?_)) | (simp; done) | (simp; omega)); done) | (repeat' first | assumption | (refine heap_at ?_; (simp; done)) | refine heap_drew ?_ | refine heap_drewN ?_ | (refine heap_past ?_ ?_ <;> try (simp; done)) | (refine heap_far ?_ ?_ <;> try (simp; done)))))
        obtain ⟨mh, m0, m1, m2, m3, m4, m5, mf, mz⟩ := own6 (g := w.heap.size) hb10 (by first | omega | (simp; omega) | (simp; done)) (by have hq := heap_past (o := .cells #[.int .i64 cs[k].Id, .int .i64 cs[k].Size, .int .i64 cs[k].Local, .int .i64 cs[k].Remote, .int .i64 cs[k].Base, .int .i64 cs[k].Ppm, .int .i64 cs[k].Score] 88) ezz2 EB.out; (first | ((repeat' first | (with_reducible (first | assumption | (refine heap_at ?_; (first | rfl | (simp; done))) | refine heap_drew ?_ | refine heap_drewN ?_ | refine heap_past ?_ ?_ | refine heap_far ?_ ?_)) | (simp; done) | (simp; omega)); done) | (repeat' first | assumption | (refine heap_at ?_; (simp; done)) | refine heap_drew ?_ | refine heap_drewN ?_ | (refine heap_past ?_ ?_ <;> try (simp; done)) | (refine heap_far ?_ ?_ <;> try (simp; done)))))
        have MH := Lib.hid mh
        have hbw10 : Below w.heap.size w w10 := by (first | ((repeat' first | (with_reducible (first | exact Below.refl _ _ | assumption | refine Below.setCell ?_ ?_ _ | refine Below.alloc ?_ ?_ _ | refine Below.drew ?_ | refine below_drewN ?_ _ | refine Below.trans ?_ (Below.mono (by assumption) ?_))) | omega | (simp; omega) | (simp; done)); done) | (repeat' first | exact Below.refl _ _ | assumption | refine Below.setCell ?_ (by first | omega | (simp; omega) | (simp; done)) _ | refine Below.alloc ?_ (by first | omega | (simp; omega) | (simp; done)) _ | refine Below.drew ?_ | refine below_drewN ?_ _ | refine Below.trans ?_ (Below.mono (by assumption) (by first | omega | (simp; omega) | (simp; done)))))
        clear lh mh hb10
        go_wp2_with fail
        go_roundw
        case rel => exact ⟨k + 1, by omega, by go_num, by rw [HST.out], MH.out, by (first | ((repeat' first | (with_reducible (first | exact Below.refl _ _ | assumption | refine Below.setCell ?_ ?_ _ | refine Below.alloc ?_ ?_ _ | refine Below.drew ?_ | refine below_drewN ?_ _ | refine Below.trans ?_ (Below.mono (by assumption) ?_))) | omega | (simp; omega) | (simp; done)); done) | (repeat' first | exact Below.refl _ _ | assumption | refine Below.setCell ?_ (by first | omega | (simp; omega) | (simp; done)) _ | refine Below.alloc ?_ (by first | omega | (simp; omega) | (simp; done)) _ | refine Below.drew ?_ | refine below_drewN ?_ _ | refine Below.trans ?_ (Below.mono (by assumption) (by first | omega | (simp; omega) | (simp; done)))))⟩
        case measure => simp [intOf]; omega
      · obtain rfl : k = cs.length := by omega
        rw [List.take_length] at *
        go_wp2_with fail
        go_ret
        exact ⟨by first | (rw [H1.out]; done) | (rw [H1.out]; rfl), by (first | ((repeat' first | (with_reducible (first | exact Below.refl _ _ | assumption | refine Below.setCell ?_ ?_ _ | refine Below.alloc ?_ ?_ _ | refine Below.drew ?_ | refine below_drewN ?_ _ | refine Below.trans ?_ (Below.mono (by assumption) ?_))) | omega | (simp; omega) | (simp; done)); done) | (repeat' first | exact Below.refl _ _ | assumption | refine Below.setCell ?_ (by first | omega | (simp; omega) | (simp; done)) _ | refine Below.alloc ?_ (by first | omega | (simp; omega) | (simp; done)) _ | refine Below.drew ?_ | refine below_drewN ?_ _ | refine Below.trans ?_ (Below.mono (by assumption) (by first | omega | (simp; omega) | (simp; done)))))⟩
end Go.Proofs.Ytmafdoloidlfeaa
