/- Books: Aged: the walk of the program. -/
import Derived.Test.YtmafdoloidlfeaaRows
import Derived.Test.YtmafdoloidlfeaaBookG0
import Derived.Test.YtmafdoloidlfeaaBookOi
namespace Go.Proofs.Ytmafdoloidlfeaa
open Go.RowKit

set_option maxRecDepth 100000 in
set_option maxHeartbeats 4000000 in
theorem i_Aged (bt bn bw : Int) (cs : List Chan) (hs : List Htlc) (os : List Circle) (A1 A2 A3 : Option Addr) (p1 p2 p3 : Nat) (age : Int) (w : World) (hlc : cs.length ≤ 1048576) (hlh : hs.length ≤ 1048576) (hlo : os.length ≤ 1048576) (hr : RdBook w w.heap.size A1 cs A2 hs A3 os) :
    Calls Try.prog 39 #[.agg #[.int .i64 bt, .int .i64 bn, .int .i64 bw, .slice A1 cs.length p1, .slice A2 hs.length p2, .slice A3 os.length p3], .int .i64 age] w fun e w' => ∃ A cap, e = .returned (.slice A (agedOf bt bn bw cs hs os age).length cap) ∧ Ow w' w.heap.size 3 1 (.slice A (agedOf bt bn bw cs hs os age).length cap) ((agedOf bt bn bw cs hs os age).map intCells) ∧ Below w.heap.size w w' := by
  have HR := Lib.hid hr
  have HH := Lib.hid hr.h
  clear hr
  obtain ⟨i0, hi, hz0, hz1, hz2⟩ := info_parts info_int
  have HI := Lib.hid hi
  have HZ0 := Lib.hid hz0
  have HZ1 := Lib.hid hz1
  have HZ2 := Lib.hid hz2
  clear hi hz0 hz1 hz2
  cases hb : bookB bt bn bw cs hs os
  · have HB := Lib.hid hb
    have H1 := Lib.hid (show agedOf bt bn bw cs hs os age = [] by simp [agedOf, hb])
    clear hb
    go_enter Try.func39, Try.ntmps39
    go_wp2_with fail
    refine (i_BookOk bt bn bw cs hs os _ _ _ _ _ _ _ hlc hlh hlo ((HR.out.below (by (first | ((repeat' first | (with_reducible (first | exact Below.refl _ _ | assumption | refine Below.setCell ?_ ?_ _ | refine Below.alloc ?_ ?_ _ | refine Below.drew ?_ | refine below_drewN ?_ _ | refine Below.trans ?_ (Below.mono (by assumption) ?_))) | omega | (simp; omega) | (simp; done)); done) | (repeat' first | exact Below.refl _ _ | assumption | refine Below.setCell ?_ (by first | omega | (simp; omega) | (simp; done)) _ | refine Below.alloc ?_ (by first | omega | (simp; omega) | (simp; done)) _ | refine Below.drew ?_ | refine below_drewN ?_ _ | refine Below.trans ?_ (Below.mono (by assumption) (by first | omega | (simp; omega) | (simp; done))))))).more (by first | omega | (simp; omega) | (simp; done)))).mono ?_
    rintro e w1 ⟨rfl, hb1⟩
    have z1 := hb1.size
    try simp at z1
    rw [HB.out]
    go_wp2_with fail
    go_ret
    rw [H1.out]
    exact ⟨none, 0, rfl, Ow.nil_, by (first | ((repeat' first | (with_reducible (first | exact Below.refl _ _ | assumption | refine Below.setCell ?_ ?_ _ | refine Below.alloc ?_ ?_ _ | refine Below.drew ?_ | refine below_drewN ?_ _ | refine Below.trans ?_ (Below.mono (by assumption) ?_))) | omega | (simp; omega) | (simp; done)); done) | (repeat' first | exact Below.refl _ _ | assumption | refine Below.setCell ?_ (by first | omega | (simp; omega) | (simp; done)) _ | refine Below.alloc ?_ (by first | omega | (simp; omega) | (simp; done)) _ | refine Below.drew ?_ | refine below_drewN ?_ _ | refine Below.trans ?_ (Below.mono (by assumption) (by first | omega | (simp; omega) | (simp; done)))))⟩
  · have HB := Lib.hid hb
    have h60 := (bookB_facts hb).small.hl
    have H1 := Lib.hid (show agedOf bt bn bw cs hs os age = agedF age hs by simp [agedOf, hb])
    clear hb
    go_enter Try.func39, Try.ntmps39
    go_wp2_with fail
    refine (i_BookOk bt bn bw cs hs os _ _ _ _ _ _ _ hlc hlh hlo ((HR.out.below (by (first | ((repeat' first | (with_reducible (first | exact Below.refl _ _ | assumption | refine Below.setCell ?_ ?_ _ | refine Below.alloc ?_ ?_ _ | refine Below.drew ?_ | refine below_drewN ?_ _ | refine Below.trans ?_ (Below.mono (by assumption) ?_))) | omega | (simp; omega) | (simp; done)); done) | (repeat' first | exact Below.refl _ _ | assumption | refine Below.setCell ?_ (by first | omega | (simp; omega) | (simp; done)) _ | refine Below.alloc ?_ (by first | omega | (simp; omega) | (simp; done)) _ | refine Below.drew ?_ | refine below_drewN ?_ _ | refine Below.trans ?_ (Below.mono (by assumption) (by first | omega | (simp; omega) | (simp; done))))))).more (by first | omega | (simp; omega) | (simp; done)))).mono ?_
    rintro e w1 ⟨rfl, hb1⟩
    have z1 := hb1.size
    try simp at z1
    rw [HB.out]
    obtain ⟨eh, e0, e1, e2, e3, e4, e5, ef, ezz⟩ := own6 (g := w.heap.size) hb1 (by first | omega | (simp; omega) | (simp; done)) (by (first | ((repeat' first | (with_reducible (first | assumption | (refine heap_at ?_; (first | rfl | (simp; done))) | refine heap_drew ?_ | refine heap_drewN ?_ | refine heap_past ?_ ?_ | refine heap_far ?_ ?_)) | (simp; done) | (simp; omega)); done) | (repeat' first | assumption | (refine heap_at ?_; (simp; done)) | refine heap_drew ?_ | refine heap_drewN ?_ | (refine heap_past ?_ ?_ <;> try (simp; done)) | (refine heap_far ?_ ?_ <;> try (simp; done)))))
    have EH := Lib.hid eh
    have hA1 : Below w.heap.size w w1 := by (first | ((repeat' first | (with_reducible (first | exact Below.refl _ _ | assumption | refine Below.setCell ?_ ?_ _ | refine Below.alloc ?_ ?_ _ | refine Below.drew ?_ | refine below_drewN ?_ _ | refine Below.trans ?_ (Below.mono (by assumption) ?_))) | omega | (simp; omega) | (simp; done)); done) | (repeat' first | exact Below.refl _ _ | assumption | refine Below.setCell ?_ (by first | omega | (simp; omega) | (simp; done)) _ | refine Below.alloc ?_ (by first | omega | (simp; omega) | (simp; done)) _ | refine Below.drew ?_ | refine below_drewN ?_ _ | refine Below.trans ?_ (Below.mono (by assumption) (by first | omega | (simp; omega) | (simp; done)))))
    clear eh hb1
    go_wp2_with fail
    clear e0 e1 e2 e3 e4 e5 ef
    go_loopw [5, 14] (fun vk i wr => ∃ (k : Nat) (B : Option Addr) (cp : Nat), k ≤ hs.length ∧ i = .int .i64 k ∧ vk = .slice B (agedF age (hs.take k)).length cp ∧ Ow wr (w.heap.size + 1) 3 1 (.slice B (agedF age (hs.take k)).length cp) ((agedF age (hs.take k)).map intCells) ∧ wr.heap[w.heap.size]? = some (.cells #[.int .i64 bt, .int .i64 bn, .int .i64 bw, .slice A1 cs.length p1, .slice A2 hs.length p2, .slice A3 os.length p3] 34) ∧ Below w.heap.size w wr) (fun _ i _ => hs.length - (intOf i).toNat)
    case atStart => exact ⟨0, none, 0, Nat.zero_le _, rfl, rfl, Ow.nil_, EH.out, hA1⟩
    case round =>
      clear hA1
      obtain ⟨k, B, cp, hk, rfl, rfl, how, hbox, hbw⟩ := hrel
      have hbz := hbw.size
      obtain ⟨eh, e0, e1, e2, e3, e4, e5, ef, ezz⟩ := own6 (Below.refl wr.heap.size wr) (Array.getElem?_eq_some_iff.1 hbox).1 hbox
      have EH := Lib.hid eh
      clear eh hbox
      have hrl : (agedF age (hs.take k)).length ≤ 80 := by have := agedF_len age hs k; omega
      have NE := Lib.hid (how.ne_ EH.out (by decide))
      have OB := Lib.hid how.block
      have HW := Lib.hid how
      clear how
      by_cases hlt : k < hs.length
      · obtain ⟨b, off, rfl, hbB, c0, c1, c2, c3, c4, c5, c6⟩ := Htlc.rd (HH.out.below hbw) hlt
        cases ha : decide (age ≤ hs[k].Age)
        · have HK := Lib.hid (agedF_out hlt ha)
          obtain ⟨RS, hRS⟩ : ∃ R, (agedF age (hs.take k)) = R := ⟨_, rfl⟩
          rw [hRS] at hrl NE OB HW HK ⊢
          clear hRS
          go_wp2_with fail
          go_roundw
          case rel => exact ⟨k + 1, B, cp, by omega, by go_num, by rw [HK.out], by rw [HK.out]; exact HW.out.alloc _, heap_past ezz EH.out, by (first | ((repeat' first | (with_reducible (first | exact Below.refl _ _ | assumption | refine Below.setCell ?_ ?_ _ | refine Below.alloc ?_ ?_ _ | refine Below.drew ?_ | refine below_drewN ?_ _ | refine Below.trans ?_ (Below.mono (by assumption) ?_))) | omega | (simp; omega) | (simp; done)); done) | (repeat' first | exact Below.refl _ _ | assumption | refine Below.setCell ?_ (by first | omega | (simp; omega) | (simp; done)) _ | refine Below.alloc ?_ (by first | omega | (simp; omega) | (simp; done)) _ | refine Below.drew ?_ | refine below_drewN ?_ _ | refine Below.trans ?_ (Below.mono (by assumption) (by first | omega | (simp; omega) | (simp; done)))))⟩
          case measure => simp [intOf]; omega
        · have HK := Lib.hid (agedF_in hlt ha)
          obtain ⟨RS, hRS⟩ : ∃ R, (agedF age (hs.take k)) = R := ⟨_, rfl⟩
          rw [hRS] at hrl NE OB HW HK ⊢
          clear hRS
          have KE := Lib.hid (fun o1 o2 (w6 : World) (hgr : ((wr.alloc o1).alloc o2).grownBy w6 (Value.slice B RS.length cp).ownBlock) => ownG6 hgr NE.out (heap_past (by simp; omega) (heap_past ezz EH.out)))
          have KB := Lib.hid (fun o1 o2 (w6 : World) (hgr : ((wr.alloc o1).alloc o2).grownBy w6 (Value.slice B RS.length cp).ownBlock) => ((hbw.alloc (Nat.le_trans (Nat.le_refl _) hbz) o1).alloc (by simp; omega) o2).grown hgr (by simp; omega) (fun k e => by have := (OB.out k e).1; omega))
          go_wp2_with (at_builtin; refine wpList_app1 rfl _ _ _ rfl (w.heap.size + 1) 3 i0 _ 1 8 Try.underlying60 HI.out HZ0.out HZ1.out HZ2.out rfl (by decide) (.slice B RS.length cp) (RS.map intCells) rfl ((HW.out.alloc _).alloc _) (wr.heap.size + 1) 1 [.int .i64 hs[k].Key] 3 rfl (heap_at (by first | rfl | (simp; done))) rfl (by simp [Value.oneCell']) (by rw [List.length_map]; omega) (by decide) (by first | omega | (simp; omega) | (simp; done)) ?_; intro g cap' w6 how6 hgr6 hat6 hlt6; rw [List.length_map] at how6; rw [List.length_map]; obtain ⟨xh, x0, x1, x2, x3, x4, x5, xf, xz⟩ := KE.out _ _ _ hgr6; have hb6 := KB.out _ _ _ hgr6; have XH := Lib.hid xh; have O6 := Lib.hid how6; clear xh how6 hgr6 hat6)
          go_roundw
          case rel =>
            refine ⟨k + 1, some ⟨g, 0, none⟩, cap', by omega, by go_num, by rw [HK.out, List.length_append]; rfl, ?_, XH.out, hb6⟩
            rw [HK.out, List.map_append, List.length_append]
            exact O6.out
          case measure => simp [intOf]; omega
      · obtain rfl : k = hs.length := by omega
        rw [List.take_length] at HW ⊢
        go_wp2_with fail
        go_ret
        rw [H1.out]
        exact ⟨_, _, rfl, HW.out.more (by omega), by (first | ((repeat' first | (with_reducible (first | exact Below.refl _ _ | assumption | refine Below.setCell ?_ ?_ _ | refine Below.alloc ?_ ?_ _ | refine Below.drew ?_ | refine below_drewN ?_ _ | refine Below.trans ?_ (Below.mono (by assumption) ?_))) | omega | (simp; omega) | (simp; done)); done) | (repeat' first | exact Below.refl _ _ | assumption | refine Below.setCell ?_ (by first | omega | (simp; omega) | (simp; done)) _ | refine Below.alloc ?_ (by first | omega | (simp; omega) | (simp; done)) _ | refine Below.drew ?_ | refine below_drewN ?_ _ | refine Below.trans ?_ (Below.mono (by assumption) (by first | omega | (simp; omega) | (simp; done)))))⟩
end Go.Proofs.Ytmafdoloidlfeaa
