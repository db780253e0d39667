/- A posting turned round: the reference's walk. -/
import Derived.Test.YtplchgkppkibnaaRows
import Derived.Test.YtplchgkppkibnaaRev
namespace Go.Proofs.Ytplchgkppkibnaa
open Go.RowKit

theorem negL_take_succ (l : List Line) {k : Nat} (hk : k < l.length) : (l.take (k + 1)).map negL = (l.take k).map negL ++ [negL l[k]] := by
  rw [List.take_succ_eq_append_getElem hk, List.map_append]
  rfl
theorem s_Reverse_no (z id : Int) (l : List Line) (A : Option Addr) (cap : Nat) (w : World) (hl : l.length ≤ 1048576) (hno : postingB z l = false) (hr : Rd w w.heap.size 3 A (l.map Line.cells)) :
    Calls Try.prog 42 #[.agg #[.int .i64 z, .slice A l.length cap], .int .i64 id] w (RevPost w 0 [] false) := by
  have HR := Lib.hid hr
  have HN := Lib.hid hno
  clear hr hno
  go_enter Try.func42, Try.ntmps42
  go_wp2_with fail
  refine (s_PostingOk z l _ _ _ hl ((HR.out.below (by (first | ((repeat' first | (with_reducible (first | exact Below.refl _ _ | assumption | refine Below.setCell ?_ ?_ _ | refine Below.alloc ?_ ?_ _ | refine Below.drew ?_ | refine below_drewN ?_ _ | refine Below.trans ?_ (Below.mono (by assumption) ?_))) | omega | (simp; omega) | (simp; done)); done) | (repeat' first | exact Below.refl _ _ | assumption | refine Below.setCell ?_ (by first | omega | (simp; omega) | (simp; done)) _ | refine Below.alloc ?_ (by first | omega | (simp; omega) | (simp; done)) _ | refine Below.drew ?_ | refine below_drewN ?_ _ | refine Below.trans ?_ (Below.mono (by assumption) (by first | omega | (simp; omega) | (simp; done))))))).more (by first | omega | (simp; omega) | (simp; done)))).mono ?_
  rintro e w1 ⟨rfl, hb1⟩
  have z1 := hb1.size
  try simp at z1
  rw [HN.out]
  obtain ⟨bh, b0, b1, bf, bz⟩ := own2 (g := w.heap.size + 1) hb1 (by first | omega | (simp; omega) | (simp; done)) (by (first | ((repeat' first | (with_reducible (first | assumption | (refine heap_at ?_; (first | rfl | (simp; done))) | refine heap_drew ?_ | refine heap_drewN ?_ | refine heap_past ?_ ?_ | refine heap_far ?_ ?_)) | (simp; done) | (simp; omega)); done) | (repeat' first | assumption | (refine heap_at ?_; (simp; done)) | refine heap_drew ?_ | refine heap_drewN ?_ | (refine heap_past ?_ ?_ <;> try (simp; done)) | (refine heap_far ?_ ?_ <;> try (simp; done)))))
  go_wp2_with fail
  refine bodyPost_ret (v := .tuple #[.agg #[.int .i64 0, .slice none 0 0], .bool false]) (by simp [results, Try.results42, go_sem, b0, b1]) rfl ⟨none, 0, rfl, Ow.nil_, by (first | ((repeat' first | (with_reducible (first | exact Below.refl _ _ | assumption | refine Below.setCell ?_ ?_ _ | refine Below.alloc ?_ ?_ _ | refine Below.drew ?_ | refine below_drewN ?_ _ | refine Below.trans ?_ (Below.mono (by assumption) ?_))) | omega | (simp; omega) | (simp; done)); done) | (repeat' first | exact Below.refl _ _ | assumption | refine Below.setCell ?_ (by first | omega | (simp; omega) | (simp; done)) _ | refine Below.alloc ?_ (by first | omega | (simp; omega) | (simp; done)) _ | refine Below.drew ?_ | refine below_drewN ?_ _ | refine Below.trans ?_ (Below.mono (by assumption) (by first | omega | (simp; omega) | (simp; done)))))⟩
set_option maxRecDepth 100000 in
set_option maxHeartbeats 4000000 in
theorem s_Reverse_yes (z id : Int) (l : List Line) (A : Option Addr) (cap : Nat) (w : World) (hl : l.length ≤ 1048576) (hok : postingB z l = true) (hr : Rd w w.heap.size 3 A (l.map Line.cells)) :
    Calls Try.prog 42 #[.agg #[.int .i64 z, .slice A l.length cap], .int .i64 id] w (RevPost w (revId z id l) (revLines z id l) (revOk z id l)) := by
  have HR := Lib.hid hr
  clear hr
  obtain ⟨_, h2, h8, hlines⟩ := postingB_iff.1 hok
  have HLN := Lib.hid hlines
  have HOK := Lib.hid hok
  clear hlines hok
  obtain ⟨i0, hi, hz0, hz1, hz2⟩ := info_parts info_Line
  have HI := Lib.hid hi
  have HZ0 := Lib.hid hz0
  have HZ1 := Lib.hid hz1
  have HZ2 := Lib.hid hz2
  clear hi hz0 hz1 hz2
  go_enter Try.func42, Try.ntmps42
  go_wp2_with fail
  refine (s_PostingOk z l _ _ _ hl ((HR.out.below (by (first | ((repeat' first | (with_reducible (first | exact Below.refl _ _ | assumption | refine Below.setCell ?_ ?_ _ | refine Below.alloc ?_ ?_ _ | refine Below.drew ?_ | refine below_drewN ?_ _ | refine Below.trans ?_ (Below.mono (by assumption) ?_))) | omega | (simp; omega) | (simp; done)); done) | (repeat' first | exact Below.refl _ _ | assumption | refine Below.setCell ?_ (by first | omega | (simp; omega) | (simp; done)) _ | refine Below.alloc ?_ (by first | omega | (simp; omega) | (simp; done)) _ | refine Below.drew ?_ | refine below_drewN ?_ _ | refine Below.trans ?_ (Below.mono (by assumption) (by first | omega | (simp; omega) | (simp; done))))))).more (by first | omega | (simp; omega) | (simp; done)))).mono ?_
  rintro e w1 ⟨rfl, hb1⟩
  have z1 := hb1.size
  try simp at z1
  rw [HOK.out]
  obtain ⟨ah, a0, a1, af, az⟩ := own2 (g := w.heap.size) hb1 (by first | omega | (simp; omega) | (simp; done)) (by (first | ((repeat' first | (with_reducible (first | assumption | (refine heap_at ?_; (first | rfl | (simp; done))) | refine heap_drew ?_ | refine heap_drewN ?_ | refine heap_past ?_ ?_ | refine heap_far ?_ ?_)) | (simp; done) | (simp; omega)); done) | (repeat' first | assumption | (refine heap_at ?_; (simp; done)) | refine heap_drew ?_ | refine heap_drewN ?_ | (refine heap_past ?_ ?_ <;> try (simp; done)) | (refine heap_far ?_ ?_ <;> try (simp; done)))))
  obtain ⟨bh, b0, b1, bf, bz⟩ := own2 (g := w.heap.size + 1) hb1 (by first | omega | (simp; omega) | (simp; done)) (by (first | ((repeat' first | (with_reducible (first | assumption | (refine heap_at ?_; (first | rfl | (simp; done))) | refine heap_drew ?_ | refine heap_drewN ?_ | refine heap_past ?_ ?_ | refine heap_far ?_ ?_)) | (simp; done) | (simp; omega)); done) | (repeat' first | assumption | (refine heap_at ?_; (simp; done)) | refine heap_drew ?_ | refine heap_drewN ?_ | (refine heap_past ?_ ?_ <;> try (simp; done)) | (refine heap_far ?_ ?_ <;> try (simp; done)))))
  obtain ⟨ch, c0, c1, cf, cz⟩ := own2 (g := w.heap.size + 2) hb1 (by first | omega | (simp; omega) | (simp; done)) (by (first | ((repeat' first | (with_reducible (first | assumption | (refine heap_at ?_; (first | rfl | (simp; done))) | refine heap_drew ?_ | refine heap_drewN ?_ | refine heap_past ?_ ?_ | refine heap_far ?_ ?_)) | (simp; done) | (simp; omega)); done) | (repeat' first | assumption | (refine heap_at ?_; (simp; done)) | refine heap_drew ?_ | refine heap_drewN ?_ | (refine heap_past ?_ ?_ <;> try (simp; done)) | (refine heap_far ?_ ?_ <;> try (simp; done)))))
  have hA1 : Below w.heap.size w w1 := by (first | ((repeat' first | (with_reducible (first | exact Below.refl _ _ | assumption | refine Below.setCell ?_ ?_ _ | refine Below.alloc ?_ ?_ _ | refine Below.drew ?_ | refine below_drewN ?_ _ | refine Below.trans ?_ (Below.mono (by assumption) ?_))) | omega | (simp; omega) | (simp; done)); done) | (repeat' first | exact Below.refl _ _ | assumption | refine Below.setCell ?_ (by first | omega | (simp; omega) | (simp; done)) _ | refine Below.alloc ?_ (by first | omega | (simp; omega) | (simp; done)) _ | refine Below.drew ?_ | refine below_drewN ?_ _ | refine Below.trans ?_ (Below.mono (by assumption) (by first | omega | (simp; omega) | (simp; done)))))
  clear hb1
  go_wp2_with fail
  have AH := Lib.hid ah
  have BH := Lib.hid bh
  have CH := Lib.hid ch
  clear ah a0 a1 af bh b0 b1 bf ch c0 c1 cf
  go_loopw [18] (fun i wr => ∃ (k : Nat) (B : Option Addr) (cp : Nat), k ≤ l.length ∧ i = .int .i64 k ∧ Ow wr (w.heap.size + 3) 97 3 (.slice B k cp) (((l.take k).map negL).map Line.cells) ∧
      wr.heap[w.heap.size]? = some (.cells #[.int .i64 z, .slice A l.length cap] 69 (0, 0)) ∧ wr.heap[w.heap.size + 1]? = some (.cells #[.int .i64 0, .slice none 0 0] 69 (0, 0)) ∧
      wr.heap[w.heap.size + 2]? = some (.cells #[.int .i64 id, .slice B k cp] 69 (0, 0)) ∧ Below w.heap.size w wr) (fun i _ => l.length - (intOf i).toNat)
  case atStart => exact ⟨0, none, 0, Nat.zero_le _, rfl, Ow.nil_, AH.out, BH.out, CH.out, hA1⟩
  case round =>
    obtain ⟨k, B, cp, hk, rfl, how, heh, hfh, hgh, hbw⟩ := hrel
    clear hA1
    have hbz := hbw.size
    obtain ⟨eh, e0, e1, ef, ezz⟩ := own2 (Below.refl wr.heap.size wr) (Array.getElem?_eq_some_iff.1 heh).1 heh
    obtain ⟨fh, f0, f1, ff, fzz⟩ := own2 (Below.refl wr.heap.size wr) (Array.getElem?_eq_some_iff.1 hfh).1 hfh
    obtain ⟨gh, g0, g1, gf, gz⟩ := own2 (Below.refl wr.heap.size wr) (Array.getElem?_eq_some_iff.1 hgh).1 hgh
    have hrl : (((l.take k).map negL).map Line.cells).length = k := by simp; omega
    have HRL := Lib.hid hrl
    clear hrl heh hfh hgh
    have NE := Lib.hid (how.ne_ eh (by decide))
    have NF := Lib.hid (how.ne_ fh (by decide))
    have NG := Lib.hid (how.ne_ gh (by decide))
    have OB := Lib.hid how.block
    have HO := Lib.hid how
    have EH := Lib.hid eh
    have FH := Lib.hid fh
    have GH := Lib.hid gh
    clear eh fh gh how
    by_cases hlt : k < l.length
    · obtain ⟨b, off, rfl, hbB, c0, c1, c2⟩ := Line.rd (HR.out.below hbw) hlt
      have hbr : b < wr.heap.size := by omega
      obtain ⟨_, _, m1, m2⟩ := linesB_at HLN.out hlt
      have HK := Lib.hid (negL_take_succ l hlt)
      have KE := Lib.hid (fun o1 o2 (w5 : World) (hgr : ((wr.alloc o1).alloc o2).grownBy w5 (Value.slice B k cp).ownBlock) => ownG2 hgr NE.out (heap_past (by simp; omega) (heap_past ezz EH.out)))
      have KF := Lib.hid (fun o1 o2 (w5 : World) (hgr : ((wr.alloc o1).alloc o2).grownBy w5 (Value.slice B k cp).ownBlock) => ownG2 hgr NF.out (heap_past (by simp; omega) (heap_past fzz FH.out)))
      have KG := Lib.hid (fun o1 o2 (w5 : World) (hgr : ((wr.alloc o1).alloc o2).grownBy w5 (Value.slice B k cp).ownBlock) => ownG2 hgr NG.out (heap_past (by simp; omega) (heap_past gz GH.out)))
      have KB := Lib.hid (fun o1 o2 (w5 : World) (hgr : ((wr.alloc o1).alloc o2).grownBy w5 (Value.slice B k cp).ownBlock) => ((hbw.alloc (Nat.le_trans (Nat.le_refl _) hbz) o1).alloc (by simp; omega) o2).grown hgr (by simp; omega) (fun k e => by have := (OB.out k e).1; omega))
      go_wp2_with (at_builtin; refine wpList_app1 rfl _ _ _ rfl (w.heap.size + 3) 97 i0 _ 3 24 Try.underlying47 HI.out HZ0.out HZ1.out HZ2.out rfl (by decide) (.slice B k cp) (((l.take k).map negL).map Line.cells) rfl ((HO.out.alloc _).alloc _) (wr.heap.size + 1) 1 [.int .i64 l[k].Kind, .int .i64 l[k].Ch, .int .i64 (-l[k].Amt)] 97 rfl (heap_at (by simp)) rfl (by simp [Value.oneCell']) (by rw [HRL.out]; omega) (by decide) (by simp; omega) ?_; intro g cap' w5 how5 hgr5 hat5 hlt5; rw [HRL.out] at how5; rw [HRL.out]; obtain ⟨xh, x0, x1, xf, xz⟩ := KE.out _ _ _ hgr5; obtain ⟨yh, y0, y1, yf, yz⟩ := KF.out _ _ _ hgr5; obtain ⟨vh, v0, v1, vf, vz⟩ := KG.out _ _ _ hgr5; have hb5 := KB.out _ _ _ hgr5; have XH := Lib.hid xh; have YH := Lib.hid yh; have VH := Lib.hid vh; have O5 := Lib.hid how5; clear xh yh vh how5 hgr5 hat5)
      go_roundw
      case rel =>
        refine ⟨k + 1, some ⟨g, 0, none⟩, cap', by omega, by go_num, ?_, heap_far (by first | (simp; done) | (simp; omega)) XH.out, heap_far (by first | (simp; done) | (simp; omega)) YH.out, heap_set VH.out, hb5.setCell (by first | (simp; done) | (simp; omega)) _⟩
        rw [HK.out, List.map_append]
        exact O5.out.far (by simp) _
      case measure => simp [intOf]; omega
    · obtain rfl : k = l.length := by omega
      have ho := HO.out
      rw [List.take_length] at ho
      have HO2 := Lib.hid ho
      have hln : (l.map negL).length = l.length := List.length_map ..
      have P2 := fun A cap W (q : Rd W W.heap.size 3 A ((l.map negL).map Line.cells)) => s_PostingOk id (l.map negL) A cap W (by rw [hln]; exact hl) q
      rw [hln] at P2
      have HLEN := Lib.hid hln
      clear ho hln
      cases hq : postingB id (l.map negL)
      · rw [hq] at P2
        have HN := Lib.hid (show revOk z id l = false by simp [revOk, hq])
        have HP2 := Lib.hid P2
        clear hq P2
        go_wp2_with fail
        refine (HP2.out _ _ _ HO2.out.rd).mono ?_
        rintro e w6 ⟨rfl, hb6⟩
        have z6 := hb6.size
        try simp at z6
        obtain ⟨xh, x0, x1, xf, xz⟩ := own2 hb6 fzz FH.out
        go_wp2_with fail
        refine bodyPost_ret (v := .tuple #[.agg #[.int .i64 0, .slice none 0 0], .bool false]) (by simp [results, Try.results42, go_sem, x0, x1]) rfl (rev_no HN.out ⟨none, 0, rfl, Ow.nil_, by (first | ((repeat' first | (with_reducible (first | exact Below.refl _ _ | assumption | refine Below.setCell ?_ ?_ _ | refine Below.alloc ?_ ?_ _ | refine Below.drew ?_ | refine below_drewN ?_ _ | refine Below.trans ?_ (Below.mono (by assumption) ?_))) | omega | (simp; omega) | (simp; done)); done) | (repeat' first | exact Below.refl _ _ | assumption | refine Below.setCell ?_ (by first | omega | (simp; omega) | (simp; done)) _ | refine Below.alloc ?_ (by first | omega | (simp; omega) | (simp; done)) _ | refine Below.drew ?_ | refine below_drewN ?_ _ | refine Below.trans ?_ (Below.mono (by assumption) (by first | omega | (simp; omega) | (simp; done)))))⟩)
      · rw [hq] at P2
        have HN := Lib.hid (show revOk z id l = true by simp [revOk, HOK.out, hq])
        have HP2 := Lib.hid P2
        clear hq P2
        go_wp2_with fail
        refine (HP2.out _ _ _ HO2.out.rd).mono ?_
        rintro e w6 ⟨rfl, hb6⟩
        have z6 := hb6.size
        try simp at z6
        obtain ⟨xh, x0, x1, xf, xz⟩ := own2 hb6 fzz FH.out
        obtain ⟨uh, u0, u1, uf, uz⟩ := own2 hb6 gz GH.out
        go_wp2_with fail
        refine bodyPost_ret (v := .tuple #[.agg #[.int .i64 id, .slice B l.length cp], .bool true]) (by simp [results, Try.results42, go_sem, x0, x1]) rfl (rev_yes HN.out ⟨B, cp, by rw [HLEN.out], ?_, by (first | ((repeat' first | (with_reducible (first | exact Below.refl _ _ | assumption | refine Below.setCell ?_ ?_ _ | refine Below.alloc ?_ ?_ _ | refine Below.drew ?_ | refine below_drewN ?_ _ | refine Below.trans ?_ (Below.mono (by assumption) ?_))) | omega | (simp; omega) | (simp; done)); done) | (repeat' first | exact Below.refl _ _ | assumption | refine Below.setCell ?_ (by first | omega | (simp; omega) | (simp; done)) _ | refine Below.alloc ?_ (by first | omega | (simp; omega) | (simp; done)) _ | refine Below.drew ?_ | refine below_drewN ?_ _ | refine Below.trans ?_ (Below.mono (by assumption) (by first | omega | (simp; omega) | (simp; done)))))⟩)
        rw [HLEN.out]
        have ho := HO2.out.below hb6
        exact Ow.more (Ow.far (Ow.far ho (by simp) _) (by simp) _) (by omega)
theorem s_Reverse (z id : Int) (l : List Line) (A : Option Addr) (cap : Nat) (w : World) (hl : l.length ≤ 1048576) (hr : Rd w w.heap.size 3 A (l.map Line.cells)) :
    Calls Try.prog 42 #[.agg #[.int .i64 z, .slice A l.length cap], .int .i64 id] w (RevPost w (revId z id l) (revLines z id l) (revOk z id l)) := by
  cases h : postingB z l
  · exact (s_Reverse_no z id l A cap w hl h hr).mono fun _ _ hp => rev_no (by simp [revOk, h]) hp
  · exact s_Reverse_yes z id l A cap w hl h hr
end Go.Proofs.Ytplchgkppkibnaa
