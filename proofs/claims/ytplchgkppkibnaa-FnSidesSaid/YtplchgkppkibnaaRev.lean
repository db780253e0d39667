/- A posting turned round: plain, and the program's walk. -/
import Derived.Test.YtplchgkppkibnaaRows
import Derived.Test.YtplchgkppkibnaaLed
import Derived.Test.YtplchgkppkibnaaBase2
import Derived.RegionTactic
namespace Go.Proofs.Ytplchgkppkibnaa
open Go.RowKit

def negL (x : Line) : Line := ⟨x.Kind, x.Ch, -x.Amt⟩
def negWL (x : Line) : Line := ⟨x.Kind, x.Ch, wrap64 (-x.Amt)⟩
def revOk (z id : Int) (l : List Line) : Bool := postingB z l && postingB id (l.map negL)
def revId (z id : Int) (l : List Line) : Int := if revOk z id l = true then id else 0
def revLines (z id : Int) (l : List Line) : List Line := if revOk z id l = true then l.map negL else []
def RevPost (w : World) (z2 : Int) (l2 : List Line) (ok : Bool) (e : Ending) (w' : World) : Prop :=
  ∃ A cap, e = .returned (.tuple #[.agg #[.int .i64 z2, .slice A l2.length cap], .bool ok]) ∧ Ow w' w.heap.size 97 3 (.slice A l2.length cap) (l2.map Line.cells) ∧ Below w.heap.size w w'
theorem rev_no {w : World} {z id : Int} {l : List Line} {e : Ending} {w' : World} (h : revOk z id l = false) (hp : RevPost w 0 [] false e w') : RevPost w (revId z id l) (revLines z id l) (revOk z id l) e w' := by
  rw [show revId z id l = 0 by simp [revId, h], show revLines z id l = [] by simp [revLines, h], h]
  exact hp
theorem rev_yes {w : World} {z id : Int} {l : List Line} {e : Ending} {w' : World} (h : revOk z id l = true) (hp : RevPost w id (l.map negL) true e w') : RevPost w (revId z id l) (revLines z id l) (revOk z id l) e w' := by
  rw [show revId z id l = id by simp [revId, h], show revLines z id l = l.map negL by simp [revLines, h], h]
  exact hp
theorem wrap_small (n : Int) (h1 : -1125899906842624 ≤ n) (h2 : n ≤ 1125899906842624) : wrap64 n = n := IntWalk.wrap64_in n ⟨by omega, by omega⟩
theorem negWL_one {x : Line} (h1 : -1125899906842624 ≤ x.Amt) (h2 : x.Amt ≤ 1125899906842624) : negWL x = negL x := by
  have e := wrap_small (-x.Amt) (by omega) (by omega)
  unfold negWL negL
  rw [e]
theorem negWL_eq {l : List Line} (h : linesB l = true) : l.map negWL = l.map negL := by
  refine List.map_congr_left fun x hx => ?_
  obtain ⟨k, hk, rfl⟩ := List.mem_iff_getElem.1 hx
  obtain ⟨_, _, m1, m2⟩ := linesB_at h hk
  exact negWL_one m1 m2
/-- The lines, the first k of them turned round. -/
def mixed (k : Nat) (l : List Line) : List Line := (l.take k).map negWL ++ l.drop k
theorem mixed_len (k : Nat) (l : List Line) (h : k ≤ l.length) : (mixed k l).length = l.length := by
  simp [mixed]; omega
theorem mixed_at {k : Nat} {l : List Line} (h : k < l.length) : (mixed k l)[k]? = some l[k] := by
  unfold mixed
  rw [List.getElem?_append_right (by simp; omega)]
  simp [Nat.min_eq_left (Nat.le_of_lt h), List.getElem?_eq_getElem h]
theorem mixed_succ {k : Nat} {l : List Line} (h : k < l.length) : (mixed k l).set k (negWL l[k]) = mixed (k + 1) l := by
  unfold mixed
  rw [List.take_succ_eq_append_getElem h, List.map_append, List.append_assoc, List.set_append_right _ _ (by simp; omega)]
  congr 1
  rw [show k - ((l.take k).map negWL).length = 0 by simp; omega, List.drop_eq_getElem_cons h]
  rfl
theorem mixed_cells {k : Nat} {l : List Line} (h : k < l.length) : ((mixed k l).map Line.cells)[k]? = some l[k].cells := by
  rw [List.getElem?_map, mixed_at h]
  rfl
theorem mixed_set {k : Nat} {l : List Line} (h : k < l.length) : ((mixed k l).map Line.cells).set k (l[k].cells.set 2 (.int .i64 (wrap64 (-l[k].Amt)))) = (mixed (k + 1) l).map Line.cells := by
  rw [← mixed_succ h, List.map_set]
  rfl
theorem line_one (l : List Line) : ∀ u ∈ (l.map Line.cells).flatten, u.oneCell' = true := by
  intro u hu
  obtain ⟨r, hr, hu⟩ := List.mem_flatten.1 hu
  obtain ⟨x, _, rfl⟩ := List.mem_map.1 hr
  simp only [Line.cells, List.mem_cons, List.not_mem_nil, or_false] at hu
  rcases hu with rfl | rfl | rfl <;> rfl
set_option maxHeartbeats 1000000 in
theorem i_copyLines (l : List Line) (A : Option Addr) (cap : Nat) (w : World) (hl : l.length ≤ 1048576) (hr : Rd w w.heap.size 3 A (l.map Line.cells)) :
    Calls Try.prog 84 #[.slice A l.length cap] w fun e w' => ∃ A' cap', e = .returned (.slice A' l.length cap') ∧ Ow w' w.heap.size 97 3 (.slice A' l.length cap') (l.map Line.cells) ∧ Below w.heap.size w w' := by
  obtain ⟨i0, hi, hz0, hz1, hz2⟩ := info_parts info_Line
  have hlen : (l.map Line.cells).length = l.length := List.length_map ..
  have HI := Lib.hid hi
  have HZ0 := Lib.hid hz0
  have HZ1 := Lib.hid hz1
  have HZ2 := Lib.hid hz2
  have HR := Lib.hid hr
  have HL := Lib.hid hlen
  clear hi hz0 hz1 hz2 hr hlen
  go_enter Try.func84, Try.ntmps84
  go_wp2_with (at_builtin; refine wpList_copy_rows rfl _ _ _ rfl 97 i0 _ 3 24 Try.underlying47 HI.out HZ0.out HZ1.out HZ2.out rfl (by decide) (by decide) A cap (l.map Line.cells) rfl (by rw [HL.out]; rfl) HR.out (line_one l) (by rw [HL.out]; omega) ?_; intro A' cap' w1 how hb1; rw [HL.out] at how; rw [HL.out]; have HO := Lib.hid how; clear how)
  go_ret
  exact ⟨_, _, rfl, HO.out, hb1⟩
set_option maxRecDepth 100000 in
set_option maxHeartbeats 4000000 in
theorem i_Reverse_any (z id : Int) (l : List Line) (A : Option Addr) (cap : Nat) (w : World) (hl : l.length ≤ 1048576) (hr : Rd w w.heap.size 3 A (l.map Line.cells)) :
    Calls Try.prog 41 #[.agg #[.int .i64 z, .slice A l.length cap], .int .i64 id] w (RevPost w (revId z id l) (revLines z id l) (revOk z id l)) := by
  have HR := Lib.hid hr
  clear hr
  go_enter Try.func41, Try.ntmps41
  go_wp2_with fail
  refine (i_copyLines l A cap _ hl ((HR.out.below (by (first | ((repeat' first | (with_reducible (first | exact Below.refl _ _ | assumption | refine Below.setCell ?_ ?_ _ | refine Below.alloc ?_ ?_ _ | refine Below.drew ?_ | refine below_drewN ?_ _ | refine Below.trans ?_ (Below.mono (by assumption) ?_))) | omega | (simp; omega) | (simp; done)); done) | (repeat' first | exact Below.refl _ _ | assumption | refine Below.setCell ?_ (by first | omega | (simp; omega) | (simp; done)) _ | refine Below.alloc ?_ (by first | omega | (simp; omega) | (simp; done)) _ | refine Below.drew ?_ | refine below_drewN ?_ _ | refine Below.trans ?_ (Below.mono (by assumption) (by first | omega | (simp; omega) | (simp; done))))))).more (by first | omega | (simp; omega) | (simp; done)))).mono ?_
  rintro e w1 ⟨A', cap', rfl, how1, hb1⟩
  have z1 := hb1.size
  try simp at z1
  obtain ⟨ah, a0, a1, af, az⟩ := own2 (g := w.heap.size) hb1 (by first | omega | (simp; omega) | (simp; done)) (by (first | ((repeat' first | (with_reducible (first | assumption | (refine heap_at ?_; (first | rfl | (simp; done))) | refine heap_drew ?_ | refine heap_drewN ?_ | refine heap_past ?_ ?_ | refine heap_far ?_ ?_)) | (simp; done) | (simp; omega)); done) | (repeat' first | assumption | (refine heap_at ?_; (simp; done)) | refine heap_drew ?_ | refine heap_drewN ?_ | (refine heap_past ?_ ?_ <;> try (simp; done)) | (refine heap_far ?_ ?_ <;> try (simp; done)))))
  obtain ⟨bh, b0, b1, bf, bz⟩ := own2 (g := w.heap.size + 1) hb1 (by first | omega | (simp; omega) | (simp; done)) (by (first | ((repeat' first | (with_reducible (first | assumption | (refine heap_at ?_; (first | rfl | (simp; done))) | refine heap_drew ?_ | refine heap_drewN ?_ | refine heap_past ?_ ?_ | refine heap_far ?_ ?_)) | (simp; done) | (simp; omega)); done) | (repeat' first | assumption | (refine heap_at ?_; (simp; done)) | refine heap_drew ?_ | refine heap_drewN ?_ | (refine heap_past ?_ ?_ <;> try (simp; done)) | (refine heap_far ?_ ?_ <;> try (simp; done)))))
  have HO1 := Lib.hid how1
  clear how1
  go_wp2_with fail
  have hA1 : Below w.heap.size w w1 := by (first | ((repeat' first | (with_reducible (first | exact Below.refl _ _ | assumption | refine Below.setCell ?_ ?_ _ | refine Below.alloc ?_ ?_ _ | refine Below.drew ?_ | refine below_drewN ?_ _ | refine Below.trans ?_ (Below.mono (by assumption) ?_))) | omega | (simp; omega) | (simp; done)); done) | (repeat' first | exact Below.refl _ _ | assumption | refine Below.setCell ?_ (by first | omega | (simp; omega) | (simp; done)) _ | refine Below.alloc ?_ (by first | omega | (simp; omega) | (simp; done)) _ | refine Below.drew ?_ | refine below_drewN ?_ _ | refine Below.trans ?_ (Below.mono (by assumption) (by first | omega | (simp; omega) | (simp; done)))))
  have HO2 := Lib.hid ((HO1.out.more (B' := w.heap.size + 2) (by simp)).alloc (.cells #[.int .i64 id, .slice A' l.length cap'] 69))
  have AH := Lib.hid ah
  have BH := Lib.hid bh
  clear ah a0 a1 af bh b0 b1 bf hb1
  go_loopw [16] (fun i wr => ∃ k : Nat, k ≤ l.length ∧ i = .int .i64 k ∧ wr.heap[w.heap.size]? = some (.cells #[.int .i64 z, .slice A l.length cap] 69 (0, 0)) ∧ wr.heap[w.heap.size + 1]? = some (.cells #[.int .i64 0, .slice none 0 0] 69 (0, 0)) ∧ wr.heap[w1.heap.size]? = some (.cells #[.int .i64 id, .slice A' l.length cap'] 69 (0, 0)) ∧
      Ow wr (w.heap.size + 2) 97 3 (.slice A' l.length cap') ((mixed k l).map Line.cells) ∧ Below w.heap.size w wr) (fun i _ => l.length - (intOf i).toNat)
  case atStart => exact ⟨0, Nat.zero_le _, rfl, heap_past az AH.out, heap_past bz BH.out, heap_at rfl, HO2.out, by (first | ((repeat' first | (with_reducible (first | exact Below.refl _ _ | assumption | refine Below.setCell ?_ ?_ _ | refine Below.alloc ?_ ?_ _ | refine Below.drew ?_ | refine below_drewN ?_ _ | refine Below.trans ?_ (Below.mono (by assumption) ?_))) | omega | (simp; omega) | (simp; done)); done) | (repeat' first | exact Below.refl _ _ | assumption | refine Below.setCell ?_ (by first | omega | (simp; omega) | (simp; done)) _ | refine Below.alloc ?_ (by first | omega | (simp; omega) | (simp; done)) _ | refine Below.drew ?_ | refine below_drewN ?_ _ | refine Below.trans ?_ (Below.mono (by assumption) (by first | omega | (simp; omega) | (simp; done)))))⟩
  case round =>
    obtain ⟨k, hk, rfl, heh, hfh, hgh, how, hbw⟩ := hrel
    have hbz := hbw.size
    obtain ⟨eh, e0, e1, ef, ezz⟩ := own2 (Below.refl wr.heap.size wr) (Array.getElem?_eq_some_iff.1 heh).1 heh
    obtain ⟨fh, f0, f1, ff, fzz⟩ := own2 (Below.refl wr.heap.size wr) (Array.getElem?_eq_some_iff.1 hfh).1 hfh
    obtain ⟨gh, g0, g1, gf, gz⟩ := own2 (Below.refl wr.heap.size wr) (Array.getElem?_eq_some_iff.1 hgh).1 hgh
    clear heh hfh hgh
    by_cases hlt : k < l.length
    · obtain ⟨g, rfl, gB, gW, gN⟩ : ∃ g, A' = some ⟨g, 0, none⟩ ∧ w.heap.size + 2 ≤ g ∧ g < wr.heap.size ∧ w1.heap.size ≠ g := by
        rcases how.open_ with ⟨h0, _⟩ | ⟨g, cp, hv, hB, _, hg⟩
        · exfalso
          have := congrArg List.length h0
          rw [List.length_map, mixed_len k l hk] at this
          have h2 : l.length = 0 := this
          omega
        · injection hv with hv1
          refine ⟨g, hv1, hB, hg, fun he => ?_⟩
          have := how.ne_ gh (by decide)
          rw [hv1] at this
          exact this (by simp [Value.ownBlock, he])
      have c2 := how.cellAt (mixed_cells hlt) (j := 2) (by omega)
      have cf := how.frozenAt
      have HO := Lib.hid how
      have EH := Lib.hid eh
      have FH := Lib.hid fh
      have GH := Lib.hid gh
      have i1 : (0 : Int) ≤ (k : Int) := by omega
      have i2 : (k : Int) < (l.length : Int) := by omega
      clear how eh fh gh
      simp only [Line.cells, List.getElem?_cons_succ, List.getElem?_cons_zero] at c2
      go_wp2_with fail
      go_region
      all_goals go_wp2_with fail
      go_roundw
      case rel =>
        refine ⟨k + 1, by omega, by go_num, heap_drew (heap_far (by simp; omega) EH.out), heap_drew (heap_far (by simp; omega) FH.out), heap_drew (heap_far gN GH.out), ?_, by (first | ((repeat' first | (with_reducible (first | exact Below.refl _ _ | assumption | refine Below.setCell ?_ ?_ _ | refine Below.alloc ?_ ?_ _ | refine Below.drew ?_ | refine below_drewN ?_ _ | refine Below.trans ?_ (Below.mono (by assumption) ?_))) | omega | (simp; omega) | (simp; done)); done) | (repeat' first | exact Below.refl _ _ | assumption | refine Below.setCell ?_ (by first | omega | (simp; omega) | (simp; done)) _ | refine Below.alloc ?_ (by first | omega | (simp; omega) | (simp; done)) _ | refine Below.drew ?_ | refine below_drewN ?_ _ | refine Below.trans ?_ (Below.mono (by assumption) (by first | omega | (simp; omega) | (simp; done)))))⟩
        have h := HO.out.stored (mixed_cells hlt) (j := 2) (by omega) (.int .i64 (wrap64 (-l[k].Amt)))
        have e := mixed_set hlt
        rw [← e]
        exact h
      case measure => simp [intOf]; omega
    · obtain rfl : k = l.length := by omega
      have hmix : mixed l.length l = l.map negWL := by simp [mixed]
      rw [hmix] at how
      have HO := Lib.hid how
      have EH := Lib.hid eh
      have FH := Lib.hid fh
      have GH := Lib.hid gh
      clear how eh fh gh hmix
      cases hp : postingB z l
      · have HN := Lib.hid (show revOk z id l = false by simp [revOk, hp])
        have HP := Lib.hid hp
        clear hp
        go_wp2_with fail
        refine (i_PostingOk z l _ _ _ hl ((HR.out.below (by (first | ((repeat' first | (with_reducible (first | exact Below.refl _ _ | assumption | refine Below.setCell ?_ ?_ _ | refine Below.alloc ?_ ?_ _ | refine Below.drew ?_ | refine below_drewN ?_ _ | refine Below.trans ?_ (Below.mono (by assumption) ?_))) | omega | (simp; omega) | (simp; done)); done) | (repeat' first | exact Below.refl _ _ | assumption | refine Below.setCell ?_ (by first | omega | (simp; omega) | (simp; done)) _ | refine Below.alloc ?_ (by first | omega | (simp; omega) | (simp; done)) _ | refine Below.drew ?_ | refine below_drewN ?_ _ | refine Below.trans ?_ (Below.mono (by assumption) (by first | omega | (simp; omega) | (simp; done))))))).more (by first | omega | (simp; omega) | (simp; done)))).mono ?_
        rintro e w5 ⟨rfl, hb5⟩
        have z5 := hb5.size
        try simp at z5
        rw [HP.out]
        obtain ⟨yh, y0, y1, yf, yz⟩ := own2 hb5 fzz FH.out
        go_wp2_with fail
        refine bodyPost_ret (v := .tuple #[.agg #[.int .i64 0, .slice none 0 0], .bool false]) (by simp [results, Try.results41, go_sem, y0, y1]) rfl (rev_no HN.out ⟨none, 0, rfl, Ow.nil_, by (first | ((repeat' first | (with_reducible (first | exact Below.refl _ _ | assumption | refine Below.setCell ?_ ?_ _ | refine Below.alloc ?_ ?_ _ | refine Below.drew ?_ | refine below_drewN ?_ _ | refine Below.trans ?_ (Below.mono (by assumption) ?_))) | omega | (simp; omega) | (simp; done)); done) | (repeat' first | exact Below.refl _ _ | assumption | refine Below.setCell ?_ (by first | omega | (simp; omega) | (simp; done)) _ | refine Below.alloc ?_ (by first | omega | (simp; omega) | (simp; done)) _ | refine Below.drew ?_ | refine below_drewN ?_ _ | refine Below.trans ?_ (Below.mono (by assumption) (by first | omega | (simp; omega) | (simp; done)))))⟩)
      · have hneg := negWL_eq (postingB_iff.1 hp).2.2.2
        have HO' := HO.out
        rw [hneg] at HO'
        have HO2' := Lib.hid HO'
        have HP := Lib.hid hp
        have hln : (l.map negL).length = l.length := List.length_map ..
        have P2 := fun A cap W (q : Rd W W.heap.size 3 A ((l.map negL).map Line.cells)) => i_PostingOk id (l.map negL) A cap W (by rw [hln]; exact hl) q
        rw [hln] at P2
        have HLN := Lib.hid hln
        clear HO HO' hneg hln
        cases hq : postingB id (l.map negL)
        · rw [hq] at P2
          have HN := Lib.hid (show revOk z id l = false by simp [revOk, hp, hq])
          have HP2 := Lib.hid P2
          clear hp hq P2
          go_wp2_with fail
          refine (i_PostingOk z l _ _ _ hl ((HR.out.below (by (first | ((repeat' first | (with_reducible (first | exact Below.refl _ _ | assumption | refine Below.setCell ?_ ?_ _ | refine Below.alloc ?_ ?_ _ | refine Below.drew ?_ | refine below_drewN ?_ _ | refine Below.trans ?_ (Below.mono (by assumption) ?_))) | omega | (simp; omega) | (simp; done)); done) | (repeat' first | exact Below.refl _ _ | assumption | refine Below.setCell ?_ (by first | omega | (simp; omega) | (simp; done)) _ | refine Below.alloc ?_ (by first | omega | (simp; omega) | (simp; done)) _ | refine Below.drew ?_ | refine below_drewN ?_ _ | refine Below.trans ?_ (Below.mono (by assumption) (by first | omega | (simp; omega) | (simp; done))))))).more (by first | omega | (simp; omega) | (simp; done)))).mono ?_
          rintro e w5 ⟨rfl, hb5⟩
          have z5 := hb5.size
          try simp at z5
          rw [HP.out]
          obtain ⟨yh, y0, y1, yf, yz⟩ := own2 hb5 fzz FH.out
          obtain ⟨vh, v0, v1, vf, vz⟩ := own2 hb5 gz GH.out
          go_wp2_with fail
          refine (HP2.out _ _ _ (HO2'.out.below hb5).rd).mono ?_
          rintro e w6 ⟨rfl, hb6⟩
          have z6 := hb6.size
          try simp at z6
          obtain ⟨xh, x0, x1, xf, xz⟩ := own2 hb6 yz yh
          go_wp2_with fail
          refine bodyPost_ret (v := .tuple #[.agg #[.int .i64 0, .slice none 0 0], .bool false]) (by simp [results, Try.results41, go_sem, x0, x1]) rfl (rev_no HN.out ⟨none, 0, rfl, Ow.nil_, by (first | ((repeat' first | (with_reducible (first | exact Below.refl _ _ | assumption | refine Below.setCell ?_ ?_ _ | refine Below.alloc ?_ ?_ _ | refine Below.drew ?_ | refine below_drewN ?_ _ | refine Below.trans ?_ (Below.mono (by assumption) ?_))) | omega | (simp; omega) | (simp; done)); done) | (repeat' first | exact Below.refl _ _ | assumption | refine Below.setCell ?_ (by first | omega | (simp; omega) | (simp; done)) _ | refine Below.alloc ?_ (by first | omega | (simp; omega) | (simp; done)) _ | refine Below.drew ?_ | refine below_drewN ?_ _ | refine Below.trans ?_ (Below.mono (by assumption) (by first | omega | (simp; omega) | (simp; done)))))⟩)
        · rw [hq] at P2
          have HN := Lib.hid (show revOk z id l = true by simp [revOk, hp, hq])
          have HP2 := Lib.hid P2
          clear hp hq P2
          go_wp2_with fail
          refine (i_PostingOk z l _ _ _ hl ((HR.out.below (by (first | ((repeat' first | (with_reducible (first | exact Below.refl _ _ | assumption | refine Below.setCell ?_ ?_ _ | refine Below.alloc ?_ ?_ _ | refine Below.drew ?_ | refine below_drewN ?_ _ | refine Below.trans ?_ (Below.mono (by assumption) ?_))) | omega | (simp; omega) | (simp; done)); done) | (repeat' first | exact Below.refl _ _ | assumption | refine Below.setCell ?_ (by first | omega | (simp; omega) | (simp; done)) _ | refine Below.alloc ?_ (by first | omega | (simp; omega) | (simp; done)) _ | refine Below.drew ?_ | refine below_drewN ?_ _ | refine Below.trans ?_ (Below.mono (by assumption) (by first | omega | (simp; omega) | (simp; done))))))).more (by first | omega | (simp; omega) | (simp; done)))).mono ?_
          rintro e w5 ⟨rfl, hb5⟩
          have z5 := hb5.size
          try simp at z5
          rw [HP.out]
          obtain ⟨yh, y0, y1, yf, yz⟩ := own2 hb5 fzz FH.out
          obtain ⟨vh, v0, v1, vf, vz⟩ := own2 hb5 gz GH.out
          go_wp2_with fail
          refine (HP2.out _ _ _ (HO2'.out.below hb5).rd).mono ?_
          rintro e w6 ⟨rfl, hb6⟩
          have z6 := hb6.size
          try simp at z6
          obtain ⟨xh, x0, x1, xf, xz⟩ := own2 hb6 yz yh
          obtain ⟨uh, u0, u1, uf, uz⟩ := own2 hb6 vz vh
          go_wp2_with fail
          refine bodyPost_ret (v := .tuple #[.agg #[.int .i64 id, .slice A' l.length cap'], .bool true]) (by simp [results, Try.results41, go_sem, x0, x1]) rfl (rev_yes HN.out ⟨A', cap', by rw [HLN.out], ?_, by (first | ((repeat' first | (with_reducible (first | exact Below.refl _ _ | assumption | refine Below.setCell ?_ ?_ _ | refine Below.alloc ?_ ?_ _ | refine Below.drew ?_ | refine below_drewN ?_ _ | refine Below.trans ?_ (Below.mono (by assumption) ?_))) | omega | (simp; omega) | (simp; done)); done) | (repeat' first | exact Below.refl _ _ | assumption | refine Below.setCell ?_ (by first | omega | (simp; omega) | (simp; done)) _ | refine Below.alloc ?_ (by first | omega | (simp; omega) | (simp; done)) _ | refine Below.drew ?_ | refine below_drewN ?_ _ | refine Below.trans ?_ (Below.mono (by assumption) (by first | omega | (simp; omega) | (simp; done)))))⟩)
          rw [HLN.out]
          have ho := (HO2'.out.below hb5).below hb6
          exact Ow.more (Ow.far (Ow.far ho (by simp) _) (by simp) _) (by omega)
end Go.Proofs.Ytplchgkppkibnaa
