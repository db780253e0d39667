/- BkRp · BkS0 · BkS1 · BkS5: each text proves what its theorems say, with no conditions but theirs. -/
import Derived.Test.YtcjbjpobpefehaaGreatDoorRows
import Derived.Test.YtcjbjpobpefehaaGreatDoorM3
import Derived.Test.YtcjbjpobpefehaaGreatDoorM2
import Derived.Test.YtcjbjpobpefehaaGreatDoorBkTx
import Derived.Test.YtcjbjpobpefehaaGreatDoorM1
import Derived.Deep.RegionHeld3
namespace Go.Proofs.YtcjbjpobpefehaaGreatDoor
open Go.RowKit Go.Deep

def bkTs : List TypeId := [27, 44, 46, 49]
/-- a book that lies in a box -/
def BoxB (w : World) (X : Nat) (b : Bk) (A1 A2 A3 : Option Addr) (p1 p2 p3 : Nat) : Prop := w.heap[X]? = some (.cells #[.int .i64 b.t, .int .i64 b.n, .int .i64 b.w, .slice A1 b.cs.length p1, .slice A2 b.hs.length p2, .slice A3 b.os.length p3] 27 (0, 0))
def PartP (X B : Nat) (b : Bk) (row : List UInt8) (w : World) (e : Ending) (w' : World) : Prop :=
  ((partI b row = none ∧ e = .returned (.bool false)) ∨ ∃ (b' : Bk) (A1 A2 A3 : Option Addr) (p1 p2 p3 : Nat), partI b row = some b' ∧ e = .returned (.bool true) ∧ BoxB w' X b' A1 A2 A3 p1 p2 p3 ∧ OwB w' B b' A1 A2 A3 p1 p2 p3) ∧ Below B w w' ∧ Fr bkTs w w'
section
variable {X B : Nat} {b b' : Bk} {row : List UInt8} {w w' : World} {A1 A2 A3 : Option Addr} {p1 p2 p3 : Nat}
theorem PartP.no (h : partI b row = none) (hb : Below B w w') (hf : Fr bkTs w w') : PartP X B b row w (.returned (.bool false)) w' := ⟨Or.inl ⟨h, rfl⟩, hb, hf⟩
theorem PartP.yes (h : partI b row = some b') (hx : BoxB w' X b' A1 A2 A3 p1 p2 p3) (ho : OwB w' B b' A1 A2 A3 p1 p2 p3) (hb : Below B w w') (hf : Fr bkTs w w') : PartP X B b row w (.returned (.bool true)) w' := ⟨Or.inr ⟨b', A1, A2, A3, p1, p2, p3, h, rfl, hx, ho⟩, hb, hf⟩
theorem BoxB.lt (h : BoxB w X b A1 A2 A3 p1 p2 p3) : X < w.heap.size := (Array.getElem?_eq_some_iff.1 h).1
end
theorem cell_apartB {w : World} {X i b j : Nat} {v u : Value} (hne : b ≠ X) (h : w.cell? ⟨b, j, none⟩ = some v) : (w.setCell ⟨X, i, none⟩ u).cell? ⟨b, j, none⟩ = some v :=
  ((grown_set (World.grownBy.refl w (some X)) i u).cell_far ⟨b, j, none⟩ (Lib.lt_of_cell h) (fun e => hne (Option.some.inj e))).trans h
theorem below_setB {B X i : Nat} {w w' : World} (h : Below B w w') (hX : B ≤ X) (u : Value) : Below B w (w'.setCell ⟨X, i, none⟩ u) := h.setCell hX u
theorem Ow.heapB {w : World} {B size n cap g : Nat} {e : TypeId} {rows : List (List Value)} (h : Ow w B e size (.slice (some ⟨g, 0, none⟩) n cap) rows) : ∃ cur, w.heap[g]? = some (.cells cur e (0, 0)) := by
  rcases h.2.2 with ⟨hv, _⟩ | ⟨g', cap', cur, hv, _, hh, _⟩
  · cases hv
  · injection hv with h1
    injection h1 with h1
    injection h1 with h1
    subst h1
    exact ⟨cur, hh⟩
theorem cell_drewB {w : World} {p : Addr} {v : Value} (k : w.cell? p = some v) : w.drew.cell? p = some v := k
theorem info_chanB : (Tryz.prog.info? 44).map (fun i => (i.zero, i.size, i.bytes)) = some (some (.agg #[.int .i64 0, .int .i64 0, .int .i64 0, .int .i64 0, .int .i64 0, .int .i64 0, .int .i64 0]), 7, 56) := by kernel_rfl
theorem info_htlcB : (Tryz.prog.info? 46).map (fun i => (i.zero, i.size, i.bytes)) = some (some (.agg #[.int .i64 0, .int .i64 0, .int .i64 0, .int .i64 0, .int .i64 0, .bool false, .int .i64 0]), 7, 56) := by kernel_rfl
theorem info_circB : (Tryz.prog.info? 49).map (fun i => (i.zero, i.size, i.bytes)) = some (some (.agg #[.int .i64 0, .int .i64 0, .int .i64 0, .int .i64 0, .int .i64 0]), 5, 40) := by kernel_rfl
theorem strs_tail {w : World} {B b o : Nat} {x : List UInt8} {l : List (List UInt8)} (h : Rd w B 1 (some ⟨b, o, none⟩) ((x :: l).map strC)) : Rd w B 1 (some ⟨b, o + 1, none⟩) (l.map strC) := by
  refine ⟨strs_uni l, fun hn => ?_⟩
  obtain ⟨b', o', e, hb, hc⟩ := h.2 (by simp)
  simp only [Option.some.injEq, Addr.mk.injEq, and_true] at e
  obtain ⟨rfl, rfl⟩ := e
  refine ⟨b, o + 1, rfl, hb, fun i r j v h1 h2 => ?_⟩
  have := hc (i + 1) r j v (by simpa using h1) h2
  rwa [show o + (i + 1) * 1 + j = o + 1 + i * 1 + j by omega] at this
theorem ints_cells {w : World} {B g n cap : Nat} {e : TypeId} {l : List Int} (h : Ow w B e 1 (.slice (some ⟨g, 0, none⟩) n cap) (l.map intCells)) {k : Nat} (hk : k < l.length) : w.cell? ⟨g, k, none⟩ = some (.int .i64 l[k]) := by
  obtain ⟨b, off, e1, _, hc⟩ := ints_rd h.rd hk
  simp only [Option.some.injEq, Addr.mk.injEq, and_true] at e1
  obtain ⟨rfl, rfl⟩ := e1
  simpa using hc
theorem Ow.head_ {w : World} {B n cap size : Nat} {e : TypeId} {A : Option Addr} {rows : List (List Value)} (h : Ow w B e size (.slice A n cap) rows) (h0 : 0 < rows.length) : ∃ g, A = some ⟨g, 0, none⟩ ∧ B ≤ g := by
  rcases h.open_ with ⟨hr, hv⟩ | ⟨g, cap', hv, hB, _, _⟩
  · rw [hr] at h0
    simp at h0
  · injection hv with h1
    exact ⟨g, h1, hB⟩
theorem list3 {α : Type} {l : List α} (h : l.length = 3) : ∃ a b c, l = [a, b, c] := by
  match l, h with | [a, b, c], _ => exact ⟨a, b, c, rfl⟩
theorem list5 {α : Type} {l : List α} (h : l.length = 5) : ∃ a b c d e, l = [a, b, c, d, e] := by
  match l, h with | [a, b, c, d, e], _ => exact ⟨a, b, c, d, e, rfl⟩
theorem list6 {α : Type} {l : List α} (h : l.length = 6) : ∃ a b c d e f, l = [a, b, c, d, e, f] := by
  match l, h with | [a, b, c, d, e, f], _ => exact ⟨a, b, c, d, e, f, rfl⟩
theorem list7 {α : Type} {l : List α} (h : l.length = 7) : ∃ a b c d e f g, l = [a, b, c, d, e, f, g] := by
  match l, h with | [a, b, c, d, e, f, g], _ => exact ⟨a, b, c, d, e, f, g, rfl⟩
theorem ne_book_chan : (bookW = chanW) = False := eq_false (by decide)
theorem ne_book_htlc : (bookW = htlcW) = False := eq_false (by decide)
theorem ne_book_circ : (bookW = circW) = False := eq_false (by decide)
theorem ne_book_over : (bookW = overW) = False := eq_false (by decide)
theorem ne_chan_book : (chanW = bookW) = False := eq_false (by decide)
theorem ne_chan_htlc : (chanW = htlcW) = False := eq_false (by decide)
theorem ne_chan_circ : (chanW = circW) = False := eq_false (by decide)
theorem ne_chan_over : (chanW = overW) = False := eq_false (by decide)
theorem ne_htlc_book : (htlcW = bookW) = False := eq_false (by decide)
theorem ne_htlc_chan : (htlcW = chanW) = False := eq_false (by decide)
theorem ne_htlc_circ : (htlcW = circW) = False := eq_false (by decide)
theorem ne_htlc_over : (htlcW = overW) = False := eq_false (by decide)
theorem ne_circ_book : (circW = bookW) = False := eq_false (by decide)
theorem ne_circ_chan : (circW = chanW) = False := eq_false (by decide)
theorem ne_circ_htlc : (circW = htlcW) = False := eq_false (by decide)
theorem ne_circ_over : (circW = overW) = False := eq_false (by decide)
theorem ne_over_book : (overW = bookW) = False := eq_false (by decide)
theorem ne_over_chan : (overW = chanW) = False := eq_false (by decide)
theorem ne_over_htlc : (overW = htlcW) = False := eq_false (by decide)
theorem ne_over_circ : (overW = circW) = False := eq_false (by decide)
theorem word_bytes {h w : List UInt8} (hne : h ≠ w) : (⟨h.toArray⟩ : ByteArray) ≠ ⟨w.toArray⟩ := fun e => hne (by
  have := congrArg (fun x : ByteArray => x.data.toList) e
  simpa using this)
end Go.Proofs.YtcjbjpobpefehaaGreatDoor

namespace Go.Proofs.YtcjbjpobpefehaaGreatDoor
open Go.RowKit Go.Deep

set_option maxHeartbeats 1000000 in
theorem s_l21Num (P : List (List UInt8)) (A : Option Addr) (cap : Nat) (k : Nat) (z : Int) (hz : z = (k : Int)) (w : World) (hk : k ≤ 100) (hr : Rd w w.heap.size 1 A (P.map strC)) :
    Calls Tryz.prog 59 #[.slice A P.length cap, .int .i64 z] w fun e w' => e = .returned (.int .i64 (numIx P k)) ∧ Below w.heap.size w w' := by
  subst hz
  by_cases hlt : k < P.length
  · obtain ⟨b, off, rfl, hbB, c0⟩ := strs_rd hr hlt
    obtain ⟨x, hx', hx⟩ := str_of P[k]
    rw [hx'] at c0
    have HE := Lib.hid (show numIx P k = numOf x.data.toList by
      unfold numIx
      rw [List.getD_eq_getElem?_getD, List.getElem?_eq_getElem hlt, Option.getD_some, hx.out.data])
    have i0 : (0 : Int) ≤ (k : Int) := by omega
    have i1 : (k : Int) < (P.length : Int) := by omega
    clear hr hx' hx
    go_enter Tryz.func59, Tryz.ntmps59
    go_wp2_with fail
    refine (s_TextNum x _).mono ?_
    rintro e w1 ⟨rfl, hb1⟩
    rw [← HE.out]
    clear HE
    go_wp2_with fail
    go_ret
    exact ⟨rfl, hb1⟩
  · have HE := Lib.hid (show numIx P k = 0 by
      unfold numIx
      rw [List.getD_eq_getElem?_getD, List.getElem?_eq_none (by omega)]
      exact numOf_nil)
    have hge : P.length ≤ k := by omega
    have hge' : decide (P.length ≤ k) = true := decide_eq_true hge
    clear hr
    go_enter Tryz.func59, Tryz.ntmps59
    go_wp2_with fail
    go_ret
    exact ⟨by rw [HE.out]; rfl, Below.refl _ _⟩
/-- what a line gives -/
def TakeP (w : World) (B : Nat) (b : Bk) (e : Ending) (w' : World) : Prop := ∃ (A1 A2 A3 : Option Addr) (p1 p2 p3 : Nat), e = .returned (bkVal b A1 A2 A3 p1 p2 p3) ∧ OwB w' B b A1 A2 A3 p1 p2 p3 ∧ Below B w w' ∧ Fr [44, 46, 49] w w'
theorem TakeP.mk {w W : World} {B R : Nat} {b : Bk} {A1 A2 A3 : Option Addr} {p1 p2 p3 : Nat} {cs : Array Value} (hO : OwB W B b A1 A2 A3 p1 p2 p3) (hR : W.heap[R]? = some (.cells cs 27 (0, 0))) (hRn : w.heap.size ≤ R) (hBR : B ≤ R) (hB : Below B w W) (hF : Fr [44, 46, 49] w W) (u0 u1 u2 u3 u4 u5 : Value) :
    TakeP w B b (.returned (.agg #[.int .i64 b.t, .int .i64 b.n, .int .i64 b.w, .slice A1 b.cs.length p1, .slice A2 b.hs.length p2, .slice A3 b.os.length p3])) ((((((W.setCell ⟨R, 0, none⟩ u0).setCell ⟨R, 1, none⟩ u1).setCell ⟨R, 2, none⟩ u2).setCell ⟨R, 3, none⟩ u3).setCell ⟨R, 4, none⟩ u4).setCell ⟨R, 5, none⟩ u5) := by
  have hg := grown_set (grown_set (grown_set (grown_set (grown_set (grown_set (World.grownBy.refl W (some R)) 0 u0) 1 u1) 2 u2) 3 u3) 4 u4) 5 u5
  refine ⟨A1, A2, A3, p1, p2, p3, rfl, ⟨hO.c.grown hg (Or.inr (hO.c.ne_ hR (by decide)).symm), hO.h.grown hg (Or.inr (hO.h.ne_ hR (by decide)).symm), hO.o.grown hg (Or.inr (hO.o.ne_ hR (by decide)).symm)⟩, ?_, ?_⟩
  · exact below_setB (below_setB (below_setB (below_setB (below_setB (below_setB hB hBR _) hBR _) hBR _) hBR _) hBR _) hBR _
  · exact (((((hF.setNew hRn _).setNew hRn _).setNew hRn _).setNew hRn _).setNew hRn _).setNew hRn _
theorem below_undrewS {B : Nat} {a w' : World} (h : Below B a.drew w') : Below B a w' := ⟨h.os, h.tape, h.output, h.size, h.block⟩
end Go.Proofs.YtcjbjpobpefehaaGreatDoor

namespace Go.Proofs.YtcjbjpobpefehaaGreatDoor
open Go.RowKit Go.Deep

set_option maxRecDepth 100000 in
set_option maxHeartbeats 4000000 in
theorem s_l21Take_book (B : Nat) (b : Bk) (A1 A2 A3 : Option Addr) (p1 p2 p3 : Nat) (P : List (List UInt8)) (A : Option Addr) (cap : Nat) (w : World) (hr : Rd w w.heap.size 1 A (P.map strC)) (hO : OwB w B b A1 A2 A3 p1 p2 p3) (hB : B ≤ w.heap.size) (hlb : P.length ≤ 1048577 ∧ b.cs.length ≤ 1000 ∧ b.hs.length ≤ 1000 ∧ b.os.length ≤ 1000) (l : List (List UInt8)) (hP : P = bookW :: l) :
    Calls Tryz.prog 30 #[bkVal b A1 A2 A3 p1 p2 p3, .slice A P.length cap] w (TakeP w B (takeS b P)) := by
  have hl := hlb.1
  have hlb1 := hlb.2.1
  have hlb2 := hlb.2.2.1
  have hlb3 := hlb.2.2.2
  clear hlb
  have h0 : 0 < P.length := by rw [hP]; simp
  have hP0 : P[0] = bookW := by simp [hP]
  have HH := Lib.hid (show P.headD [] = bookW by rw [hP]; rfl)
  obtain ⟨b0, off0, rfl, hbB, c0⟩ := strs_rd hr h0
  rw [hP0] at c0
  simp only [Nat.add_zero] at c0
  have HR := Lib.hid hr
  have HO := Lib.hid hO
  have e0l : (⟨bookW.toArray⟩ : ByteArray) = ⟨#[98, 111, 111, 107]⟩ := rfl
  rw [e0l] at c0
  clear e0l
  clear hP0 hP hr hO
  unfold bkVal
  go_enter Tryz.func30, Tryz.ntmps30
  go_wp2_with fail
  obtain ⟨X, hX⟩ : ∃ X, X = w.heap.size := ⟨_, rfl⟩
  obtain ⟨B0, hB0⟩ : ∃ B0, B0 = w.heap.size := ⟨_, rfl⟩
  obtain ⟨wa, hwa⟩ : ∃ wa, ((w.alloc (.cells #[.int .i64 b.t, .int .i64 b.n, .int .i64 b.w, .slice A1 b.cs.length p1, .slice A2 b.hs.length p2, .slice A3 b.os.length p3] 27)).alloc (.cells #[.int .i64 0, .int .i64 0, .int .i64 0, .slice none 0 0, .slice none 0 0, .slice none 0 0] 27)) = wa := ⟨_, rfl⟩
  have HX_wa : Hid (BoxB wa X b A1 A2 A3 p1 p2 p3) := Lib.hid (by rw [← hwa, hX]; exact heap_past (by simp) (heap_at rfl))
  have HR_wa : Hid (wa.heap[X + 1]? = some (.cells #[.int .i64 0, .int .i64 0, .int .i64 0, .slice none 0 0, .slice none 0 0, .slice none 0 0] 27 (0, 0))) := Lib.hid (by rw [← hwa, hX]; exact heap_at (by simp))
  have HO_wa : Hid (OwB wa B b A1 A2 A3 p1 p2 p3) := Lib.hid (by rw [← hwa]; exact (HO.out.alloc _).alloc _)
  have HB_wa : Hid (Below B w wa) := Lib.hid (by rw [← hwa]; exact (((Below.refl _ _).alloc hB _).alloc (by simp; omega) _))
  have HF_wa : Hid (Fr [44, 46, 49] w wa) := Lib.hid (by rw [← hwa]; exact ((Fr.refl _ _).alloc _).alloc _)
  have HP_wa : Hid (Rd wa B0 1 (some ⟨b0, off0, none⟩) (P.map strC)) := Lib.hid (by rw [← hwa, hB0]; exact (HR.out.below (((Below.refl _ _).alloc (Nat.le_refl _) _).alloc (by simp) _)))
  have hz_wa : X + 2 ≤ wa.heap.size := by rw [← hwa, hX]; simp
  rw [hwa, ← hX]
  have hXw : w.heap.size ≤ X := by omega
  have hBX : B ≤ X := by omega
  have hB0X : B0 ≤ X := by omega
  have c0 : wa.cell? ⟨b0, off0, none⟩ = some (Value.string ⟨#[98, 111, 111, 107]⟩) := by rw [← hwa]; exact cell_past (by show b0 < _; simp; omega) (cell_past hbB c0)
  clear hwa hX hB0 HO HR c0
  refine (s_l21Num P _ cap 1 1 rfl _ (by decide) (HP_wa.out.more (by first | omega | (simp; omega)))).mono ?_
  rintro e w1 ⟨rfl, hb_w1⟩
  obtain ⟨z1, hz1⟩ : ∃ z, numIx P 1 = z := ⟨_, rfl⟩
  rw [hz1]
  have HZ1 := Lib.hid hz1
  have zz_w1 := hb_w1.size
  have HX_w1 : Hid (BoxB w1 X b A1 A2 A3 p1 p2 p3) := Lib.hid (heap_below hb_w1 (by omega) HX_wa.out)
  have HR_w1 : Hid (w1.heap[X + 1]? = some (.cells #[.int .i64 0, .int .i64 0, .int .i64 0, .slice none 0 0, .slice none 0 0, .slice none 0 0] 27 (0, 0))) := Lib.hid (heap_below hb_w1 (by omega) HR_wa.out)
  have HO_w1 : Hid (OwB w1 B b A1 A2 A3 p1 p2 p3) := Lib.hid (HO_wa.out.below hb_w1)
  have HB_w1 : Hid (Below B w w1) := Lib.hid (HB_wa.out.trans (hb_w1.mono (by omega)))
  have HF_w1 : Hid (Fr [44, 46, 49] w w1) := Lib.hid (HF_wa.out.below hb_w1)
  have HP_w1 : Hid (Rd w1 B0 1 (some ⟨b0, off0, none⟩) (P.map strC)) := Lib.hid (HP_wa.out.below (hb_w1.mono (by omega)))
  have hz_w1 : X + 2 ≤ w1.heap.size := by omega
  clear hb_w1 hz1 zz_w1
  clear HX_wa HR_wa HO_wa HB_wa HF_wa HP_wa hz_wa
  obtain ⟨_, a0, a1, a2, a3, a4, a5, af, az⟩ := own6 (g := X) (Below.refl _ w1) (by omega) HX_w1.out
  obtain ⟨_, r0, r1, r2, r3, r4, r5, rf, rz⟩ := own6 (g := X + 1) (Below.refl _ w1) (by omega) HR_w1.out
  obtain ⟨v1, hv⟩ : ∃ v, w1.setCell ⟨X, 0, none⟩ (.int .i64 z1) = v := ⟨_, rfl⟩
  have HX_v1 : Hid (BoxB v1 X ⟨z1, b.n, b.w, b.cs, b.hs, b.os⟩ A1 A2 A3 p1 p2 p3) := Lib.hid (by rw [← hv]; exact (six_set HX_w1.out _).1)
  have HR_v1 : Hid (v1.heap[X + 1]? = some (.cells #[.int .i64 0, .int .i64 0, .int .i64 0, .slice none 0 0, .slice none 0 0, .slice none 0 0] 27 (0, 0))) := Lib.hid (by rw [← hv]; exact heap_far' (by omega) HR_w1.out)
  have HO_v1 : Hid (OwB v1 B ⟨z1, b.n, b.w, b.cs, b.hs, b.os⟩ A1 A2 A3 p1 p2 p3) := Lib.hid (by rw [← hv]; exact ⟨HO_w1.out.c.aside HX_w1.out (by decide) _, HO_w1.out.h.aside HX_w1.out (by decide) _, HO_w1.out.o.aside HX_w1.out (by decide) _⟩)
  have HB_v1 : Hid (Below B w v1) := Lib.hid (by rw [← hv]; exact below_setB HB_w1.out hBX _)
  have HF_v1 : Hid (Fr [44, 46, 49] w v1) := Lib.hid (by rw [← hv]; exact HF_w1.out.setNew hXw _)
  have HP_v1 : Hid (Rd v1 B0 1 (some ⟨b0, off0, none⟩) (P.map strC)) := Lib.hid (by rw [← hv]; exact HP_w1.out.below (below_setB (Below.refl _ _) hB0X _))
  have hz_v1 : X + 2 ≤ v1.heap.size := by rw [← hv]; simpa [World.setCell] using hz_w1
  go_wp2_with fail
  clear hv a0 a1 a2 a3 a4 a5 af az r0 r1 r2 r3 r4 r5 rf rz
  clear HX_w1 HR_w1 HO_w1 HB_w1 HF_w1 HP_w1 hz_w1
  refine (s_l21Num P _ cap 2 2 rfl _ (by decide) (HP_v1.out.more (by first | omega | (simp; omega)))).mono ?_
  rintro e w2 ⟨rfl, hb_w2⟩
  obtain ⟨z2, hz2⟩ : ∃ z, numIx P 2 = z := ⟨_, rfl⟩
  rw [hz2]
  have HZ2 := Lib.hid hz2
  have zz_w2 := hb_w2.size
  have HX_w2 : Hid (BoxB w2 X ⟨z1, b.n, b.w, b.cs, b.hs, b.os⟩ A1 A2 A3 p1 p2 p3) := Lib.hid (heap_below hb_w2 (by omega) HX_v1.out)
  have HR_w2 : Hid (w2.heap[X + 1]? = some (.cells #[.int .i64 0, .int .i64 0, .int .i64 0, .slice none 0 0, .slice none 0 0, .slice none 0 0] 27 (0, 0))) := Lib.hid (heap_below hb_w2 (by omega) HR_v1.out)
  have HO_w2 : Hid (OwB w2 B ⟨z1, b.n, b.w, b.cs, b.hs, b.os⟩ A1 A2 A3 p1 p2 p3) := Lib.hid (HO_v1.out.below hb_w2)
  have HB_w2 : Hid (Below B w w2) := Lib.hid (HB_v1.out.trans (hb_w2.mono (by omega)))
  have HF_w2 : Hid (Fr [44, 46, 49] w w2) := Lib.hid (HF_v1.out.below hb_w2)
  have HP_w2 : Hid (Rd w2 B0 1 (some ⟨b0, off0, none⟩) (P.map strC)) := Lib.hid (HP_v1.out.below (hb_w2.mono (by omega)))
  have hz_w2 : X + 2 ≤ w2.heap.size := by omega
  clear hb_w2 hz2 zz_w2
  clear HX_v1 HR_v1 HO_v1 HB_v1 HF_v1 HP_v1 hz_v1
  obtain ⟨_, a0, a1, a2, a3, a4, a5, af, az⟩ := own6 (g := X) (Below.refl _ w2) (by omega) HX_w2.out
  obtain ⟨_, r0, r1, r2, r3, r4, r5, rf, rz⟩ := own6 (g := X + 1) (Below.refl _ w2) (by omega) HR_w2.out
  obtain ⟨v2, hv⟩ : ∃ v, w2.setCell ⟨X, 1, none⟩ (.int .i64 z2) = v := ⟨_, rfl⟩
  have HX_v2 : Hid (BoxB v2 X ⟨z1, z2, b.w, b.cs, b.hs, b.os⟩ A1 A2 A3 p1 p2 p3) := Lib.hid (by rw [← hv]; exact (six_set HX_w2.out _).2.1)
  have HR_v2 : Hid (v2.heap[X + 1]? = some (.cells #[.int .i64 0, .int .i64 0, .int .i64 0, .slice none 0 0, .slice none 0 0, .slice none 0 0] 27 (0, 0))) := Lib.hid (by rw [← hv]; exact heap_far' (by omega) HR_w2.out)
  have HO_v2 : Hid (OwB v2 B ⟨z1, z2, b.w, b.cs, b.hs, b.os⟩ A1 A2 A3 p1 p2 p3) := Lib.hid (by rw [← hv]; exact ⟨HO_w2.out.c.aside HX_w2.out (by decide) _, HO_w2.out.h.aside HX_w2.out (by decide) _, HO_w2.out.o.aside HX_w2.out (by decide) _⟩)
  have HB_v2 : Hid (Below B w v2) := Lib.hid (by rw [← hv]; exact below_setB HB_w2.out hBX _)
  have HF_v2 : Hid (Fr [44, 46, 49] w v2) := Lib.hid (by rw [← hv]; exact HF_w2.out.setNew hXw _)
  have HP_v2 : Hid (Rd v2 B0 1 (some ⟨b0, off0, none⟩) (P.map strC)) := Lib.hid (by rw [← hv]; exact HP_w2.out.below (below_setB (Below.refl _ _) hB0X _))
  have hz_v2 : X + 2 ≤ v2.heap.size := by rw [← hv]; simpa [World.setCell] using hz_w2
  go_wp2_with fail
  clear hv a0 a1 a2 a3 a4 a5 af az r0 r1 r2 r3 r4 r5 rf rz
  clear HX_w2 HR_w2 HO_w2 HB_w2 HF_w2 HP_w2 hz_w2
  refine (s_l21Num P _ cap 3 3 rfl _ (by decide) (HP_v2.out.more (by first | omega | (simp; omega)))).mono ?_
  rintro e w3 ⟨rfl, hb_w3⟩
  obtain ⟨z3, hz3⟩ : ∃ z, numIx P 3 = z := ⟨_, rfl⟩
  rw [hz3]
  have HZ3 := Lib.hid hz3
  have zz_w3 := hb_w3.size
  have HX_w3 : Hid (BoxB w3 X ⟨z1, z2, b.w, b.cs, b.hs, b.os⟩ A1 A2 A3 p1 p2 p3) := Lib.hid (heap_below hb_w3 (by omega) HX_v2.out)
  have HR_w3 : Hid (w3.heap[X + 1]? = some (.cells #[.int .i64 0, .int .i64 0, .int .i64 0, .slice none 0 0, .slice none 0 0, .slice none 0 0] 27 (0, 0))) := Lib.hid (heap_below hb_w3 (by omega) HR_v2.out)
  have HO_w3 : Hid (OwB w3 B ⟨z1, z2, b.w, b.cs, b.hs, b.os⟩ A1 A2 A3 p1 p2 p3) := Lib.hid (HO_v2.out.below hb_w3)
  have HB_w3 : Hid (Below B w w3) := Lib.hid (HB_v2.out.trans (hb_w3.mono (by omega)))
  have HF_w3 : Hid (Fr [44, 46, 49] w w3) := Lib.hid (HF_v2.out.below hb_w3)
  have HP_w3 : Hid (Rd w3 B0 1 (some ⟨b0, off0, none⟩) (P.map strC)) := Lib.hid (HP_v2.out.below (hb_w3.mono (by omega)))
  have hz_w3 : X + 2 ≤ w3.heap.size := by omega
  clear hb_w3 hz3 zz_w3
  clear HX_v2 HR_v2 HO_v2 HB_v2 HF_v2 HP_v2 hz_v2
  obtain ⟨_, a0, a1, a2, a3, a4, a5, af, az⟩ := own6 (g := X) (Below.refl _ w3) (by omega) HX_w3.out
  obtain ⟨_, r0, r1, r2, r3, r4, r5, rf, rz⟩ := own6 (g := X + 1) (Below.refl _ w3) (by omega) HR_w3.out
  obtain ⟨v3, hv3⟩ : ∃ v, w3.setCell ⟨X, 2, none⟩ (.int .i64 z3) = v := ⟨_, rfl⟩
  have HX_v3 : Hid (BoxB v3 X ⟨z1, z2, z3, b.cs, b.hs, b.os⟩ A1 A2 A3 p1 p2 p3) := Lib.hid (by rw [← hv3]; exact (six_set HX_w3.out _).2.2.1)
  have HR_v3 : Hid (v3.heap[X + 1]? = some (.cells #[.int .i64 0, .int .i64 0, .int .i64 0, .slice none 0 0, .slice none 0 0, .slice none 0 0] 27 (0, 0))) := Lib.hid (by rw [← hv3]; exact heap_far' (by omega) HR_w3.out)
  have HO_v3 : Hid (OwB v3 B ⟨z1, z2, z3, b.cs, b.hs, b.os⟩ A1 A2 A3 p1 p2 p3) := Lib.hid (by rw [← hv3]; exact ⟨HO_w3.out.c.aside HX_w3.out (by decide) _, HO_w3.out.h.aside HX_w3.out (by decide) _, HO_w3.out.o.aside HX_w3.out (by decide) _⟩)
  have HB_v3 : Hid (Below B w v3) := Lib.hid (by rw [← hv3]; exact below_setB HB_w3.out hBX _)
  have HF_v3 : Hid (Fr [44, 46, 49] w v3) := Lib.hid (by rw [← hv3]; exact HF_w3.out.setNew hXw _)
  have HP_v3 : Hid (Rd v3 B0 1 (some ⟨b0, off0, none⟩) (P.map strC)) := Lib.hid (by rw [← hv3]; exact HP_w3.out.below (below_setB (Below.refl _ _) hB0X _))
  have hz_v3 : X + 2 ≤ v3.heap.size := by rw [← hv3]; simpa [World.setCell] using hz_w3
  have HT := Lib.hid (show takeS b P = ⟨z1, z2, z3, b.cs, b.hs, b.os⟩ by
    unfold takeS
    rw [HH.out, if_pos rfl, HZ1.out, HZ2.out, HZ3.out])
  obtain ⟨_, d0, d1, d2, d3, d4, d5, df, dz⟩ := own6 (g := X) (Below.refl _ v3) (by omega) HX_v3.out
  obtain ⟨_, e0, e1, e2, e3, e4, e5, ef, ez⟩ := own6 (g := X + 1) (Below.refl _ v3) (by omega) HR_v3.out
  go_wp2_with fail
  refine bodyPost_ret (v := .agg #[.int .i64 z1, .int .i64 z2, .int .i64 z3, .slice A1 b.cs.length p1, .slice A2 b.hs.length p2, .slice A3 b.os.length p3]) (by simp [results, Tryz.results30, go_sem, *]) rfl ?_
  rw [HT.out]
  exact TakeP.mk HO_v3.out HR_v3.out (by omega) (by omega) HB_v3.out HF_v3.out _ _ _ _ _ _
end Go.Proofs.YtcjbjpobpefehaaGreatDoor

namespace Go.Proofs.YtcjbjpobpefehaaGreatDoor
open Go.RowKit Go.Deep

set_option maxRecDepth 100000 in
set_option maxHeartbeats 4000000 in
theorem s_l21Take_other (B : Nat) (b : Bk) (A1 A2 A3 : Option Addr) (p1 p2 p3 : Nat) (P : List (List UInt8)) (A : Option Addr) (cap : Nat) (w : World) (hr : Rd w w.heap.size 1 A (P.map strC)) (hO : OwB w B b A1 A2 A3 p1 p2 p3) (hB : B ≤ w.heap.size) (hlb : P.length ≤ 1048577 ∧ b.cs.length ≤ 1000 ∧ b.hs.length ≤ 1000 ∧ b.os.length ≤ 1000) (h : List UInt8) (l : List (List UInt8)) (hP : P = h :: l) (nbook : h ≠ bookW) (nchan : h ≠ chanW) (nhtlc : h ≠ htlcW) (ncirc : h ≠ circW) :
    Calls Tryz.prog 30 #[bkVal b A1 A2 A3 p1 p2 p3, .slice A P.length cap] w (TakeP w B (takeS b P)) := by
  have hl := hlb.1
  have hlb1 := hlb.2.1
  have hlb2 := hlb.2.2.1
  have hlb3 := hlb.2.2.2
  clear hlb
  have h0 : 0 < P.length := by rw [hP]; simp
  have hP0 : P[0] = h := by simp [hP]
  have HH := Lib.hid (show P.headD [] = h by rw [hP]; rfl)
  obtain ⟨b0, off0, rfl, hbB, c0⟩ := strs_rd hr h0
  rw [hP0] at c0
  simp only [Nat.add_zero] at c0
  have HR := Lib.hid hr
  have HO := Lib.hid hO
  obtain ⟨x0, hx0', hx0⟩ := str_of h
  rw [hx0'] at c0
  have qbook : ¬ x0.toList = [98, 111, 111, 107] := fun e => nbook (hx0.out.data.symm.trans ((Lib.toList_data x0).symm.trans e))
  have qbbook : (x0.toList == [98, 111, 111, 107]) = false := beq_eq_false_iff_ne.2 qbook
  have qchan : ¬ x0.toList = [99, 104, 97, 110] := fun e => nchan (hx0.out.data.symm.trans ((Lib.toList_data x0).symm.trans e))
  have qbchan : (x0.toList == [99, 104, 97, 110]) = false := beq_eq_false_iff_ne.2 qchan
  have qhtlc : ¬ x0.toList = [104, 116, 108, 99] := fun e => nhtlc (hx0.out.data.symm.trans ((Lib.toList_data x0).symm.trans e))
  have qbhtlc : (x0.toList == [104, 116, 108, 99]) = false := beq_eq_false_iff_ne.2 qhtlc
  have qcirc : ¬ x0.toList = [99, 105, 114, 99, 108, 101] := fun e => ncirc (hx0.out.data.symm.trans ((Lib.toList_data x0).symm.trans e))
  have qbcirc : (x0.toList == [99, 105, 114, 99, 108, 101]) = false := beq_eq_false_iff_ne.2 qcirc
  clear hx0'
  clear hP0 hP hr hO
  unfold bkVal
  go_enter Tryz.func30, Tryz.ntmps30
  go_wp2_with fail
  have HT := Lib.hid (show takeS b P = b by
    unfold takeS
    rw [HH.out]
    simp [nbook, nchan, nhtlc, ncirc])
  refine bodyPost_ret (v := .agg #[.int .i64 b.t, .int .i64 b.n, .int .i64 b.w, .slice A1 b.cs.length p1, .slice A2 b.hs.length p2, .slice A3 b.os.length p3]) (by simp [results, Tryz.results30, go_sem, *]) rfl ?_
  rw [HT.out]
  exact ⟨A1, A2, A3, p1, p2, p3, rfl, (HO.out.alloc _).alloc _, ((Below.refl _ _).alloc hB _).alloc (by simp; omega) _, ((Fr.refl _ _).alloc _).alloc _⟩
end Go.Proofs.YtcjbjpobpefehaaGreatDoor
