/- One posting posted, postings posted, an account's balance: the program's walks. -/
import Derived.Test.YtplchgkppkibnaaRows
import Derived.Test.YtplchgkppkibnaaMrg
import Derived.Test.YtplchgkppkibnaaLed
import Derived.Test.YtplchgkppkibnaaRev
import Derived.Test.YtplchgkppkibnaaPst
import Derived.Test.YtplchgkppkibnaaAccEq
namespace Go.Proofs.Ytplchgkppkibnaa
open Go.RowKit

theorem postCode_1 {z pz : Int} {l pl : List Line} (h : ledgerB z l = false ∨ postingB pz pl = false) : postCode z l pz pl = 1 ∧ postL z l pz pl = [] ∧ postZ z l pz pl = 0 := by
  have h1 : postCode z l pz pl = 1 := by
    unfold postCode
    rw [if_neg]
    rintro ⟨h1, h2⟩
    rcases h with h | h
    · rw [h1] at h; cases h
    · rw [h2] at h; cases h
  exact ⟨h1, by unfold postL; rw [if_neg (by rw [h1]; decide)], by unfold postZ; rw [if_neg (by rw [h1]; decide)]⟩
theorem postCode_2 {z pz : Int} {l pl : List Line} (h1 : ledgerB z l = true) (h2 : postingB pz pl = true) (h3 : pz ≤ z) : postCode z l pz pl = 2 ∧ postL z l pz pl = [] ∧ postZ z l pz pl = 0 := by
  have h : postCode z l pz pl = 2 := by unfold postCode; rw [if_pos ⟨h1, h2⟩, if_pos h3]
  exact ⟨h, by unfold postL; rw [if_neg (by rw [h]; decide)], by unfold postZ; rw [if_neg (by rw [h]; decide)]⟩
theorem postCode_3 {z pz : Int} {l pl : List Line} (h1 : ledgerB z l = true) (h2 : postingB pz pl = true) (h3 : ¬ pz ≤ z) (h4 : mergeF l pl = none ∨ ∃ r, mergeF l pl = some r ∧ 320 < r.length) : postCode z l pz pl = 3 ∧ postL z l pz pl = [] ∧ postZ z l pz pl = 0 := by
  have h : postCode z l pz pl = 3 := by
    unfold postCode
    rw [if_pos ⟨h1, h2⟩, if_neg h3]
    rcases h4 with h4 | ⟨r, h4, h5⟩
    · rw [h4]
    · rw [h4]; simp only; rw [if_pos h5]
  exact ⟨h, by unfold postL; rw [if_neg (by rw [h]; decide)], by unfold postZ; rw [if_neg (by rw [h]; decide)]⟩
theorem postCode_0 {z pz : Int} {l pl r : List Line} (h1 : ledgerB z l = true) (h2 : postingB pz pl = true) (h3 : ¬ pz ≤ z) (h4 : mergeF l pl = some r) (h5 : r.length ≤ 320) : postCode z l pz pl = 0 ∧ postL z l pz pl = r ∧ postZ z l pz pl = pz := by
  have h : postCode z l pz pl = 0 := by
    unfold postCode
    rw [if_pos ⟨h1, h2⟩, if_neg h3, h4]
    simp only
    rw [if_neg (by omega)]
  exact ⟨h, by unfold postL; rw [if_pos h, h4]; rfl, by unfold postZ; rw [if_pos h]⟩
theorem Ow.cap_ {w : World} {B size cap : Nat} {e : TypeId} {A : Option Addr} {rows : List (List Value)} {n : Nat} (h : Ow w B e size (.slice A n cap) rows) : rows.length ≤ cap := by
  obtain ⟨_, _, hv, _, hc, _⟩ := h.form
  injection hv with _ _ h3
  rw [h3]
  exact hc
def LedP (w : World) (z : Int) (l : List Line) (c : Int) (e : Ending) (w' : World) : Prop :=
  ∃ A cap, e = .returned (.tuple #[.agg #[.int .i64 z, .slice A l.length cap], .int .i64 c]) ∧ l.length ≤ cap ∧ Ow w' w.heap.size 97 3 (.slice A l.length cap) (l.map Line.cells) ∧ Below w.heap.size w w'
theorem two_selfP {W : World} {R : Nat} {a b x y : Value} {t : TypeId} (hr : W.heap[R]? = some (.cells #[x, y] t (0, 0))) :
    (W.setCell ⟨R, 0, none⟩ a).cell? ⟨R, 0, none⟩ = some a ∧ ((W.setCell ⟨R, 0, none⟩ a).setCell ⟨R, 1, none⟩ b).cell? ⟨R, 1, none⟩ = some b := by
  have h1 : (W.setCell ⟨R, 0, none⟩ a).heap[R]? = some (.cells #[a, y] t (0, 0)) := heap_set hr
  have h2 : ((W.setCell ⟨R, 0, none⟩ a).setCell ⟨R, 1, none⟩ b).heap[R]? = some (.cells #[a, b] t (0, 0)) := heap_set h1
  exact ⟨blk_cell h1 0, blk_cell h2 1⟩
set_option maxRecDepth 100000 in
set_option maxHeartbeats 2000000 in
theorem i_Post (z : Int) (l : List Line) (A : Option Addr) (ca : Nat) (pz : Int) (pl : List Line) (B : Option Addr) (cb : Nat) (w : World) (hl : l.length ≤ 1048576) (hpl : pl.length ≤ 1048576) (hca : l.length ≤ ca) (hcb : pl.length ≤ cb)
    (hra : Rd w w.heap.size 3 A (l.map Line.cells)) (hrb : Rd w w.heap.size 3 B (pl.map Line.cells)) :
    Calls Try.prog 86 #[.agg #[.int .i64 z, .slice A l.length ca], .agg #[.int .i64 pz, .slice B pl.length cb]] w (LedP w (postZ z l pz pl) (postL z l pz pl) (postCode z l pz pl)) := by
  have HRA := Lib.hid hra
  have HRB := Lib.hid hrb
  clear hra hrb
  have zero : ∀ (c : Int) (W : World), W.heap[w.heap.size + 2]? = some (.cells #[.int .i64 0, .slice none 0 0] 49 (0, 0)) → Below w.heap.size w W →
      LedP w 0 [] c (.returned (.tuple #[.agg #[.int .i64 0, .slice none 0 0], .int .i64 c])) ((W.setCell ⟨w.heap.size + 2, 0, none⟩ (.int .i64 0)).setCell ⟨w.heap.size + 2, 1, none⟩ (.slice none 0 0)) :=
    fun c W h hb => ⟨none, 0, rfl, Nat.le_refl _, Ow.nil_, (hb.setCell (by simp) _).setCell (by simp) _⟩
  have ZERO := Lib.hid zero
  clear zero
  cases h1 : ledgerB z l
  · obtain ⟨e1, e2, e3⟩ := postCode_1 (pz := pz) (pl := pl) (.inl h1)
    rw [e1, e2, e3]
    have H1 := Lib.hid h1
    clear h1 e1 e2 e3
    go_enter Try.func86, Try.ntmps86
    go_wp2_with fail
    refine (i_LedgerOk z l _ _ _ hl ((HRA.out.below (by (first | ((repeat' first | (with_reducible (first | exact Below.refl _ _ | assumption | refine Below.setCell ?_ ?_ _ | refine Below.alloc ?_ ?_ _ | refine Below.drew ?_ | refine below_drewN ?_ _ | refine Below.trans ?_ (Below.mono (by assumption) ?_))) | omega | (simp; omega) | (simp; done)); done) | (repeat' first | exact Below.refl _ _ | assumption | refine Below.setCell ?_ (by first | omega | (simp; omega) | (simp; done)) _ | refine Below.alloc ?_ (by first | omega | (simp; omega) | (simp; done)) _ | refine Below.drew ?_ | refine below_drewN ?_ _ | refine Below.trans ?_ (Below.mono (by assumption) (by first | omega | (simp; omega) | (simp; done))))))).more (by first | omega | (simp; omega) | (simp; done)))).mono ?_
    rintro e w1 ⟨rfl, hb1⟩
    have z1 := hb1.size
    try simp at z1
    rw [H1.out]
    obtain ⟨rh, r0, r1, rf, rz⟩ := own2 (g := w.heap.size + 2) hb1 (by first | omega | (simp; omega) | (simp; done)) (by (first | ((repeat' first | (with_reducible (first | assumption | (refine heap_at ?_; (first | rfl | (simp; done))) | refine heap_drew ?_ | refine heap_drewN ?_ | refine heap_past ?_ ?_ | refine heap_far ?_ ?_)) | (simp; done) | (simp; omega)); done) | (repeat' first | assumption | (refine heap_at ?_; (simp; done)) | refine heap_drew ?_ | refine heap_drewN ?_ | (refine heap_past ?_ ?_ <;> try (simp; done)) | (refine heap_far ?_ ?_ <;> try (simp; done)))))
    go_wp2_with fail
    obtain ⟨s0, s1⟩ := two_selfP (a := .int .i64 0) (b := .slice none 0 0) rh
    exact bodyPost_ret (v := .tuple #[.agg #[.int .i64 0, .slice none 0 0], .int .i64 1]) (by simp [results, Try.results86, go_sem, s0, s1]) rfl (ZERO.out 1 _ rh (by (first | ((repeat' first | (with_reducible (first | exact Below.refl _ _ | assumption | refine Below.setCell ?_ ?_ _ | refine Below.alloc ?_ ?_ _ | refine Below.drew ?_ | refine below_drewN ?_ _ | refine Below.trans ?_ (Below.mono (by assumption) ?_))) | omega | (simp; omega) | (simp; done)); done) | (repeat' first | exact Below.refl _ _ | assumption | refine Below.setCell ?_ (by first | omega | (simp; omega) | (simp; done)) _ | refine Below.alloc ?_ (by first | omega | (simp; omega) | (simp; done)) _ | refine Below.drew ?_ | refine below_drewN ?_ _ | refine Below.trans ?_ (Below.mono (by assumption) (by first | omega | (simp; omega) | (simp; done)))))))
  · cases h2 : postingB pz pl
    · obtain ⟨e1, e2, e3⟩ := postCode_1 (z := z) (l := l) (.inr h2)
      rw [e1, e2, e3]
      have H1 := Lib.hid h1
      have H2 := Lib.hid h2
      clear h1 h2 e1 e2 e3
      go_enter Try.func86, Try.ntmps86
      go_wp2_with fail
      refine (i_LedgerOk z l _ _ _ hl ((HRA.out.below (by (first | ((repeat' first | (with_reducible (first | exact Below.refl _ _ | assumption | refine Below.setCell ?_ ?_ _ | refine Below.alloc ?_ ?_ _ | refine Below.drew ?_ | refine below_drewN ?_ _ | refine Below.trans ?_ (Below.mono (by assumption) ?_))) | omega | (simp; omega) | (simp; done)); done) | (repeat' first | exact Below.refl _ _ | assumption | refine Below.setCell ?_ (by first | omega | (simp; omega) | (simp; done)) _ | refine Below.alloc ?_ (by first | omega | (simp; omega) | (simp; done)) _ | refine Below.drew ?_ | refine below_drewN ?_ _ | refine Below.trans ?_ (Below.mono (by assumption) (by first | omega | (simp; omega) | (simp; done))))))).more (by first | omega | (simp; omega) | (simp; done)))).mono ?_
      rintro e w1 ⟨rfl, hb1⟩
      have z1 := hb1.size
      try simp at z1
      rw [H1.out]
      obtain ⟨ph, p0, p1, pf, pzz⟩ := own2 (g := w.heap.size + 1) hb1 (by first | omega | (simp; omega) | (simp; done)) (by (first | ((repeat' first | (with_reducible (first | assumption | (refine heap_at ?_; (first | rfl | (simp; done))) | refine heap_drew ?_ | refine heap_drewN ?_ | refine heap_past ?_ ?_ | refine heap_far ?_ ?_)) | (simp; done) | (simp; omega)); done) | (repeat' first | assumption | (refine heap_at ?_; (simp; done)) | refine heap_drew ?_ | refine heap_drewN ?_ | (refine heap_past ?_ ?_ <;> try (simp; done)) | (refine heap_far ?_ ?_ <;> try (simp; done)))))
      obtain ⟨rh, r0, r1, rf, rz⟩ := own2 (g := w.heap.size + 2) hb1 (by first | omega | (simp; omega) | (simp; done)) (by (first | ((repeat' first | (with_reducible (first | assumption | (refine heap_at ?_; (first | rfl | (simp; done))) | refine heap_drew ?_ | refine heap_drewN ?_ | refine heap_past ?_ ?_ | refine heap_far ?_ ?_)) | (simp; done) | (simp; omega)); done) | (repeat' first | assumption | (refine heap_at ?_; (simp; done)) | refine heap_drew ?_ | refine heap_drewN ?_ | (refine heap_past ?_ ?_ <;> try (simp; done)) | (refine heap_far ?_ ?_ <;> try (simp; done)))))
      go_wp2_with fail
      refine (i_PostingOk pz pl _ _ _ hpl ((HRB.out.below (by (first | ((repeat' first | (with_reducible (first | exact Below.refl _ _ | assumption | refine Below.setCell ?_ ?_ _ | refine Below.alloc ?_ ?_ _ | refine Below.drew ?_ | refine below_drewN ?_ _ | refine Below.trans ?_ (Below.mono (by assumption) ?_))) | omega | (simp; omega) | (simp; done)); done) | (repeat' first | exact Below.refl _ _ | assumption | refine Below.setCell ?_ (by first | omega | (simp; omega) | (simp; done)) _ | refine Below.alloc ?_ (by first | omega | (simp; omega) | (simp; done)) _ | refine Below.drew ?_ | refine below_drewN ?_ _ | refine Below.trans ?_ (Below.mono (by assumption) (by first | omega | (simp; omega) | (simp; done))))))).more (by first | omega | (simp; omega) | (simp; done)))).mono ?_
      rintro e w2 ⟨rfl, hb2⟩
      have z2 := hb2.size
      try simp at z2
      rw [H2.out]
      obtain ⟨sh, t0, t1, tf, tz⟩ := own2 hb2 rz rh
      go_wp2_with fail
      obtain ⟨s0, s1⟩ := two_selfP (a := .int .i64 0) (b := .slice none 0 0) sh
      exact bodyPost_ret (v := .tuple #[.agg #[.int .i64 0, .slice none 0 0], .int .i64 1]) (by simp [results, Try.results86, go_sem, s0, s1]) rfl (ZERO.out 1 _ sh (by (first | ((repeat' first | (with_reducible (first | exact Below.refl _ _ | assumption | refine Below.setCell ?_ ?_ _ | refine Below.alloc ?_ ?_ _ | refine Below.drew ?_ | refine below_drewN ?_ _ | refine Below.trans ?_ (Below.mono (by assumption) ?_))) | omega | (simp; omega) | (simp; done)); done) | (repeat' first | exact Below.refl _ _ | assumption | refine Below.setCell ?_ (by first | omega | (simp; omega) | (simp; done)) _ | refine Below.alloc ?_ (by first | omega | (simp; omega) | (simp; done)) _ | refine Below.drew ?_ | refine below_drewN ?_ _ | refine Below.trans ?_ (Below.mono (by assumption) (by first | omega | (simp; omega) | (simp; done)))))))
    · obtain ⟨⟨y1, y2⟩, hl320, hlb⟩ := ledgerB_iff.1 h1
      obtain ⟨⟨x1, x2⟩, _, hp8, hpb⟩ := postingB_iff.1 h2
      have HLB := Lib.hid hlb
      have HPB := Lib.hid hpb
      clear hlb hpb
      by_cases h3 : pz ≤ z
      · obtain ⟨e1, e2, e3⟩ := postCode_2 h1 h2 h3
        rw [e1, e2, e3]
        have H1 := Lib.hid h1
        have H2 := Lib.hid h2
        clear h1 h2 e1 e2 e3
        go_enter Try.func86, Try.ntmps86
        go_wp2_with fail
        refine (i_LedgerOk z l _ _ _ hl ((HRA.out.below (by (first | ((repeat' first | (with_reducible (first | exact Below.refl _ _ | assumption | refine Below.setCell ?_ ?_ _ | refine Below.alloc ?_ ?_ _ | refine Below.drew ?_ | refine below_drewN ?_ _ | refine Below.trans ?_ (Below.mono (by assumption) ?_))) | omega | (simp; omega) | (simp; done)); done) | (repeat' first | exact Below.refl _ _ | assumption | refine Below.setCell ?_ (by first | omega | (simp; omega) | (simp; done)) _ | refine Below.alloc ?_ (by first | omega | (simp; omega) | (simp; done)) _ | refine Below.drew ?_ | refine below_drewN ?_ _ | refine Below.trans ?_ (Below.mono (by assumption) (by first | omega | (simp; omega) | (simp; done))))))).more (by first | omega | (simp; omega) | (simp; done)))).mono ?_
        rintro e w1 ⟨rfl, hb1⟩
        have z1 := hb1.size
        try simp at z1
        rw [H1.out]
        obtain ⟨lh, l0, l1, lf, lz⟩ := own2 (g := w.heap.size) hb1 (by first | omega | (simp; omega) | (simp; done)) (by (first | ((repeat' first | (with_reducible (first | assumption | (refine heap_at ?_; (first | rfl | (simp; done))) | refine heap_drew ?_ | refine heap_drewN ?_ | refine heap_past ?_ ?_ | refine heap_far ?_ ?_)) | (simp; done) | (simp; omega)); done) | (repeat' first | assumption | (refine heap_at ?_; (simp; done)) | refine heap_drew ?_ | refine heap_drewN ?_ | (refine heap_past ?_ ?_ <;> try (simp; done)) | (refine heap_far ?_ ?_ <;> try (simp; done)))))
        obtain ⟨ph, p0, p1, pf, pzz⟩ := own2 (g := w.heap.size + 1) hb1 (by first | omega | (simp; omega) | (simp; done)) (by (first | ((repeat' first | (with_reducible (first | assumption | (refine heap_at ?_; (first | rfl | (simp; done))) | refine heap_drew ?_ | refine heap_drewN ?_ | refine heap_past ?_ ?_ | refine heap_far ?_ ?_)) | (simp; done) | (simp; omega)); done) | (repeat' first | assumption | (refine heap_at ?_; (simp; done)) | refine heap_drew ?_ | refine heap_drewN ?_ | (refine heap_past ?_ ?_ <;> try (simp; done)) | (refine heap_far ?_ ?_ <;> try (simp; done)))))
        obtain ⟨rh, r0, r1, rf, rz⟩ := own2 (g := w.heap.size + 2) hb1 (by first | omega | (simp; omega) | (simp; done)) (by (first | ((repeat' first | (with_reducible (first | assumption | (refine heap_at ?_; (first | rfl | (simp; done))) | refine heap_drew ?_ | refine heap_drewN ?_ | refine heap_past ?_ ?_ | refine heap_far ?_ ?_)) | (simp; done) | (simp; omega)); done) | (repeat' first | assumption | (refine heap_at ?_; (simp; done)) | refine heap_drew ?_ | refine heap_drewN ?_ | (refine heap_past ?_ ?_ <;> try (simp; done)) | (refine heap_far ?_ ?_ <;> try (simp; done)))))
        go_wp2_with fail
        refine (i_PostingOk pz pl _ _ _ hpl ((HRB.out.below (by (first | ((repeat' first | (with_reducible (first | exact Below.refl _ _ | assumption | refine Below.setCell ?_ ?_ _ | refine Below.alloc ?_ ?_ _ | refine Below.drew ?_ | refine below_drewN ?_ _ | refine Below.trans ?_ (Below.mono (by assumption) ?_))) | omega | (simp; omega) | (simp; done)); done) | (repeat' first | exact Below.refl _ _ | assumption | refine Below.setCell ?_ (by first | omega | (simp; omega) | (simp; done)) _ | refine Below.alloc ?_ (by first | omega | (simp; omega) | (simp; done)) _ | refine Below.drew ?_ | refine below_drewN ?_ _ | refine Below.trans ?_ (Below.mono (by assumption) (by first | omega | (simp; omega) | (simp; done))))))).more (by first | omega | (simp; omega) | (simp; done)))).mono ?_
        rintro e w2 ⟨rfl, hb2⟩
        have z2 := hb2.size
        try simp at z2
        rw [H2.out]
        obtain ⟨_, k0, k1, kf, kz⟩ := own2 hb2 lz lh
        obtain ⟨_, q0, q1, qf, qz⟩ := own2 hb2 pzz ph
        obtain ⟨sh, t0, t1, tf, tz⟩ := own2 hb2 rz rh
        go_wp2_with fail
        obtain ⟨s0, s1⟩ := two_selfP (a := .int .i64 0) (b := .slice none 0 0) sh
        exact bodyPost_ret (v := .tuple #[.agg #[.int .i64 0, .slice none 0 0], .int .i64 2]) (by simp [results, Try.results86, go_sem, s0, s1]) rfl (ZERO.out 2 _ sh (by (first | ((repeat' first | (with_reducible (first | exact Below.refl _ _ | assumption | refine Below.setCell ?_ ?_ _ | refine Below.alloc ?_ ?_ _ | refine Below.drew ?_ | refine below_drewN ?_ _ | refine Below.trans ?_ (Below.mono (by assumption) ?_))) | omega | (simp; omega) | (simp; done)); done) | (repeat' first | exact Below.refl _ _ | assumption | refine Below.setCell ?_ (by first | omega | (simp; omega) | (simp; done)) _ | refine Below.alloc ?_ (by first | omega | (simp; omega) | (simp; done)) _ | refine Below.drew ?_ | refine below_drewN ?_ _ | refine Below.trans ?_ (Below.mono (by assumption) (by first | omega | (simp; omega) | (simp; done)))))))
      · have h3' : decide (pz ≤ z) = false := decide_eq_false h3
        have H1 := Lib.hid h1
        have H2 := Lib.hid h2
        clear h1 h2
        have HML := Lib.hid (show ∀ x ∈ l, -1125899906842624 ≤ x.Amt ∧ x.Amt ≤ 1125899906842624 from fun x hx => by
          obtain ⟨k, hk, rfl⟩ := List.mem_iff_getElem.1 hx
          exact (linesB_at HLB.out hk).2.2)
        have HMP := Lib.hid (show ∀ x ∈ pl, -1125899906842624 ≤ x.Amt ∧ x.Amt ≤ 1125899906842624 from fun x hx => by
          obtain ⟨k, hk, rfl⟩ := List.mem_iff_getElem.1 hx
          exact (linesB_at HPB.out hk).2.2)
        go_enter Try.func86, Try.ntmps86
        go_wp2_with fail
        refine (i_LedgerOk z l _ _ _ hl ((HRA.out.below (by (first | ((repeat' first | (with_reducible (first | exact Below.refl _ _ | assumption | refine Below.setCell ?_ ?_ _ | refine Below.alloc ?_ ?_ _ | refine Below.drew ?_ | refine below_drewN ?_ _ | refine Below.trans ?_ (Below.mono (by assumption) ?_))) | omega | (simp; omega) | (simp; done)); done) | (repeat' first | exact Below.refl _ _ | assumption | refine Below.setCell ?_ (by first | omega | (simp; omega) | (simp; done)) _ | refine Below.alloc ?_ (by first | omega | (simp; omega) | (simp; done)) _ | refine Below.drew ?_ | refine below_drewN ?_ _ | refine Below.trans ?_ (Below.mono (by assumption) (by first | omega | (simp; omega) | (simp; done))))))).more (by first | omega | (simp; omega) | (simp; done)))).mono ?_
        rintro e w1 ⟨rfl, hb1⟩
        have z1 := hb1.size
        try simp at z1
        rw [H1.out]
        obtain ⟨lh, l0, l1, lf, lz⟩ := own2 (g := w.heap.size) hb1 (by first | omega | (simp; omega) | (simp; done)) (by (first | ((repeat' first | (with_reducible (first | assumption | (refine heap_at ?_; (first | rfl | (simp; done))) | refine heap_drew ?_ | refine heap_drewN ?_ | refine heap_past ?_ ?_ | refine heap_far ?_ ?_)) | (simp; done) | (simp; omega)); done) | (repeat' first | assumption | (refine heap_at ?_; (simp; done)) | refine heap_drew ?_ | refine heap_drewN ?_ | (refine heap_past ?_ ?_ <;> try (simp; done)) | (refine heap_far ?_ ?_ <;> try (simp; done)))))
        obtain ⟨ph, p0, p1, pf, pzz⟩ := own2 (g := w.heap.size + 1) hb1 (by first | omega | (simp; omega) | (simp; done)) (by (first | ((repeat' first | (with_reducible (first | assumption | (refine heap_at ?_; (first | rfl | (simp; done))) | refine heap_drew ?_ | refine heap_drewN ?_ | refine heap_past ?_ ?_ | refine heap_far ?_ ?_)) | (simp; done) | (simp; omega)); done) | (repeat' first | assumption | (refine heap_at ?_; (simp; done)) | refine heap_drew ?_ | refine heap_drewN ?_ | (refine heap_past ?_ ?_ <;> try (simp; done)) | (refine heap_far ?_ ?_ <;> try (simp; done)))))
        obtain ⟨rh, r0, r1, rf, rz⟩ := own2 (g := w.heap.size + 2) hb1 (by first | omega | (simp; omega) | (simp; done)) (by (first | ((repeat' first | (with_reducible (first | assumption | (refine heap_at ?_; (first | rfl | (simp; done))) | refine heap_drew ?_ | refine heap_drewN ?_ | refine heap_past ?_ ?_ | refine heap_far ?_ ?_)) | (simp; done) | (simp; omega)); done) | (repeat' first | assumption | (refine heap_at ?_; (simp; done)) | refine heap_drew ?_ | refine heap_drewN ?_ | (refine heap_past ?_ ?_ <;> try (simp; done)) | (refine heap_far ?_ ?_ <;> try (simp; done)))))
        go_wp2_with fail
        refine (i_PostingOk pz pl _ _ _ hpl ((HRB.out.below (by (first | ((repeat' first | (with_reducible (first | exact Below.refl _ _ | assumption | refine Below.setCell ?_ ?_ _ | refine Below.alloc ?_ ?_ _ | refine Below.drew ?_ | refine below_drewN ?_ _ | refine Below.trans ?_ (Below.mono (by assumption) ?_))) | omega | (simp; omega) | (simp; done)); done) | (repeat' first | exact Below.refl _ _ | assumption | refine Below.setCell ?_ (by first | omega | (simp; omega) | (simp; done)) _ | refine Below.alloc ?_ (by first | omega | (simp; omega) | (simp; done)) _ | refine Below.drew ?_ | refine below_drewN ?_ _ | refine Below.trans ?_ (Below.mono (by assumption) (by first | omega | (simp; omega) | (simp; done))))))).more (by first | omega | (simp; omega) | (simp; done)))).mono ?_
        rintro e w2 ⟨rfl, hb2⟩
        have z2 := hb2.size
        try simp at z2
        rw [H2.out]
        obtain ⟨lh2, k0, k1, kf, kz⟩ := own2 hb2 lz lh
        obtain ⟨ph2, q0, q1, qf, qz⟩ := own2 hb2 pzz ph
        obtain ⟨sh, t0, t1, tf, tz⟩ := own2 hb2 rz rh
        have hB2 : Below w.heap.size w w2 := by (first | ((repeat' first | (with_reducible (first | exact Below.refl _ _ | assumption | refine Below.setCell ?_ ?_ _ | refine Below.alloc ?_ ?_ _ | refine Below.drew ?_ | refine below_drewN ?_ _ | refine Below.trans ?_ (Below.mono (by assumption) ?_))) | omega | (simp; omega) | (simp; done)); done) | (repeat' first | exact Below.refl _ _ | assumption | refine Below.setCell ?_ (by first | omega | (simp; omega) | (simp; done)) _ | refine Below.alloc ?_ (by first | omega | (simp; omega) | (simp; done)) _ | refine Below.drew ?_ | refine below_drewN ?_ _ | refine Below.trans ?_ (Below.mono (by assumption) (by first | omega | (simp; omega) | (simp; done)))))
        clear hb1 hb2 l0 l1 lf p0 p1 pf r0 r1 rf lh ph rh
        go_wp2_with fail
        refine (i_merged l pl A B ca cb _ (by omega) hca hcb HML.out HMP.out ((HRA.out.below hB2).more (by omega)) ((HRB.out.below hB2).more (by omega))).mono ?_
        rintro e w3 ⟨o, C, cc, rfl, hr, how, hb3⟩
        have z3 := hb3.size
        have HO3 := Lib.hid how
        obtain ⟨_, m0, m1, mf, mz⟩ := own2 hb3 qz ph2
        obtain ⟨uh, u0, u1, uf, uz⟩ := own2 hb3 tz sh
        have hB3 : Below w.heap.size w w3 := by (first | ((repeat' first | (with_reducible (first | exact Below.refl _ _ | assumption | refine Below.setCell ?_ ?_ _ | refine Below.alloc ?_ ?_ _ | refine Below.drew ?_ | refine below_drewN ?_ _ | refine Below.trans ?_ (Below.mono (by assumption) ?_))) | omega | (simp; omega) | (simp; done)); done) | (repeat' first | exact Below.refl _ _ | assumption | refine Below.setCell ?_ (by first | omega | (simp; omega) | (simp; done)) _ | refine Below.alloc ?_ (by first | omega | (simp; omega) | (simp; done)) _ | refine Below.drew ?_ | refine below_drewN ?_ _ | refine Below.trans ?_ (Below.mono (by assumption) (by first | omega | (simp; omega) | (simp; done)))))
        have HRR := Lib.hid hr
        clear hb3 k0 k1 kf q0 q1 qf t0 t1 tf sh ph2 lh2 how hr
        cases hm : mergeF l pl with
        | none =>
          obtain ⟨e1, e2, e3⟩ := postCode_3 H1.out H2.out (by omega) (.inl hm)
          rw [show (none : Option (List Line)).isSome = false from rfl]
          have HEE := Lib.hid (And.intro e1 (And.intro e2 e3))
          clear e1 e2 e3
          go_wp2_with fail
          obtain ⟨s0, s1⟩ := two_selfP (a := .int .i64 0) (b := .slice none 0 0) uh
          exact bodyPost_ret (v := .tuple #[.agg #[.int .i64 0, .slice none 0 0], .int .i64 3]) (by simp [results, Try.results86, go_sem, s0, s1]) rfl (by obtain ⟨e1, e2, e3⟩ := HEE.out; rw [e1, e2, e3]; exact ZERO.out 3 _ uh hB3)
        | some r =>
          obtain rfl := HRR.out r hm
          rw [show (some o).isSome = true from rfl]
          by_cases h320 : (320 : Int) < (o.length : Int)
          · obtain ⟨e1, e2, e3⟩ := postCode_3 H1.out H2.out (by omega) (.inr ⟨o, hm, by omega⟩)
            have HEE := Lib.hid (And.intro e1 (And.intro e2 e3))
            clear e1 e2 e3
            go_wp2_with fail
            obtain ⟨s0, s1⟩ := two_selfP (a := .int .i64 0) (b := .slice none 0 0) uh
            exact bodyPost_ret (v := .tuple #[.agg #[.int .i64 0, .slice none 0 0], .int .i64 3]) (by simp [results, Try.results86, go_sem, s0, s1]) rfl (by obtain ⟨e1, e2, e3⟩ := HEE.out; rw [e1, e2, e3]; exact ZERO.out 3 _ uh hB3)
          · have h320' : decide ((320 : Int) < (o.length : Int)) = false := decide_eq_false h320
            obtain ⟨e1, e2, e3⟩ := postCode_0 H1.out H2.out (by omega) hm (by omega)
            have HEE := Lib.hid (And.intro e1 (And.intro e2 e3))
            clear e1 e2 e3
            go_wp2_with fail
            obtain ⟨s0, s1⟩ := two_selfP (a := .int .i64 pz) (b := .slice C o.length cc) uh
            refine bodyPost_ret (v := .tuple #[.agg #[.int .i64 pz, .slice C o.length cc], .int .i64 0]) (by simp [results, Try.results86, go_sem, s0, s1]) rfl ?_
            obtain ⟨e1, e2, e3⟩ := HEE.out
            rw [e1, e2, e3]
            refine ⟨C, cc, rfl, by have := HO3.out.cap_; rwa [List.length_map] at this, ?_, (hB3.setCell (by simp only; omega) _).setCell (by simp only; omega) _⟩
            exact ((HO3.out.far (a := ⟨w.heap.size + 2, 0, none⟩) (by simp only; omega) _).far (a := ⟨w.heap.size + 2, 1, none⟩) (by simp only; omega) _).more (by omega)
end Go.Proofs.Ytplchgkppkibnaa
