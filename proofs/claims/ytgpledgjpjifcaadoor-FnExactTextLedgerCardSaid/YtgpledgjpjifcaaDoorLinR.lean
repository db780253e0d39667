/- Lines read from a text: textLine and l20Line. -/
import Derived.Test.YtgpledgjpjifcaaDoorRows
import Derived.Test.YtgpledgjpjifcaaDoorAccR
import Derived.Test.YtgpledgjpjifcaaDoorCuts
import Derived.Test.YtgpledgjpjifcaaDoorTxtR
namespace Go.Proofs.YtgpledgjpjifcaaDoor
open Go.RowKit

/-- what is read, where the text is that of a valid line -/
def LineIs (b : UInt8) (l : List UInt8) (x : Line) (ok : Bool) : Prop :=
  ∀ y : Line, accB y.Kind y.Ch = true → numB y.Amt = true → l = accL y.Kind y.Ch ++ b :: numL y.Amt → x = y ∧ ok = true
def LnP (b : UInt8) (l : List UInt8) (w : World) (e : Ending) (w' : World) : Prop :=
  ∃ (x : Line) (ok : Bool), e = .returned (.tuple #[.agg #[.int .i64 x.Kind, .int .i64 x.Ch, .int .i64 x.Amt], .bool ok]) ∧ LineIs b l x ok ∧ Below w.heap.size w w'
theorem lineIs_of {b : UInt8} {l f g : List UInt8} {okc one : Bool} {k c : Int} (hb : b = 32 ∨ b = 58) (hc : Lib.cut l [b] = (f, g, okc)) (ha : AccIs f k c one) : LineIs b l ⟨k, c, numOf g⟩ (okc && one && numOk g) := by
  intro y h1 h2 e
  have hno : b ∉ accL y.Kind y.Ch := acc_no (by rcases hb with rfl | rfl <;> simp)
  rw [e, cut_mid hno] at hc
  simp only [Prod.mk.injEq] at hc
  obtain ⟨rfl, rfl, rfl⟩ := hc
  obtain ⟨rfl, rfl, rfl⟩ := ha.of h1
  rw [(num_at h2).1, (num_at h2).2]
  exact ⟨Line.ext' rfl rfl rfl, rfl⟩
theorem cut_len (l p : List UInt8) : (Lib.cut l p).1.length ≤ l.length ∧ (Lib.cut l p).2.1.length ≤ l.length := by
  unfold Lib.cut
  split
  · simp
    omega
  · simp
theorem below_drewN' (w : World) (n : Nat) : Below w.heap.size w (w.drewN n) := below_drewN (Below.refl _ _) n
set_option maxRecDepth 100000 in
set_option maxHeartbeats 2000000 in
theorem i_textLine (s : ByteArray) (b : UInt8) (w : World) (hld : Le w) (hb : b = 32 ∨ b = 58) (hs : s.size ≤ 1048576) : Calls Tryd.prog 77 #[.string s, .string ⟨#[b]⟩] w (LnP b s.data.toList w) := by
  have HLD := Lib.hid hld
  have hz : s.data.toList.length = s.size := Array.length_toList
  have hcl := cut_len s.data.toList [b]
  obtain ⟨m, hm⟩ := hld.toLd.ml
  have HB := Lib.hid hb
  obtain ⟨f, hf', hf⟩ := str_of (Lib.cut s.data.toList [b]).1
  obtain ⟨g, hg', hg⟩ := str_of (Lib.cut s.data.toList [b]).2.1
  obtain ⟨okc, hokc⟩ : ∃ o, (Lib.cut s.data.toList [b]).2.2 = o := ⟨_, rfl⟩
  have HCut := Lib.hid (fun (W : World) (hM : W.cell? ⟨0, 0, none⟩ = some (.int .i64 m)) => Tryd.strings_Cut s ⟨#[b]⟩ m W (by omega) hM)
  have eb : (⟨#[b]⟩ : ByteArray).data.toList = [b] := rfl
  rw [eb, hf', hg', hokc] at HCut
  have HC := Lib.hid (show Lib.cut s.data.toList [b] = (f.data.toList, g.data.toList, okc) by
    rw [hf.out.data, hg.out.data, ← hokc])
  have hfs : f.size ≤ 1048576 := by rw [hf.out.size]; omega
  have hgs : g.size ≤ 281474976710656 := by rw [hg.out.size]; omega
  have HM := Lib.hid hm
  have hml : 0 < w.heap.size := Lib.lt_of_cell hm
  have HML := Lib.hid hml
  clear hld hz hcl hm hb hf' hg' hokc eb hf hg hml
  go_enter Tryd.func77, Tryd.ntmps77
  go_wp2_with fail
  refine (HCut.out _ (cell_past HML.out HM.out)).mono ?_
  rintro e w1 ⟨rfl, n1, rfl⟩
  have hb1 := below_drewN' (w.alloc (.cells #[.int .i64 0, .int .i64 0, .int .i64 0] 82)) n1
  have z1 := hb1.size
  obtain ⟨w1, hw1⟩ : ∃ w1, (w.alloc (.cells #[.int .i64 0, .int .i64 0, .int .i64 0] 82)).drewN n1 = w1 := ⟨_, rfl⟩
  rw [hw1] at hb1 z1 ⊢
  (try simp at z1)
  clear hw1 HCut
  have hr1 := heap_below (n := w.heap.size) hb1 (by simp) (heap_at rfl)
  have HR1 := Lib.hid hr1
  have hbA : Below w.heap.size w w1 := by (first | ((repeat' first | (with_reducible (first | exact Below.refl _ _ | assumption | refine Below.setCell ?_ ?_ _ | refine Below.alloc ?_ ?_ _ | refine Below.drew ?_ | refine below_drewN ?_ _ | refine Below.trans ?_ (Below.mono (by assumption) ?_))) | omega | (simp; omega) | (simp; done)); done) | (repeat' first | exact Below.refl _ _ | assumption | refine Below.setCell ?_ (by first | omega | (simp; omega) | (simp; done)) _ | refine Below.alloc ?_ (by first | omega | (simp; omega) | (simp; done)) _ | refine Below.drew ?_ | refine below_drewN ?_ _ | refine Below.trans ?_ (Below.mono (by assumption) (by first | omega | (simp; omega) | (simp; done)))))
  clear hb1 hr1
  go_wp2_with fail
  refine (i_TextAcc f _ (HLD.out.below (by (first | ((repeat' first | (with_reducible (first | exact Below.refl _ _ | assumption | refine Below.setCell ?_ ?_ _ | refine Below.alloc ?_ ?_ _ | refine Below.drew ?_ | refine below_drewN ?_ _ | refine Below.trans ?_ (Below.mono (by assumption) ?_))) | omega | (simp; omega) | (simp; done)); done) | (repeat' first | exact Below.refl _ _ | assumption | refine Below.setCell ?_ (by first | omega | (simp; omega) | (simp; done)) _ | refine Below.alloc ?_ (by first | omega | (simp; omega) | (simp; done)) _ | refine Below.drew ?_ | refine below_drewN ?_ _ | refine Below.trans ?_ (Below.mono (by assumption) (by first | omega | (simp; omega) | (simp; done))))))) hfs).mono ?_
  rintro e w2 ⟨k, c, one, rfl, hacc, hb2⟩
  have z2 := hb2.size
  have hr2 := heap_below hb2 (by omega) HR1.out
  have HR2 := Lib.hid hr2
  have HX := Lib.hid (lineIs_of HB.out HC.out hacc)
  have hbB : Below w.heap.size w w2 := by (first | ((repeat' first | (with_reducible (first | exact Below.refl _ _ | assumption | refine Below.setCell ?_ ?_ _ | refine Below.alloc ?_ ?_ _ | refine Below.drew ?_ | refine below_drewN ?_ _ | refine Below.trans ?_ (Below.mono (by assumption) ?_))) | omega | (simp; omega) | (simp; done)); done) | (repeat' first | exact Below.refl _ _ | assumption | refine Below.setCell ?_ (by first | omega | (simp; omega) | (simp; done)) _ | refine Below.alloc ?_ (by first | omega | (simp; omega) | (simp; done)) _ | refine Below.drew ?_ | refine below_drewN ?_ _ | refine Below.trans ?_ (Below.mono (by assumption) (by first | omega | (simp; omega) | (simp; done)))))
  clear hb2 hr2 hacc HR1
  go_wp2_with fail
  refine (i_TextNum g _ (HLD.out.below (by (first | ((repeat' first | (with_reducible (first | exact Below.refl _ _ | assumption | refine Below.setCell ?_ ?_ _ | refine Below.alloc ?_ ?_ _ | refine Below.drew ?_ | refine below_drewN ?_ _ | refine Below.trans ?_ (Below.mono (by assumption) ?_))) | omega | (simp; omega) | (simp; done)); done) | (repeat' first | exact Below.refl _ _ | assumption | refine Below.setCell ?_ (by first | omega | (simp; omega) | (simp; done)) _ | refine Below.alloc ?_ (by first | omega | (simp; omega) | (simp; done)) _ | refine Below.drew ?_ | refine below_drewN ?_ _ | refine Below.trans ?_ (Below.mono (by assumption) (by first | omega | (simp; omega) | (simp; done))))))) hgs).mono ?_
  rintro e w3 ⟨rfl, hb3⟩
  have z3 := hb3.size
  (try simp at z3)
  obtain ⟨x, hx⟩ : ∃ x, numOf g.data.toList = x := ⟨_, rfl⟩
  obtain ⟨two, h2⟩ : ∃ x, numOk g.data.toList = x := ⟨_, rfl⟩
  rw [hx, h2] at HX ⊢
  obtain ⟨ah, a0, a1, af, az⟩ := own2 (g := w2.heap.size) hb3 (by first | omega | (simp; omega) | (simp; done)) (by (first | ((repeat' first | (with_reducible (first | assumption | (refine heap_at ?_; (first | rfl | (simp; done))) | refine heap_drew ?_ | refine heap_drewN ?_ | refine heap_past ?_ ?_ | refine heap_far ?_ ?_)) | (simp; done) | (simp; omega)); done) | (repeat' first | assumption | (refine heap_at ?_; (simp; done)) | refine heap_drew ?_ | refine heap_drewN ?_ | (refine heap_past ?_ ?_ <;> try (simp; done)) | (refine heap_far ?_ ?_ <;> try (simp; done)))))
  have hr3 := heap_below hb3 (by simp; omega) (heap_past (by omega) HR2.out)
  obtain ⟨_, g0, g1, g2, gf, gz⟩ := own3 (g := w.heap.size) (Below.refl _ w3) (by omega) hr3
  have hbC : Below w.heap.size w w3 := by (first | ((repeat' first | (with_reducible (first | exact Below.refl _ _ | assumption | refine Below.setCell ?_ ?_ _ | refine Below.alloc ?_ ?_ _ | refine Below.drew ?_ | refine below_drewN ?_ _ | refine Below.trans ?_ (Below.mono (by assumption) ?_))) | omega | (simp; omega) | (simp; done)); done) | (repeat' first | exact Below.refl _ _ | assumption | refine Below.setCell ?_ (by first | omega | (simp; omega) | (simp; done)) _ | refine Below.alloc ?_ (by first | omega | (simp; omega) | (simp; done)) _ | refine Below.drew ?_ | refine below_drewN ?_ _ | refine Below.trans ?_ (Below.mono (by assumption) (by first | omega | (simp; omega) | (simp; done)))))
  clear hb3 hr3 HR2 hx h2 ah
  cases okc
  all_goals
    cases one
    all_goals
      go_wp2_with fail
      refine bodyPost_ret (v := .tuple #[.agg #[.int .i64 k, .int .i64 c, .int .i64 x], .bool (_ && _ && two)]) (by simp [results, Tryd.results77, go_sem, *] <;> rfl) rfl ⟨⟨k, c, x⟩, _, rfl, HX.out, ?_⟩
      (first | ((repeat' first | (with_reducible (first | exact Below.refl _ _ | assumption | refine Below.setCell ?_ ?_ _ | refine Below.alloc ?_ ?_ _ | refine Below.drew ?_ | refine below_drewN ?_ _ | refine Below.trans ?_ (Below.mono (by assumption) ?_))) | omega | (simp; omega) | (simp; done)); done) | (repeat' first | exact Below.refl _ _ | assumption | refine Below.setCell ?_ (by first | omega | (simp; omega) | (simp; done)) _ | refine Below.alloc ?_ (by first | omega | (simp; omega) | (simp; done)) _ | refine Below.drew ?_ | refine below_drewN ?_ _ | refine Below.trans ?_ (Below.mono (by assumption) (by first | omega | (simp; omega) | (simp; done)))))
/-- what the reference reads of an account's text and a number's -/
def PairIs (f g : List UInt8) (x : Line) : Prop := ∀ y : Line, accB y.Kind y.Ch = true → numB y.Amt = true → f = accL y.Kind y.Ch → g = numL y.Amt → x = y
def LsP (f g : List UInt8) (w : World) (e : Ending) (w' : World) : Prop :=
  ∃ x : Line, e = .returned (.agg #[.int .i64 x.Kind, .int .i64 x.Ch, .int .i64 x.Amt]) ∧ PairIs f g x ∧ Below w.heap.size w w'
theorem pairIs_of {f g : List UInt8} {one : Bool} {k c : Int} (ha : AccIs f k c one) : PairIs f g ⟨k, c, numOf g⟩ := by
  rintro y h1 h2 rfl rfl
  obtain ⟨_, rfl, rfl⟩ := ha.of h1
  rw [(num_at h2).1]
theorem heap_setL {w : World} {g : Nat} {t : TypeId} {a b c : Value} (h : w.heap[g]? = some (.cells #[a, b, c] t (0, 0))) (u : Value) :
    (w.setCell ⟨g, 0, none⟩ u).heap[g]? = some (.cells #[u, b, c] t (0, 0)) ∧ (w.setCell ⟨g, 1, none⟩ u).heap[g]? = some (.cells #[a, u, c] t (0, 0)) ∧ (w.setCell ⟨g, 2, none⟩ u).heap[g]? = some (.cells #[a, b, u] t (0, 0)) :=
  ⟨heap_set h, heap_set h, heap_set h⟩
set_option maxRecDepth 100000 in
set_option maxHeartbeats 2000000 in
theorem s_l20Line (f g : ByteArray) (w : World) (hf : f.size ≤ 1048576) : Calls Tryd.prog 75 #[.string f, .string g] w (LsP f.data.toList g.data.toList w) := by
  go_enter Tryd.func75, Tryd.ntmps75
  go_wp2_with fail
  refine (s_TextAcc f _ hf).mono ?_
  rintro e w2 ⟨k, c, one, rfl, hacc, hb2⟩
  have z2 := hb2.size
  (try simp at z2)
  have hr2 := heap_below (n := w.heap.size) hb2 (by simp; omega) (heap_past (by simp) (heap_at rfl))
  have hx2 := heap_below (n := w.heap.size + 1) hb2 (by simp) (heap_at (by simp))
  have HX := Lib.hid (pairIs_of (g := g.data.toList) hacc)
  have hbB : Below w.heap.size w w2 := by (first | ((repeat' first | (with_reducible (first | exact Below.refl _ _ | assumption | refine Below.setCell ?_ ?_ _ | refine Below.alloc ?_ ?_ _ | refine Below.drew ?_ | refine below_drewN ?_ _ | refine Below.trans ?_ (Below.mono (by assumption) ?_))) | omega | (simp; omega) | (simp; done)); done) | (repeat' first | exact Below.refl _ _ | assumption | refine Below.setCell ?_ (by first | omega | (simp; omega) | (simp; done)) _ | refine Below.alloc ?_ (by first | omega | (simp; omega) | (simp; done)) _ | refine Below.drew ?_ | refine below_drewN ?_ _ | refine Below.trans ?_ (Below.mono (by assumption) (by first | omega | (simp; omega) | (simp; done)))))
  obtain ⟨_, a0, a1, a2, af, az⟩ := own3 (g := w.heap.size + 1) (Below.refl _ w2) (by omega) hx2
  have hx3 := (heap_setL (heap_setL hx2 (.int .i64 k)).1 (.int .i64 c)).2.1
  have hr3 := heap_far (a := ⟨w.heap.size + 1, 1, none⟩) (u := .int .i64 c) (by show w.heap.size ≠ w.heap.size + 1; omega) (heap_far (a := ⟨w.heap.size + 1, 0, none⟩) (u := .int .i64 k) (by show w.heap.size ≠ w.heap.size + 1; omega) hr2)
  have HX3 := Lib.hid hx3
  have HR3 := Lib.hid hr3
  clear hb2 hr2 hx2 hx3 hr3 hacc
  go_wp2_with fail
  refine (s_TextNum g _).mono ?_
  rintro e w3 ⟨rfl, hb3⟩
  have z3 := hb3.size
  (try simp at z3)
  obtain ⟨x, hx⟩ : ∃ x, numOf g.data.toList = x := ⟨_, rfl⟩
  rw [hx] at HX ⊢
  have hr4 := heap_below hb3 (by simp; omega) HR3.out
  have hx4 := heap_below hb3 (by simp; omega) HX3.out
  obtain ⟨_, b0, b1, b2, bf, bz⟩ := own3 (g := w.heap.size + 1) (Below.refl _ w3) (by omega) hx4
  have hx5 := (heap_setL hx4 (.int .i64 x)).2.2
  have hr5 := heap_far (a := ⟨w.heap.size + 1, 2, none⟩) (u := .int .i64 x) (by show w.heap.size ≠ w.heap.size + 1; omega) hr4
  obtain ⟨_, c0, c1, c2, cf, cz⟩ := own3 (g := w.heap.size + 1) (Below.refl _ (w3.setCell ⟨w.heap.size + 1, 2, none⟩ (.int .i64 x))) (by simp; omega) hx5
  obtain ⟨_, d0, d1, d2, df, dz⟩ := own3 (g := w.heap.size) (Below.refl _ (w3.setCell ⟨w.heap.size + 1, 2, none⟩ (.int .i64 x))) (by simp; omega) hr5
  have hbC : Below w.heap.size w w3 := by (first | ((repeat' first | (with_reducible (first | exact Below.refl _ _ | assumption | refine Below.setCell ?_ ?_ _ | refine Below.alloc ?_ ?_ _ | refine Below.drew ?_ | refine below_drewN ?_ _ | refine Below.trans ?_ (Below.mono (by assumption) ?_))) | omega | (simp; omega) | (simp; done)); done) | (repeat' first | exact Below.refl _ _ | assumption | refine Below.setCell ?_ (by first | omega | (simp; omega) | (simp; done)) _ | refine Below.alloc ?_ (by first | omega | (simp; omega) | (simp; done)) _ | refine Below.drew ?_ | refine below_drewN ?_ _ | refine Below.trans ?_ (Below.mono (by assumption) (by first | omega | (simp; omega) | (simp; done)))))
  clear hb3 hr4 hx4 hx5 hr5 hx a0 a1 a2 af HX3 HR3
  go_wp2_with fail
  refine bodyPost_ret (v := .agg #[.int .i64 k, .int .i64 c, .int .i64 x]) (by simp [results, Tryd.results75, go_sem, *]) rfl ⟨⟨k, c, x⟩, rfl, HX.out, ?_⟩
  (first | ((repeat' first | (with_reducible (first | exact Below.refl _ _ | assumption | refine Below.setCell ?_ ?_ _ | refine Below.alloc ?_ ?_ _ | refine Below.drew ?_ | refine below_drewN ?_ _ | refine Below.trans ?_ (Below.mono (by assumption) ?_))) | omega | (simp; omega) | (simp; done)); done) | (repeat' first | exact Below.refl _ _ | assumption | refine Below.setCell ?_ (by first | omega | (simp; omega) | (simp; done)) _ | refine Below.alloc ?_ (by first | omega | (simp; omega) | (simp; done)) _ | refine Below.drew ?_ | refine below_drewN ?_ _ | refine Below.trans ?_ (Below.mono (by assumption) (by first | omega | (simp; omega) | (simp; done)))))
end Go.Proofs.YtgpledgjpjifcaaDoor
