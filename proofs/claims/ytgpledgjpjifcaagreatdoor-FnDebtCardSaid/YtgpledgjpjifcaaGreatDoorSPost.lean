/- One posting posted: the reference's walk, with what its draws need. -/
import Derived.Test.YtgpledgjpjifcaaGreatDoorRows
import Derived.Test.YtgpledgjpjifcaaGreatDoorDrawM
import Derived.Test.YtgpledgjpjifcaaGreatDoorLed
import Derived.Test.YtgpledgjpjifcaaGreatDoorRev
import Derived.Test.YtgpledgjpjifcaaGreatDoorApp2
import Derived.Test.YtgpledgjpjifcaaGreatDoorPostAll
import Derived.Deep.RegionHeld3
namespace Go.Proofs.YtgpledgjpjifcaaGreatDoor
open Go.RowKit

def LedW (w : World) (e : Ending) (w' : World) : Prop :=
  ∃ (z c : Int) (l : List Line) (A : Option Addr) (cap : Nat), e = .returned (.tuple #[.agg #[.int .i64 z, .slice A l.length cap], .int .i64 c]) ∧ l.length ≤ 320 ∧ Ow w' w.heap.size 84 3 (.slice A l.length cap) (l.map Line.cells) ∧ Below w.heap.size w w'
theorem cell_pastP {w : World} {p : Addr} {v : Value} {o : Obj} (h : p.block < w.heap.size) (k : w.cell? p = some v) : (w.alloc o).cell? p = some v :=
  (((Below.refl w.heap.size w).alloc (Nat.le_refl _) o).cell h).trans k
set_option maxRecDepth 100000 in
set_option maxHeartbeats 2000000 in
theorem s_PostW (z : Int) (l : List Line) (A : Option Addr) (ca : Nat) (pz : Int) (pl : List Line) (B : Option Addr) (cb : Nat) (w : World) (hl : l.length ≤ 1048576) (hpl : pl.length ≤ 1048576)
    (hra : Rd w w.heap.size 3 A (l.map Line.cells)) (hrb : Rd w w.heap.size 3 B (pl.map Line.cells)) :
    Calls Tryz.prog 127 #[.agg #[.int .i64 z, .slice A l.length ca], .agg #[.int .i64 pz, .slice B pl.length cb]] w (LedW w) := by
  have HRA := Lib.hid hra
  have HRB := Lib.hid hrb
  clear hra hrb
  obtain ⟨i0, hi, hz0, hz1, hz2⟩ := info_parts info_LineL
  have HI := Lib.hid hi
  have HZ0 := Lib.hid hz0
  have HZ1 := Lib.hid hz1
  have HZ2 := Lib.hid hz2
  clear hi hz0 hz1 hz2
  have zero : ∀ (c : Int) (W : World), W.heap[w.heap.size + 2]? = some (.cells #[.int .i64 0, .slice none 0 0] 42 (0, 0)) → Below w.heap.size w W →
      LedW w (.returned (.tuple #[.agg #[.int .i64 0, .slice none 0 0], .int .i64 c])) ((W.setCell ⟨w.heap.size + 2, 0, none⟩ (.int .i64 0)).setCell ⟨w.heap.size + 2, 1, none⟩ (.slice none 0 0)) :=
    fun c W h hb => ⟨0, c, [], none, 0, rfl, Nat.zero_le _, Ow.nil_, (hb.setCell (by simp) _).setCell (by simp) _⟩
  have ZERO := Lib.hid zero
  clear zero
  obtain ⟨b1, hb1'⟩ : ∃ b, ledgerB z l = b := ⟨_, rfl⟩
  have H1 := Lib.hid hb1'
  clear hb1'
  obtain ⟨b2, hb2'⟩ : ∃ b, postingB pz pl = b := ⟨_, rfl⟩
  have H2 := Lib.hid hb2'
  clear hb2'
  go_enter Tryz.func127, Tryz.ntmps127
  go_wp2_with fail
  refine (s_LedgerOk z l _ _ _ hl ((HRA.out.below (by (first | ((repeat' first | (with_reducible (first | exact Below.refl _ _ | assumption | refine Below.setCell ?_ ?_ _ | refine Below.alloc ?_ ?_ _ | refine Below.drew ?_ | refine below_drewN ?_ _ | refine Below.trans ?_ (Below.mono (by assumption) ?_))) | omega | (simp; omega) | (simp; done)); done) | (repeat' first | exact Below.refl _ _ | assumption | refine Below.setCell ?_ (by first | omega | (simp; omega) | (simp; done)) _ | refine Below.alloc ?_ (by first | omega | (simp; omega) | (simp; done)) _ | refine Below.drew ?_ | refine below_drewN ?_ _ | refine Below.trans ?_ (Below.mono (by assumption) (by first | omega | (simp; omega) | (simp; done))))))).more (by first | omega | (simp; omega) | (simp; done)))).mono ?_
  rintro e w1 ⟨rfl, hb1⟩
  have z1 := hb1.size
  try simp at z1
  rw [H1.out]
  obtain ⟨lh, l0, l1, lf, lz⟩ := own2 (g := w.heap.size) hb1 (by first | omega | (simp; omega) | (simp; done)) (by (first | ((repeat' first | (with_reducible (first | assumption | (refine heap_at ?_; (first | rfl | (simp; done))) | refine heap_drew ?_ | refine heap_drewN ?_ | refine heap_past ?_ ?_ | refine heap_far ?_ ?_)) | (simp; done) | (simp; omega)); done) | (repeat' first | assumption | (refine heap_at ?_; (simp; done)) | refine heap_drew ?_ | refine heap_drewN ?_ | (refine heap_past ?_ ?_ <;> try (simp; done)) | (refine heap_far ?_ ?_ <;> try (simp; done)))))
  obtain ⟨ph, p0, p1, pf, pzz⟩ := own2 (g := w.heap.size + 1) hb1 (by first | omega | (simp; omega) | (simp; done)) (by (first | ((repeat' first | (with_reducible (first | assumption | (refine heap_at ?_; (first | rfl | (simp; done))) | refine heap_drew ?_ | refine heap_drewN ?_ | refine heap_past ?_ ?_ | refine heap_far ?_ ?_)) | (simp; done) | (simp; omega)); done) | (repeat' first | assumption | (refine heap_at ?_; (simp; done)) | refine heap_drew ?_ | refine heap_drewN ?_ | (refine heap_past ?_ ?_ <;> try (simp; done)) | (refine heap_far ?_ ?_ <;> try (simp; done)))))
  obtain ⟨rh, r0, r1, rf, rz⟩ := own2 (g := w.heap.size + 2) hb1 (by first | omega | (simp; omega) | (simp; done)) (by (first | ((repeat' first | (with_reducible (first | assumption | (refine heap_at ?_; (first | rfl | (simp; done))) | refine heap_drew ?_ | refine heap_drewN ?_ | refine heap_past ?_ ?_ | refine heap_far ?_ ?_)) | (simp; done) | (simp; omega)); done) | (repeat' first | assumption | (refine heap_at ?_; (simp; done)) | refine heap_drew ?_ | refine heap_drewN ?_ | (refine heap_past ?_ ?_ <;> try (simp; done)) | (refine heap_far ?_ ?_ <;> try (simp; done)))))
  cases b1
  · go_wp2_with fail
    obtain ⟨s0, s1⟩ := two_selfP (a := .int .i64 0) (b := .slice none 0 0) rh
    exact bodyPost_ret (v := .tuple #[.agg #[.int .i64 0, .slice none 0 0], .int .i64 1]) (by simp [results, Tryz.results127, go_sem, s0, s1]) rfl (ZERO.out 1 _ rh (by (first | ((repeat' first | (with_reducible (first | exact Below.refl _ _ | assumption | refine Below.setCell ?_ ?_ _ | refine Below.alloc ?_ ?_ _ | refine Below.drew ?_ | refine below_drewN ?_ _ | refine Below.trans ?_ (Below.mono (by assumption) ?_))) | omega | (simp; omega) | (simp; done)); done) | (repeat' first | exact Below.refl _ _ | assumption | refine Below.setCell ?_ (by first | omega | (simp; omega) | (simp; done)) _ | refine Below.alloc ?_ (by first | omega | (simp; omega) | (simp; done)) _ | refine Below.drew ?_ | refine below_drewN ?_ _ | refine Below.trans ?_ (Below.mono (by assumption) (by first | omega | (simp; omega) | (simp; done)))))))
  · go_wp2_with fail
    refine (s_PostingOk pz pl _ _ _ hpl ((HRB.out.below (by (first | ((repeat' first | (with_reducible (first | exact Below.refl _ _ | assumption | refine Below.setCell ?_ ?_ _ | refine Below.alloc ?_ ?_ _ | refine Below.drew ?_ | refine below_drewN ?_ _ | refine Below.trans ?_ (Below.mono (by assumption) ?_))) | omega | (simp; omega) | (simp; done)); done) | (repeat' first | exact Below.refl _ _ | assumption | refine Below.setCell ?_ (by first | omega | (simp; omega) | (simp; done)) _ | refine Below.alloc ?_ (by first | omega | (simp; omega) | (simp; done)) _ | refine Below.drew ?_ | refine below_drewN ?_ _ | refine Below.trans ?_ (Below.mono (by assumption) (by first | omega | (simp; omega) | (simp; done))))))).more (by first | omega | (simp; omega) | (simp; done)))).mono ?_
    rintro e w2 ⟨rfl, hb2⟩
    have z2 := hb2.size
    try simp at z2
    rw [H2.out]
    obtain ⟨lh2, k0, k1, kf, kz⟩ := own2 hb2 lz lh
    obtain ⟨ph2, q0, q1, qf, qz⟩ := own2 hb2 pzz ph
    obtain ⟨sh, t0, t1, tf, tz⟩ := own2 hb2 rz rh
    have hB2 : Below w.heap.size w w2 := by (first | ((repeat' first | (with_reducible (first | exact Below.refl _ _ | assumption | refine Below.setCell ?_ ?_ _ | refine Below.alloc ?_ ?_ _ | refine Below.drew ?_ | refine below_drewN ?_ _ | refine Below.trans ?_ (Below.mono (by assumption) ?_))) | omega | (simp; omega) | (simp; done)); done) | (repeat' first | exact Below.refl _ _ | assumption | refine Below.setCell ?_ (by first | omega | (simp; omega) | (simp; done)) _ | refine Below.alloc ?_ (by first | omega | (simp; omega) | (simp; done)) _ | refine Below.drew ?_ | refine below_drewN ?_ _ | refine Below.trans ?_ (Below.mono (by assumption) (by first | omega | (simp; omega) | (simp; done)))))
    clear hb1 hb2 l0 l1 lf p0 p1 pf r0 r1 rf lh ph rh
    cases b2
    · go_wp2_with fail
      obtain ⟨s0, s1⟩ := two_selfP (a := .int .i64 0) (b := .slice none 0 0) sh
      exact bodyPost_ret (v := .tuple #[.agg #[.int .i64 0, .slice none 0 0], .int .i64 1]) (by simp [results, Tryz.results127, go_sem, s0, s1]) rfl (ZERO.out 1 _ sh hB2)
    · by_cases h3 : pz ≤ z
      · go_wp2_with fail
        obtain ⟨s0, s1⟩ := two_selfP (a := .int .i64 0) (b := .slice none 0 0) sh
        exact bodyPost_ret (v := .tuple #[.agg #[.int .i64 0, .slice none 0 0], .int .i64 2]) (by simp [results, Tryz.results127, go_sem, s0, s1]) rfl (ZERO.out 2 _ sh hB2)
      · have h3' : decide (pz ≤ z) = false := decide_eq_false h3
        obtain ⟨⟨y1, y2⟩, hl320, _⟩ := ledgerB_iff.1 H1.out
        obtain ⟨_, _, hp8, _⟩ := postingB_iff.1 H2.out
        have LH2 := Lib.hid lh2
        have PH2 := Lib.hid ph2
        have RH2 := Lib.hid sh
        clear lh2 ph2 sh
        go_wp2_with fail
        go_region_held3 (fun w' => w'.cell? ⟨w.heap.size, 1, none⟩ = some (.slice A l.length ca) ∧ w'.cell? ⟨w.heap.size + 1, 0, none⟩ = some (.int .i64 pz))
          (((try dsimp only); (repeat' apply And.intro) <;> (repeat (first | (with_reducible assumption) | (with_reducible refine cell_undrewP ?_) | (with_reducible refine cell_asideP (by simp only; omega) ?_) | (with_reducible refine cell_pastP (by first | (simp only; omega) | (simp; omega)) ?_)))))
          ((refine step_appN (by rfl) _ _ _ (by rfl) w2.heap.size 84 i0 _ 3 24 Tryz.underlying40 HI.out HZ0.out HZ1.out HZ2.out rfl (by decide) _ _ [] 0 rfl (by rfl) (by first | exact Ow.empty_ rfl (Nat.le_refl _) | exact (Ow.empty_ rfl (Nat.le_refl _)).alloc _ | exact Ow.empty_ (by simp) (by simp)) A ca (l.map Line.cells) l.length (by rw [List.length_map]) (by rfl) w.heap.size (HRA.out.below (by first | exact hB2.drew.alloc (by simp; omega) _ | exact (hB2.drew.alloc (by simp; omega) _).alloc (by simp; omega) _)) (line_one l) (by simp; omega) (by decide) (by first | omega | (simp; done) | (simp; omega)) ?_; intro A8 cap8 w8 how8 hb8 hgr8; simp only [Nat.zero_add, List.nil_append] at how8 ⊢; have hB8 : Below w2.heap.size w2 w8 := (by first | exact (((Below.refl _ _).drew).alloc (Nat.le_refl _) _).trans hb8 | exact ((((Below.refl _ _).drew).alloc (Nat.le_refl _) _).alloc (by simp) _).trans hb8); have z8 := hB8.size; have HO8 := Lib.hid how8; clear how8; obtain ⟨_, _, v1, _, _⟩ := own2 hB8 kz LH2.out; obtain ⟨_, u0, _, _, _⟩ := own2 hB8 qz PH2.out; (first | (have bx : w8.heap[w2.heap.size]? = some (.cells #[.int .i64 0, .slice none 0 0] 42 (0, 0)) := heap_grown hgr8 (by simp [Value.ownBlock]) (heap_past (by simp) (heap_at rfl)); obtain ⟨_, x0, x1, xf, xz⟩ := own2 (Below.refl w8.heap.size w8) (Array.getElem?_eq_some_iff.1 bx).1 bx) | (have bx : w8.heap[w2.heap.size + 1]? = some (.cells #[.int .i64 0, .slice none 0 0] 42 (0, 0)) := heap_grown hgr8 (by simp [Value.ownBlock]) (heap_at (by simp)); obtain ⟨_, x0, x1, xf, xz⟩ := own2 (Below.refl w8.heap.size w8) (Array.getElem?_eq_some_iff.1 bx).1 bx) | skip)))
        · obtain ⟨X, hX⟩ : ∃ X, w8.heap.size = X := ⟨_, rfl⟩
          obtain ⟨W, hW⟩ : ∃ W, w8.alloc (.cells #[.int .i64 pz, .slice A8 l.length cap8] 42) = W := ⟨_, rfl⟩
          have fW : W.heap[X]? = some (.cells #[.int .i64 pz, .slice A8 l.length cap8] 42 (0, 0)) := by rw [← hW, ← hX]; exact heap_at rfl
          have hb9 : Below w2.heap.size w2 W := by rw [← hW]; exact hB8.alloc (by omega) _
          have hO9 : Ow W w2.heap.size 84 3 (.slice A8 l.length cap8) (l.map Line.cells) := by rw [← hW]; exact HO8.out.alloc _
          have HO9 := Lib.hid hO9
          clear hO9
          have hX2 : w2.heap.size ≤ X := by omega
          rw [hW]
          rw [hX]
          clear hW hX HO8 hB8
          obtain ⟨_, d0, d1, df, dz⟩ := own2 hb9 qz PH2.out
          obtain ⟨_, e0, e1, ef, ez⟩ := own2 (Below.refl W.heap.size W) (Array.getElem?_eq_some_iff.1 fW).1 fW
          go_wp2_with fail
          go_loopw [34] (fun i wr => ∃ (k : Nat) (L : List Line) (A' : Option Addr) (c' : Nat), k ≤ pl.length ∧ i = .int .i64 k ∧ L.length ≤ l.length + k ∧ wr.heap[X]? = some (.cells #[.int .i64 pz, .slice A' L.length c'] 42 (0, 0)) ∧ Ow wr w2.heap.size 84 3 (.slice A' L.length c') (L.map Line.cells) ∧ Below w2.heap.size w2 wr) (fun i _ => pl.length - (intOf i).toNat)
          case atStart => exact ⟨0, l, A8, cap8, Nat.zero_le _, rfl, by omega, fW, HO9.out, hb9⟩
          case round =>
            clear fW hb9 HO9 d0 d1 df dz e0 e1 ef ez
            obtain ⟨k, L, A', c', hk, rfl, hLl, hx, how, hb⟩ := hrel
            have hbz := hb.size
            have HW := Lib.hid how
            clear how
            obtain ⟨_, x0, x1, xf, xz⟩ := own2 (Below.refl wr.heap.size wr) (Array.getElem?_eq_some_iff.1 hx).1 hx
            have HX := Lib.hid hx
            clear hx
            by_cases hlk : k < pl.length
            · obtain ⟨b, off, rfl, hbB, c0, c1, c2⟩ := Line.rd (HRB.out.below (hB2.trans (hb.mono (by omega)))) hlk
              have hbr : b < wr.heap.size := by omega
              go_wp2_with fail
              refine (s_l02AddW L A' c' _ _ _ _ (by omega) (HW.out.alloc _).rd).mono ?_
              rintro e w5 ⟨L5, A5, cap5, rfl, hl5, how5, hb5⟩
              have z5 := hb5.size
              simp at z5
              have x5 := heap_below hb5 (by simp; omega) (heap_past xz HX.out)
              obtain ⟨_, y0, y1', yf, yz⟩ := own2 (Below.refl w5.heap.size w5) (Array.getElem?_eq_some_iff.1 x5).1 x5
              have HW5 := Lib.hid (how5.more (B' := w2.heap.size) (by simp; omega))
              have hB5 : Below w2.heap.size w2 w5 := (hb.alloc (by omega) _).trans (hb5.mono (by simp; omega))
              have HX5 := Lib.hid x5
              clear how5 hb5 x5
              go_wp2_with fail
              go_roundw
              case rel => exact ⟨k + 1, L5, A5, cap5, by omega, by go_num, by omega, heap_set HX5.out, HW5.out.asideP HX5.out (by decide), hB5.setCell (by omega) _⟩
              case measure => simp [intOf]; omega
            · obtain rfl : k = pl.length := by omega
              obtain ⟨b3, hb3'⟩ : ∃ b, ledgerB pz L = b := ⟨_, rfl⟩
              have H3 := Lib.hid hb3'
              clear hb3'
              go_wp2_with fail
              refine (s_LedgerOk pz L A' c' wr (by omega) HW.out.rd).mono ?_
              rintro e w6 ⟨rfl, hb6⟩
              have z6 := hb6.size
              rw [H3.out]
              have hb26 : Below w2.heap.size w2 w6 := hb.trans (hb6.mono (by omega))
              obtain ⟨rh6, _, _, r6f, r6z⟩ := own2 hb26 tz RH2.out
              obtain ⟨_, g0, g1, gf, gz⟩ := own2 hb6 xz HX.out
              have hB6 : Below w.heap.size w w6 := hB2.trans (hb26.mono (by omega))
              have RH6 := Lib.hid rh6
              clear rh6
              cases b3
              · go_wp2_with fail
                obtain ⟨s0, s1⟩ := two_selfP (a := .int .i64 0) (b := .slice none 0 0) RH6.out
                exact bodyPost_ret (v := .tuple #[.agg #[.int .i64 0, .slice none 0 0], .int .i64 3]) (by simp [results, Tryz.results127, go_sem, s0, s1]) rfl (ZERO.out 3 _ RH6.out hB6)
              · have HL := Lib.hid (ledgerB_iff.1 H3.out).2.1
                have HW6 := Lib.hid ((HW.out.below hb6).more (B' := w.heap.size + 3) (by omega))
                go_wp2_with fail
                obtain ⟨s0, s1⟩ := two_selfP (a := .int .i64 pz) (b := .slice A' L.length c') RH6.out
                exact bodyPost_ret (v := .tuple #[.agg #[.int .i64 pz, .slice A' L.length c'], .int .i64 0]) (by simp [results, Tryz.results127, go_sem, s0, s1]) rfl ⟨pz, 0, L, A', c', rfl, HL.out, ((HW6.out.far (by simp only; omega) _).far (by simp only; omega) _).more (by omega), (hB6.setCell (by simp; omega) _).setCell (by simp; omega) _⟩
        · obtain ⟨X, hX⟩ : ∃ X, w2.heap.size + 1 = X := ⟨_, rfl⟩
          obtain ⟨W, hW⟩ : ∃ W, (w8.setCell ⟨w2.heap.size + 1, 0, none⟩ (.int .i64 pz)).setCell ⟨w2.heap.size + 1, 1, none⟩ (.slice A8 l.length cap8) = W := ⟨_, rfl⟩
          have fW : W.heap[X]? = some (.cells #[.int .i64 pz, .slice A8 l.length cap8] 42 (0, 0)) := by rw [← hW, ← hX]; exact heap_set (heap_set bx)
          have hb9 : Below w2.heap.size w2 W := by rw [← hW]; exact (hB8.setCell (by simp only; omega) _).setCell (by simp only; omega) _
          have hO9 : Ow W w2.heap.size 84 3 (.slice A8 l.length cap8) (l.map Line.cells) := by rw [← hW]; exact (HO8.out.asideP bx (by decide)).asideP (heap_set bx) (by decide)
          have HO9 := Lib.hid hO9
          clear hO9
          have hX2 : w2.heap.size ≤ X := by omega
          rw [hW]
          rw [hX]
          clear hW hX HO8 hB8
          obtain ⟨_, d0, d1, df, dz⟩ := own2 hb9 qz PH2.out
          obtain ⟨_, e0, e1, ef, ez⟩ := own2 (Below.refl W.heap.size W) (Array.getElem?_eq_some_iff.1 fW).1 fW
          go_wp2_with fail
          go_loopw [34] (fun i wr => ∃ (k : Nat) (L : List Line) (A' : Option Addr) (c' : Nat), k ≤ pl.length ∧ i = .int .i64 k ∧ L.length ≤ l.length + k ∧ wr.heap[X]? = some (.cells #[.int .i64 pz, .slice A' L.length c'] 42 (0, 0)) ∧ Ow wr w2.heap.size 84 3 (.slice A' L.length c') (L.map Line.cells) ∧ Below w2.heap.size w2 wr) (fun i _ => pl.length - (intOf i).toNat)
          case atStart => exact ⟨0, l, A8, cap8, Nat.zero_le _, rfl, by omega, fW, HO9.out, hb9⟩
          case round =>
            clear fW hb9 HO9 d0 d1 df dz e0 e1 ef ez
            obtain ⟨k, L, A', c', hk, rfl, hLl, hx, how, hb⟩ := hrel
            have hbz := hb.size
            have HW := Lib.hid how
            clear how
            obtain ⟨_, x0, x1, xf, xz⟩ := own2 (Below.refl wr.heap.size wr) (Array.getElem?_eq_some_iff.1 hx).1 hx
            have HX := Lib.hid hx
            clear hx
            by_cases hlk : k < pl.length
            · obtain ⟨b, off, rfl, hbB, c0, c1, c2⟩ := Line.rd (HRB.out.below (hB2.trans (hb.mono (by omega)))) hlk
              have hbr : b < wr.heap.size := by omega
              go_wp2_with fail
              refine (s_l02AddW L A' c' _ _ _ _ (by omega) (HW.out.alloc _).rd).mono ?_
              rintro e w5 ⟨L5, A5, cap5, rfl, hl5, how5, hb5⟩
              have z5 := hb5.size
              simp at z5
              have x5 := heap_below hb5 (by simp; omega) (heap_past xz HX.out)
              obtain ⟨_, y0, y1', yf, yz⟩ := own2 (Below.refl w5.heap.size w5) (Array.getElem?_eq_some_iff.1 x5).1 x5
              have HW5 := Lib.hid (how5.more (B' := w2.heap.size) (by simp; omega))
              have hB5 : Below w2.heap.size w2 w5 := (hb.alloc (by omega) _).trans (hb5.mono (by simp; omega))
              have HX5 := Lib.hid x5
              clear how5 hb5 x5
              go_wp2_with fail
              go_roundw
              case rel => exact ⟨k + 1, L5, A5, cap5, by omega, by go_num, by omega, heap_set HX5.out, HW5.out.asideP HX5.out (by decide), hB5.setCell (by omega) _⟩
              case measure => simp [intOf]; omega
            · obtain rfl : k = pl.length := by omega
              obtain ⟨b3, hb3'⟩ : ∃ b, ledgerB pz L = b := ⟨_, rfl⟩
              have H3 := Lib.hid hb3'
              clear hb3'
              go_wp2_with fail
              refine (s_LedgerOk pz L A' c' wr (by omega) HW.out.rd).mono ?_
              rintro e w6 ⟨rfl, hb6⟩
              have z6 := hb6.size
              rw [H3.out]
              have hb26 : Below w2.heap.size w2 w6 := hb.trans (hb6.mono (by omega))
              obtain ⟨rh6, _, _, r6f, r6z⟩ := own2 hb26 tz RH2.out
              obtain ⟨_, g0, g1, gf, gz⟩ := own2 hb6 xz HX.out
              have hB6 : Below w.heap.size w w6 := hB2.trans (hb26.mono (by omega))
              have RH6 := Lib.hid rh6
              clear rh6
              cases b3
              · go_wp2_with fail
                obtain ⟨s0, s1⟩ := two_selfP (a := .int .i64 0) (b := .slice none 0 0) RH6.out
                exact bodyPost_ret (v := .tuple #[.agg #[.int .i64 0, .slice none 0 0], .int .i64 3]) (by simp [results, Tryz.results127, go_sem, s0, s1]) rfl (ZERO.out 3 _ RH6.out hB6)
              · have HL := Lib.hid (ledgerB_iff.1 H3.out).2.1
                have HW6 := Lib.hid ((HW.out.below hb6).more (B' := w.heap.size + 3) (by omega))
                go_wp2_with fail
                obtain ⟨s0, s1⟩ := two_selfP (a := .int .i64 pz) (b := .slice A' L.length c') RH6.out
                exact bodyPost_ret (v := .tuple #[.agg #[.int .i64 pz, .slice A' L.length c'], .int .i64 0]) (by simp [results, Tryz.results127, go_sem, s0, s1]) rfl ⟨pz, 0, L, A', c', rfl, HL.out, ((HW6.out.far (by simp only; omega) _).far (by simp only; omega) _).more (by omega), (hB6.setCell (by simp; omega) _).setCell (by simp; omega) _⟩
        · obtain ⟨X, hX⟩ : ∃ X, w2.heap.size = X := ⟨_, rfl⟩
          obtain ⟨W, hW⟩ : ∃ W, (w8.setCell ⟨w2.heap.size, 0, none⟩ (.int .i64 pz)).setCell ⟨w2.heap.size, 1, none⟩ (.slice A8 l.length cap8) = W := ⟨_, rfl⟩
          have fW : W.heap[X]? = some (.cells #[.int .i64 pz, .slice A8 l.length cap8] 42 (0, 0)) := by rw [← hW, ← hX]; exact heap_set (heap_set bx)
          have hb9 : Below w2.heap.size w2 W := by rw [← hW]; exact (hB8.setCell (Nat.le_refl _) _).setCell (Nat.le_refl _) _
          have hO9 : Ow W w2.heap.size 84 3 (.slice A8 l.length cap8) (l.map Line.cells) := by rw [← hW]; exact (HO8.out.asideP bx (by decide)).asideP (heap_set bx) (by decide)
          have HO9 := Lib.hid hO9
          clear hO9
          have hX2 : w2.heap.size ≤ X := by omega
          rw [hW]
          rw [hX]
          clear hW hX HO8 hB8
          obtain ⟨_, d0, d1, df, dz⟩ := own2 hb9 qz PH2.out
          obtain ⟨_, e0, e1, ef, ez⟩ := own2 (Below.refl W.heap.size W) (Array.getElem?_eq_some_iff.1 fW).1 fW
          go_wp2_with fail
          go_loopw [34] (fun i wr => ∃ (k : Nat) (L : List Line) (A' : Option Addr) (c' : Nat), k ≤ pl.length ∧ i = .int .i64 k ∧ L.length ≤ l.length + k ∧ wr.heap[X]? = some (.cells #[.int .i64 pz, .slice A' L.length c'] 42 (0, 0)) ∧ Ow wr w2.heap.size 84 3 (.slice A' L.length c') (L.map Line.cells) ∧ Below w2.heap.size w2 wr) (fun i _ => pl.length - (intOf i).toNat)
          case atStart => exact ⟨0, l, A8, cap8, Nat.zero_le _, rfl, by omega, fW, HO9.out, hb9⟩
          case round =>
            clear fW hb9 HO9 d0 d1 df dz e0 e1 ef ez
            obtain ⟨k, L, A', c', hk, rfl, hLl, hx, how, hb⟩ := hrel
            have hbz := hb.size
            have HW := Lib.hid how
            clear how
            obtain ⟨_, x0, x1, xf, xz⟩ := own2 (Below.refl wr.heap.size wr) (Array.getElem?_eq_some_iff.1 hx).1 hx
            have HX := Lib.hid hx
            clear hx
            by_cases hlk : k < pl.length
            · obtain ⟨b, off, rfl, hbB, c0, c1, c2⟩ := Line.rd (HRB.out.below (hB2.trans (hb.mono (by omega)))) hlk
              have hbr : b < wr.heap.size := by omega
              go_wp2_with fail
              refine (s_l02AddW L A' c' _ _ _ _ (by omega) (HW.out.alloc _).rd).mono ?_
              rintro e w5 ⟨L5, A5, cap5, rfl, hl5, how5, hb5⟩
              have z5 := hb5.size
              simp at z5
              have x5 := heap_below hb5 (by simp; omega) (heap_past xz HX.out)
              obtain ⟨_, y0, y1', yf, yz⟩ := own2 (Below.refl w5.heap.size w5) (Array.getElem?_eq_some_iff.1 x5).1 x5
              have HW5 := Lib.hid (how5.more (B' := w2.heap.size) (by simp; omega))
              have hB5 : Below w2.heap.size w2 w5 := (hb.alloc (by omega) _).trans (hb5.mono (by simp; omega))
              have HX5 := Lib.hid x5
              clear how5 hb5 x5
              go_wp2_with fail
              go_roundw
              case rel => exact ⟨k + 1, L5, A5, cap5, by omega, by go_num, by omega, heap_set HX5.out, HW5.out.asideP HX5.out (by decide), hB5.setCell (by omega) _⟩
              case measure => simp [intOf]; omega
            · obtain rfl : k = pl.length := by omega
              obtain ⟨b3, hb3'⟩ : ∃ b, ledgerB pz L = b := ⟨_, rfl⟩
              have H3 := Lib.hid hb3'
              clear hb3'
              go_wp2_with fail
              refine (s_LedgerOk pz L A' c' wr (by omega) HW.out.rd).mono ?_
              rintro e w6 ⟨rfl, hb6⟩
              have z6 := hb6.size
              rw [H3.out]
              have hb26 : Below w2.heap.size w2 w6 := hb.trans (hb6.mono (by omega))
              obtain ⟨rh6, _, _, r6f, r6z⟩ := own2 hb26 tz RH2.out
              obtain ⟨_, g0, g1, gf, gz⟩ := own2 hb6 xz HX.out
              have hB6 : Below w.heap.size w w6 := hB2.trans (hb26.mono (by omega))
              have RH6 := Lib.hid rh6
              clear rh6
              cases b3
              · go_wp2_with fail
                obtain ⟨s0, s1⟩ := two_selfP (a := .int .i64 0) (b := .slice none 0 0) RH6.out
                exact bodyPost_ret (v := .tuple #[.agg #[.int .i64 0, .slice none 0 0], .int .i64 3]) (by simp [results, Tryz.results127, go_sem, s0, s1]) rfl (ZERO.out 3 _ RH6.out hB6)
              · have HL := Lib.hid (ledgerB_iff.1 H3.out).2.1
                have HW6 := Lib.hid ((HW.out.below hb6).more (B' := w.heap.size + 3) (by omega))
                go_wp2_with fail
                obtain ⟨s0, s1⟩ := two_selfP (a := .int .i64 pz) (b := .slice A' L.length c') RH6.out
                exact bodyPost_ret (v := .tuple #[.agg #[.int .i64 pz, .slice A' L.length c'], .int .i64 0]) (by simp [results, Tryz.results127, go_sem, s0, s1]) rfl ⟨pz, 0, L, A', c', rfl, HL.out, ((HW6.out.far (by simp only; omega) _).far (by simp only; omega) _).more (by omega), (hB6.setCell (by simp; omega) _).setCell (by simp; omega) _⟩
end Go.Proofs.YtgpledgjpjifcaaGreatDoor
