/- The program's TextBook returns what the reference's returns, for all arguments; the tied card. -/
import Derived.Test.YtcjbjpobpefehaaGreatDoorRows
import Derived.Test.YtcjbjpobpefehaaGreatDoorCards
import Derived.Test.YtcjbjpobpefehaaGreatDoorTie
import Derived.Test.YtcjbjpobpefehaaGreatDoorBkRi
import Derived.Test.YtcjbjpobpefehaaGreatDoorBkRs
import Derived.Test.YtcjbjpobpefehaaGreatDoorM2
import Derived.Test.YtcjbjpobpefehaaGreatDoorBookMk
import Derived.Test.YtcjbjpobpefehaaGreatDoorM3
import Derived.SevenTiedAt
namespace Go.Proofs.YtcjbjpobpefehaaGreatDoor
open Go.ChangeShapes Go.WideShapes Go.ChangeAt Go.RowKit

theorem book_is_len {s : List UInt8} {b : Bk} {ok : Bool} (h : BookIs s b.t b.n b.w b.cs b.hs b.os ok) : b.cs.length ≤ 20 ∧ b.hs.length ≤ 60 ∧ b.os.length ≤ 20 := by
  rcases h with ⟨_, h, _⟩ | ⟨_, _, _, _, h1, h2, h3, _⟩
  · have f := bookB_facts h
    exact ⟨f.cl, f.small.hl, f.small.ol⟩
  · rw [h1, h2, h3]
    simp
theorem BookIs.eq_ {s : List UInt8} {b b' : Bk} {ok ok' : Bool} (h : BookIs s b.t b.n b.w b.cs b.hs b.os ok) (h' : BookIs s b'.t b'.n b'.w b'.cs b'.hs b'.os ok') : b = b' ∧ ok = ok' := by
  obtain ⟨h1, h2, h3, h4, h5, h6, h7⟩ := h.one h'
  refine ⟨?_, h7⟩
  cases b
  cases b'
  simp_all
set_option maxRecDepth 100000 in
set_option maxHeartbeats 4000000 in
theorem l_FnExactTextBook (s : ByteArray) (w : World) (hld : Le w) (hm : s.size ≤ maxLen) :
    Calls Tryz.prog 4 #[.string s] w fun e w' => e = .returned (.bool true) ∧ Below w.heap.size w w' := by
  have HLD := Lib.hid hld
  have HM := Lib.hid hm
  clear hld hm
  by_cases hs : s.size ≤ 1048576
  · go_enter Tryz.func4, Tryz.ntmps4
    go_wp2_with fail
    refine (s_TextBook s _ hs).mono ?_
    rintro e w1 ⟨b, A1, A2, A3, p1, p2, p3, ok, rfl, how1, hd1, hb1⟩
    have z1 := hb1.size
    (try simp at z1)
    have HD1 := Lib.hid hd1
    have HD2 := Lib.hid hd1
    obtain ⟨hl1, hl2, hl3⟩ := book_is_len hd1
    have HR1 := Lib.hid how1.rd
    have hbA : Below w.heap.size w w1 := by (first | ((repeat' first | (with_reducible (first | exact Below.refl _ _ | assumption | refine Below.setCell ?_ ?_ _ | refine Below.alloc ?_ ?_ _ | refine Below.drew ?_ | refine below_drewN ?_ _ | refine Below.trans ?_ (Below.mono (by assumption) ?_))) | omega | (simp; omega) | (simp; done)); done) | (repeat' first | exact Below.refl _ _ | assumption | refine Below.setCell ?_ (by first | omega | (simp; omega) | (simp; done)) _ | refine Below.alloc ?_ (by first | omega | (simp; omega) | (simp; done)) _ | refine Below.drew ?_ | refine below_drewN ?_ _ | refine Below.trans ?_ (Below.mono (by assumption) (by first | omega | (simp; omega) | (simp; done)))))
    clear hd1 hb1 how1
    unfold bkVal
    go_wp2_with fail
    refine (i_TextBook s _ (HLD.out.below (by (first | ((repeat' first | (with_reducible (first | exact Below.refl _ _ | assumption | refine Below.setCell ?_ ?_ _ | refine Below.alloc ?_ ?_ _ | refine Below.drew ?_ | refine below_drewN ?_ _ | refine Below.trans ?_ (Below.mono (by assumption) ?_))) | omega | (simp; omega) | (simp; done)); done) | (repeat' first | exact Below.refl _ _ | assumption | refine Below.setCell ?_ (by first | omega | (simp; omega) | (simp; done)) _ | refine Below.alloc ?_ (by first | omega | (simp; omega) | (simp; done)) _ | refine Below.drew ?_ | refine below_drewN ?_ _ | refine Below.trans ?_ (Below.mono (by assumption) (by first | omega | (simp; omega) | (simp; done))))))) hs).mono ?_
    rintro e w2 ⟨b', C1, C2, C3, q1, q2, q3, ok', rfl, how2, hd2, hb2⟩
    have z2 := hb2.size
    (try simp at z2)
    obtain ⟨rfl, rfl⟩ := BookIs.eq_ hd2 HD1.out
    have X0 := heap_below (n := w1.heap.size) hb2 (by simp) (heap_at rfl)
    have hR2 := HR1.out.below (((Below.refl w1.heap.size w1).alloc (Nat.le_refl _) _).trans (hb2.mono (by simp)))
    have hbB : Below w.heap.size w w2 := by (first | ((repeat' first | (with_reducible (first | exact Below.refl _ _ | assumption | refine Below.setCell ?_ ?_ _ | refine Below.alloc ?_ ?_ _ | refine Below.drew ?_ | refine below_drewN ?_ _ | refine Below.trans ?_ (Below.mono (by assumption) ?_))) | omega | (simp; omega) | (simp; done)); done) | (repeat' first | exact Below.refl _ _ | assumption | refine Below.setCell ?_ (by first | omega | (simp; omega) | (simp; done)) _ | refine Below.alloc ?_ (by first | omega | (simp; omega) | (simp; done)) _ | refine Below.drew ?_ | refine below_drewN ?_ _ | refine Below.trans ?_ (Below.mono (by assumption) (by first | omega | (simp; omega) | (simp; done)))))
    obtain ⟨B2, hB2⟩ : ∃ B2, w1.heap.size + 1 = B2 := ⟨_, rfl⟩
    have e2 : (w1.alloc (.cells #[.int .i64 b'.t, .int .i64 b'.n, .int .i64 b'.w, .slice A1 b'.cs.length p1, .slice A2 b'.hs.length p2, .slice A3 b'.os.length p3] 27)).heap.size = B2 := by rw [← hB2]; simp
    rw [e2] at how2
    have HR2 := Lib.hid hR2
    have HG2 := Lib.hid how2
    obtain ⟨_, a0, a1, a2, a3, a4, a5, af, az⟩ := own6 (g := w1.heap.size) (Below.refl _ w2) (by omega) X0
    have HX0 := Lib.hid X0
    have HB2 := Lib.hid hB2
    have hB2le : B2 ≤ w2.heap.size := by omega
    have hB2w : w.heap.size ≤ B2 := by omega
    have hB2x : w1.heap.size < B2 := by omega
    clear hb2 hd2 how2 hR2 X0 HR1 HD1 e2 hB2
    unfold bkVal
    go_wp2_with fail
    refine (l_eqBook _ _ _ b'.cs b'.hs b'.os _ _ _ _ _ _ _ _ _ _ _ _ _ (by omega) (by omega) (by omega) ((HG2.out.rd.below (Below.refl _ _ |>.alloc (Nat.le_refl _) _)).more (by simp)) ((HR2.out.below (((Below.refl w1.heap.size w2).alloc (by omega) _))).more (by simp; omega))).mono ?_
    rintro e w3 ⟨rfl, hb3⟩
    have z3 := hb3.size
    (try simp at z3)
    have HG3 := Lib.hid ((HG2.out.alloc _).below hb3)
    have HR3 := Lib.hid (HR2.out.below (((Below.refl w1.heap.size w2).alloc (by omega) _).trans (hb3.mono (by simp; omega))))
    have X0 := heap_below (n := w1.heap.size) hb3 (by simp; omega) (heap_past (by omega) HX0.out)
    have X1 := heap_below (n := w2.heap.size) hb3 (by simp) (heap_at rfl)
    have hbC : Below w.heap.size w w3 := by (first | ((repeat' first | (with_reducible (first | exact Below.refl _ _ | assumption | refine Below.setCell ?_ ?_ _ | refine Below.alloc ?_ ?_ _ | refine Below.drew ?_ | refine below_drewN ?_ _ | refine Below.trans ?_ (Below.mono (by assumption) ?_))) | omega | (simp; omega) | (simp; done)); done) | (repeat' first | exact Below.refl _ _ | assumption | refine Below.setCell ?_ (by first | omega | (simp; omega) | (simp; done)) _ | refine Below.alloc ?_ (by first | omega | (simp; omega) | (simp; done)) _ | refine Below.drew ?_ | refine below_drewN ?_ _ | refine Below.trans ?_ (Below.mono (by assumption) (by first | omega | (simp; omega) | (simp; done)))))
    obtain ⟨_, c0, c1, c2, c3, c4, c5, cf, cz⟩ := own6 (g := w2.heap.size) (Below.refl _ w3) (by omega) X1
    have HX0b := Lib.hid X0
    have HX1 := Lib.hid X1
    clear hb3 X0 X1 HG2 HR2 HX0 a0 a1 a2 a3 a4 a5 af
    go_wp2_with fail
    refine (l_markBookO _ _ _ B2 b'.cs b'.hs b'.os _ _ _ _ _ _ _ _ (by decide) (by decide) (by omega) (by omega) (by omega) (by omega) HG3.out.c HG3.out.h HG3.out.o).mono ?_
    rintro e w4 ⟨rfl, hmk, hbm, hfr⟩
    have z4 := hbm.size
    have z4b : w3.heap.size ≤ w4.heap.size := by
      have := HX1.out
      exact hbm.size
    have HMK := Lib.hid hmk
    have X0 := hfr.box HX0b.out (by decide)
    have X1 := hfr.box HX1.out (by decide)
    have HR4 := Lib.hid (HR3.out.below (hbm.mono (by omega)))
    have hbD : Below w.heap.size w w4 := hbC.trans (hbm.mono hB2w)
    obtain ⟨_, d0, d1, d2, d3, d4, d5, df, dz⟩ := own6 (g := w2.heap.size) (Below.refl _ w4) (Array.getElem?_eq_some_iff.1 X1).1 X1
    have HX0c := Lib.hid X0
    have HX1b := Lib.hid X1
    obtain ⟨Lg, hLg, hLg0, hLg1⟩ : ∃ Lg : Int, (1 : Int) + (b'.cs.length * 7 : Nat) + (b'.hs.length * 7 : Nat) + (b'.os.length * 5 : Nat) = Lg ∧ decide (Lg < 0) = false ∧ Lg ≤ 1048576 := ⟨_, rfl, by simp; omega, by omega⟩
    have HLG := Lib.hid hLg
    rw [hLg]
    clear hfr hbm hmk X0 X1 c0 c1 c2 c3 c4 c5 cf HX0b HX1 HG3 HR3 hLg
    go_wp2_with fail
    refine (l_heldBookO _ _ _ _ _ _ _ _ _ _ _ _ _ _ (by decide) (by decide) (by omega) (by omega) (by omega) HMK.out).mono ?_
    rintro e w5 ⟨rfl, hb5⟩
    have z5 := hb5.size
    rw [HLG.out]
    have HMK5 := Lib.hid (HMK.out.below hb5)
    have HR5 := Lib.hid (HR4.out.below (hb5.mono (by omega)))
    have X0 := heap_below hb5 (Array.getElem?_eq_some_iff.1 HX0c.out).1 HX0c.out
    have X1 := heap_below hb5 (Array.getElem?_eq_some_iff.1 HX1b.out).1 HX1b.out
    have hbE : Below w.heap.size w w5 := by (first | ((repeat' first | (with_reducible (first | exact Below.refl _ _ | assumption | refine Below.setCell ?_ ?_ _ | refine Below.alloc ?_ ?_ _ | refine Below.drew ?_ | refine below_drewN ?_ _ | refine Below.trans ?_ (Below.mono (by assumption) ?_))) | omega | (simp; omega) | (simp; done)); done) | (repeat' first | exact Below.refl _ _ | assumption | refine Below.setCell ?_ (by first | omega | (simp; omega) | (simp; done)) _ | refine Below.alloc ?_ (by first | omega | (simp; omega) | (simp; done)) _ | refine Below.drew ?_ | refine below_drewN ?_ _ | refine Below.trans ?_ (Below.mono (by assumption) (by first | omega | (simp; omega) | (simp; done)))))
    have HX0 := Lib.hid X0
    have HX1 := Lib.hid X1
    clear hb5 X0 X1 d0 d1 d2 d3 d4 d5 df HX0c HX1b HMK HR4
    go_wp2_with fail
    refine (i_TextBook s _ (HLD.out.below (by (first | ((repeat' first | (with_reducible (first | exact Below.refl _ _ | assumption | refine Below.setCell ?_ ?_ _ | refine Below.alloc ?_ ?_ _ | refine Below.drew ?_ | refine below_drewN ?_ _ | refine Below.trans ?_ (Below.mono (by assumption) ?_))) | omega | (simp; omega) | (simp; done)); done) | (repeat' first | exact Below.refl _ _ | assumption | refine Below.setCell ?_ (by first | omega | (simp; omega) | (simp; done)) _ | refine Below.alloc ?_ (by first | omega | (simp; omega) | (simp; done)) _ | refine Below.drew ?_ | refine below_drewN ?_ _ | refine Below.trans ?_ (Below.mono (by assumption) (by first | omega | (simp; omega) | (simp; done))))))) hs).mono ?_
    rintro e w6 ⟨b2, D1, D2, D3, r1, r2, r3, ok2, rfl, how6, hd6, hb6⟩
    have z6 := hb6.size
    obtain ⟨rfl, rfl⟩ := BookIs.eq_ hd6 HD2.out
    have HG6 := Lib.hid how6
    have HMK6 := Lib.hid (HMK5.out.below hb6)
    have HR6 := Lib.hid (HR5.out.below (hb6.mono (by omega)))
    have X0 := heap_below hb6 (Array.getElem?_eq_some_iff.1 HX0.out).1 HX0.out
    have X1 := heap_below hb6 (Array.getElem?_eq_some_iff.1 HX1.out).1 HX1.out
    have hbF : Below w.heap.size w w6 := by (first | ((repeat' first | (with_reducible (first | exact Below.refl _ _ | assumption | refine Below.setCell ?_ ?_ _ | refine Below.alloc ?_ ?_ _ | refine Below.drew ?_ | refine below_drewN ?_ _ | refine Below.trans ?_ (Below.mono (by assumption) ?_))) | omega | (simp; omega) | (simp; done)); done) | (repeat' first | exact Below.refl _ _ | assumption | refine Below.setCell ?_ (by first | omega | (simp; omega) | (simp; done)) _ | refine Below.alloc ?_ (by first | omega | (simp; omega) | (simp; done)) _ | refine Below.drew ?_ | refine below_drewN ?_ _ | refine Below.trans ?_ (Below.mono (by assumption) (by first | omega | (simp; omega) | (simp; done)))))
    obtain ⟨_, e0, e1, e2, e3, e4, e5, ef, ez⟩ := own6 (g := w1.heap.size) (Below.refl _ w6) (Array.getElem?_eq_some_iff.1 X0).1 X0
    have HX0b := Lib.hid X0
    have HX1b := Lib.hid X1
    clear hb6 how6 hd6 X0 X1 HX0 HX1 HMK5 HR5
    unfold bkVal
    go_wp2_with fail
    refine (l_eqBook _ _ _ b2.cs b2.hs b2.os _ _ _ _ _ _ _ _ _ _ _ _ _ (by omega) (by omega) (by omega) ((HG6.out.rd.below (Below.refl _ _ |>.alloc (Nat.le_refl _) _)).more (by simp)) ((HR6.out.below (((Below.refl w1.heap.size w6).alloc (by omega) _))).more (by simp; omega))).mono ?_
    rintro e w7 ⟨rfl, hb7⟩
    have z7 := hb7.size
    (try simp at z7)
    have X1 := heap_below (n := w2.heap.size) hb7 (by simp; omega) (heap_past (Array.getElem?_eq_some_iff.1 HX1b.out).1 HX1b.out)
    have HMK7 := Lib.hid (HMK6.out.below (((Below.refl _ _).alloc (Nat.le_refl _) _).trans (hb7.mono (by simp))))
    obtain ⟨_, f0, f1, f2, f3, f4, f5, ff, fz⟩ := own6 (g := w2.heap.size) (Below.refl _ w7) (Array.getElem?_eq_some_iff.1 X1).1 X1
    have hbG : Below w.heap.size w w7 := by (first | ((repeat' first | (with_reducible (first | exact Below.refl _ _ | assumption | refine Below.setCell ?_ ?_ _ | refine Below.alloc ?_ ?_ _ | refine Below.drew ?_ | refine below_drewN ?_ _ | refine Below.trans ?_ (Below.mono (by assumption) ?_))) | omega | (simp; omega) | (simp; done)); done) | (repeat' first | exact Below.refl _ _ | assumption | refine Below.setCell ?_ (by first | omega | (simp; omega) | (simp; done)) _ | refine Below.alloc ?_ (by first | omega | (simp; omega) | (simp; done)) _ | refine Below.drew ?_ | refine below_drewN ?_ _ | refine Below.trans ?_ (Below.mono (by assumption) (by first | omega | (simp; omega) | (simp; done)))))
    clear hb7 X1 e0 e1 e2 e3 e4 e5 ef HMK6 HX0b HX1b
    go_wp2_with fail
    refine (l_heldBookO _ _ _ _ _ _ _ _ _ _ _ _ _ _ (by decide) (by decide) (by omega) (by omega) (by omega) HMK7.out).mono ?_
    rintro e w8 ⟨rfl, hb8⟩
    have z8 := hb8.size
    rw [HLG.out]
    go_wp2_with fail
    go_ret
    refine ⟨rfl, ?_⟩
    (first | ((repeat' first | (with_reducible (first | exact Below.refl _ _ | assumption | refine Below.setCell ?_ ?_ _ | refine Below.alloc ?_ ?_ _ | refine Below.drew ?_ | refine below_drewN ?_ _ | refine Below.trans ?_ (Below.mono (by assumption) ?_))) | omega | (simp; omega) | (simp; done)); done) | (repeat' first | exact Below.refl _ _ | assumption | refine Below.setCell ?_ (by first | omega | (simp; omega) | (simp; done)) _ | refine Below.alloc ?_ (by first | omega | (simp; omega) | (simp; done)) _ | refine Below.drew ?_ | refine below_drewN ?_ _ | refine Below.trans ?_ (Below.mono (by assumption) (by first | omega | (simp; omega) | (simp; done)))))
  · have hs' : (1048576 : Int) < (s.size : Int) := by omega
    go_enter Tryz.func4, Tryz.ntmps4
    go_wp2_with fail
    go_ret
    refine ⟨rfl, ?_⟩
    (first | ((repeat' first | (with_reducible (first | exact Below.refl _ _ | assumption | refine Below.setCell ?_ ?_ _ | refine Below.alloc ?_ ?_ _ | refine Below.drew ?_ | refine below_drewN ?_ _ | refine Below.trans ?_ (Below.mono (by assumption) ?_))) | omega | (simp; omega) | (simp; done)); done) | (repeat' first | exact Below.refl _ _ | assumption | refine Below.setCell ?_ (by first | omega | (simp; omega) | (simp; done)) _ | refine Below.alloc ?_ (by first | omega | (simp; omega) | (simp; done)) _ | refine Below.drew ?_ | refine below_drewN ?_ _ | refine Below.trans ?_ (Below.mono (by assumption) (by first | omega | (simp; omega) | (simp; done)))))
theorem FnExactTextBook_own : ownKnob Tryz.prog.godebug = none := by kernel_rfl
theorem FnExactTextBook_laidOut : laidOutB Tryz.prog = true := by kernel_rfl
set_option maxRecDepth 100000 in
theorem FnExactTextBook_lifted (os : Os) (started : os.Started) (H : Type) (enc : TypeId × Value → H) :
    ReturnsInHanded {} Tryz.checked os 4 .any (fun w args => (Rows.fnExactTextBookSpec.pre enc Tryz.prog Tryz.f4 Rows.fnExactTextBookRow.domain false w args ∧ laidMetH Tryz.prog Rows.fnExactTextBookRow.laid w) ∧ sizedMet enc Tryz.prog Tryz.f4 (OpenSpec.ofChange Rows.fnExactTextBookSpec) false w args)
      (Rows.fnExactTextBookSpec.post enc Tryz.prog Tryz.f4 false true false false) := by
  refine returnsInHanded_laid (C := Tryz.checked) FnExactTextBook_own started (by kernel_rfl) Tryz.func4
    (ChangeSpec.witness_shaped (enc := enc) (C := Tryz.checked) (os := os) (X := fun w _ => laidMetH Tryz.prog Rows.fnExactTextBookRow.laid w) false (World.laidAll Tryz.prog os Rows.fnExactTextBookRow.laid) #[.string ⟨#[]⟩] 8 (World.laidAll_os _ _ _)
      (World.shaped_of_ZipB (by kernel_rfl) (by kernel_rfl)) (by kernel_rfl) (by kernel_rfl) (by kernel_rfl)
      (by rw [MakeChecks.laidMetH_plain _ _ _ (by kernel_rfl)]; exact laidMet_laidAll _ (by kernel_rfl) (by kernel_rfl))) ?_
  intro W base args ds gs before hval0 hW hcnd hlaid hshape
  have hval : ∀ (j : Nat) t v, Tryz.f4.params[j]? = some t → args[j]? = some v → Value.okWide Tryz.prog W .any base t v := hval0
  have hW' := hW
  obtain ⟨p, q, hA0, hV, rfl, hfz, hnd⟩ := hW
  have hA : DataW.TrodAll enc Tryz.prog W 0 (fun _ => true) true Tryz.f4.params.toList args.toList ds p := hA0
  rw [Tryz.params4] at hA hval
  obtain ⟨v0, vs0, d0, ds0, p0, q0, hargs, rfl, rfl, h0, r0⟩ := trodAll_cons hA
  obtain ⟨rfl, rfl, rfl⟩ := trodAll_nil r0
  obtain rfl : args = #[v0] := by cases args; simp_all
  obtain ⟨s0, rfl, _, _, z0⟩ := Go.ChangeMaps.open_string Tryz.underlying9 (hval 0 9 v0 rfl rfl) h0
  refine (l_FnExactTextBook s0 W (Le.laid hlaid hshape (by kernel_rfl)) z0).mono fun e W' ⟨he, hb⟩ => ⟨_, he, ?_⟩
  exact law_post FnExactTextBook_laidOut (by kernel_rfl) (tb := 4) rfl Tryz.underlying4 rfl (fun ds' hl => by match ds', hl with | [_], _ => rfl) hW' hb

theorem FnExactTextBook_holds : Rows.FnExactTextBookSaid :=
  OpenClaim.holds_of_wide 4 Tryz.f4 rfl rfl rfl rfl rfl rfl rfl ⟨rfl, rfl, rfl, rfl, rfl⟩ rfl rfl rfl rfl rfl (by kernel_rfl) Tryz.func4 (by kernel_rfl)
    (of_decide_eq_true (by kernel_rfl)) (by unfold Func.isWrapper; first | (rw [if_pos (by decide +kernel)]; kernel_rfl) | (rw [if_neg (by decide +kernel)]; exact ⟨rfl, rfl⟩))
    (fun os started H enc _ => FnExactTextBook_lifted os started H enc)
theorem FnExactTextBook_card : Rows.FnExactTextBookCardSaid :=
  Claim7.holds_tied_plain_at .later [] [.data, .data, .data, .data, .sentinel, .sentinel, .pinned] true (true, "25ffc9cb3bb1fc77a540dc3b02b6f9c8a3e550e16e575f167e12494df51d30db") true FnExactTextBook_holds (fun _ h => by cases h) (by kernel_rfl) (fun _ h => by cases h) fnExactTextBook_row_tie rfl ⟨rfl, rfl⟩ (by kernel_rfl) rfl
    (fun f fn hf hfn => by
      obtain rfl : f = 4 := Option.some.inj ((show Tryz.prog.funcNamed "loop.example/g00400/laws.FnExactTextBook" = some 4 by kernel_rfl).symm.trans hf) |>.symm
      obtain rfl : fn = Tryz.f4 := (Option.some.inj (Tryz.func4.symm.trans hfn)).symm
      exact ⟨by kernel_rfl, fun j t ht => by
        rw [Tryz.params4] at ht
        have hm : t ∈ [9] := by simpa using Array.mem_of_getElem? ht
        have hall : ([9].all fun u => !Tryz.prog.wantsStandIn u) = true := by kernel_rfl
        exact (show Tryz.prog.wantsStandIn t = false by simpa using List.all_eq_true.1 hall t hm)⟩)
    (by kernel_rfl)
#print axioms FnExactTextBook_card
end Go.Proofs.YtcjbjpobpefehaaGreatDoor
