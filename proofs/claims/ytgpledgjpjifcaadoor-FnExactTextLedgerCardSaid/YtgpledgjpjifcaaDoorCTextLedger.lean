/- The program's TextLedger returns what the reference's returns, for all arguments; the tied card. -/
import Derived.Test.YtgpledgjpjifcaaDoorRows
import Derived.Test.YtgpledgjpjifcaaDoorCards
import Derived.Test.YtgpledgjpjifcaaDoorTie
import Derived.Test.YtgpledgjpjifcaaDoorTLedS
import Derived.Test.YtgpledgjpjifcaaDoorLedgerM
import Derived.Test.YtgpledgjpjifcaaDoorLeRow
import Derived.SevenTiedAt
namespace Go.Proofs.YtgpledgjpjifcaaDoor
open Go.ChangeShapes Go.WideShapes Go.ChangeAt Go.RowKit

theorem led_is_len {s : List UInt8} {z : Int} {L : List Line} {ok : Bool} (h : LedIs ledgerB ledgerL s z L ok) : L.length ≤ 320 := by
  rcases h with ⟨_, h, _⟩ | ⟨_, _, rfl, _⟩
  · have := ledgerB_iff.1 h
    omega
  · exact Nat.zero_le _
set_option maxRecDepth 100000 in
set_option maxHeartbeats 4000000 in
theorem l_FnExactTextLedger (s : ByteArray) (w : World) (hld : Le w) (hm : s.size ≤ maxLen) :
    Calls Tryd.prog 10 #[.string s] w fun e w' => e = .returned (.bool true) ∧ Below w.heap.size w w' := by
  have HLD := Lib.hid hld
  have HM := Lib.hid hm
  clear hld hm
  by_cases hs : s.size ≤ 1048576
  · go_enter Tryd.func10, Tryd.ntmps10
    go_wp2_with fail
    refine (s_TextLedger s _ hs).mono ?_
    rintro e w1 ⟨z, L, A1, cap1, ok, rfl, how1, hd1, hb1⟩
    have z1 := hb1.size
    (try simp at z1)
    have HD1 := Lib.hid hd1
    have HD2 := Lib.hid hd1
    have hl := led_is_len hd1
    have HO1 := Lib.hid how1
    have hbA : Below w.heap.size w w1 := by (first | ((repeat' first | (with_reducible (first | exact Below.refl _ _ | assumption | refine Below.setCell ?_ ?_ _ | refine Below.alloc ?_ ?_ _ | refine Below.drew ?_ | refine below_drewN ?_ _ | refine Below.trans ?_ (Below.mono (by assumption) ?_))) | omega | (simp; omega) | (simp; done)); done) | (repeat' first | exact Below.refl _ _ | assumption | refine Below.setCell ?_ (by first | omega | (simp; omega) | (simp; done)) _ | refine Below.alloc ?_ (by first | omega | (simp; omega) | (simp; done)) _ | refine Below.drew ?_ | refine below_drewN ?_ _ | refine Below.trans ?_ (Below.mono (by assumption) (by first | omega | (simp; omega) | (simp; done)))))
    clear hd1 hb1 how1
    go_wp2_with fail
    refine (i_TextLedger s _ (HLD.out.below (by (first | ((repeat' first | (with_reducible (first | exact Below.refl _ _ | assumption | refine Below.setCell ?_ ?_ _ | refine Below.alloc ?_ ?_ _ | refine Below.drew ?_ | refine below_drewN ?_ _ | refine Below.trans ?_ (Below.mono (by assumption) ?_))) | omega | (simp; omega) | (simp; done)); done) | (repeat' first | exact Below.refl _ _ | assumption | refine Below.setCell ?_ (by first | omega | (simp; omega) | (simp; done)) _ | refine Below.alloc ?_ (by first | omega | (simp; omega) | (simp; done)) _ | refine Below.drew ?_ | refine below_drewN ?_ _ | refine Below.trans ?_ (Below.mono (by assumption) (by first | omega | (simp; omega) | (simp; done))))))) hs).mono ?_
    rintro e w2 ⟨z', L', A2, cap2, ok', rfl, how2, hd2, hb2⟩
    have z2 := hb2.size
    (try simp at z2)
    obtain ⟨rfl, rfl, rfl⟩ := LedIs.one ledgerL_inj hd2 HD1.out
    have hO1 := HO1.out.alloc (.cells #[.int .i64 z', .slice A1 L'.length cap1] 35)
    have hO2 := hO1.below hb2
    have b1h := HO1.out.block
    have b2h := how2.block
    have hDF : (Value.slice A1 L'.length cap1).ownBlock = none ∨ (Value.slice A1 L'.length cap1).ownBlock ≠ (Value.slice A2 L'.length cap2).ownBlock := by
      cases hv : (Value.slice A1 L'.length cap1).ownBlock with
      | none => exact Or.inl rfl
      | some g1 =>
        refine Or.inr (fun e => ?_)
        have h1 := (b1h g1 hv).2
        have h2 := (b2h g1 e.symm).1
        simp at h2
        omega
    have X0 := heap_below (n := w1.heap.size) hb2 (by simp) (heap_at rfl)
    have hbB : Below w.heap.size w w2 := by (first | ((repeat' first | (with_reducible (first | exact Below.refl _ _ | assumption | refine Below.setCell ?_ ?_ _ | refine Below.alloc ?_ ?_ _ | refine Below.drew ?_ | refine below_drewN ?_ _ | refine Below.trans ?_ (Below.mono (by assumption) ?_))) | omega | (simp; omega) | (simp; done)); done) | (repeat' first | exact Below.refl _ _ | assumption | refine Below.setCell ?_ (by first | omega | (simp; omega) | (simp; done)) _ | refine Below.alloc ?_ (by first | omega | (simp; omega) | (simp; done)) _ | refine Below.drew ?_ | refine below_drewN ?_ _ | refine Below.trans ?_ (Below.mono (by assumption) (by first | omega | (simp; omega) | (simp; done)))))
    have HDF := Lib.hid hDF
    have HO2 := Lib.hid hO2
    have HG2 := Lib.hid (how2.alloc (.cells #[.int .i64 z', .slice A2 L'.length cap2] 35))
    obtain ⟨_, a0, a1, af, az⟩ := own2 (g := w1.heap.size) (Below.refl _ w2) (by omega) X0
    have HX0 := Lib.hid X0
    clear hb2 hd2 how2 hO1 hO2 b1h b2h hDF X0 HO1 HD1
    obtain ⟨Lg, hLg, hLg0⟩ : ∃ Lg : Int, (1 : Int) + ((L'.map Line.cells).length * 3 : Nat) = Lg ∧ decide (Lg < 0) = false := ⟨_, rfl, by simp; omega⟩
    have HLG := Lib.hid hLg
    have HLG2 : Hid ((1 : Int) + (L'.length * 3 : Nat) = Lg) := Lib.hid (by rw [← hLg, List.length_map])
    clear hLg
    go_wp2_with fail
    refine (l_eqLedger _ L' _ _ _ _ _ (by omega) (HG2.out.rd.below (Below.refl _ _)) ((HO2.out.alloc _).rd.below (Below.refl _ _))).mono ?_
    rintro e w3 ⟨rfl, hb3⟩
    have z3 := hb3.size
    (try simp at z3)
    have HG3 := Lib.hid (HG2.out.below hb3)
    have HO3 := Lib.hid ((HO2.out.alloc _).below hb3)
    have X0 := heap_below (n := w1.heap.size) hb3 (by simp; omega) (heap_past (by omega) HX0.out)
    have X1 := heap_below (n := w2.heap.size) hb3 (by simp) (heap_at rfl)
    have hbC : Below w.heap.size w w3 := by (first | ((repeat' first | (with_reducible (first | exact Below.refl _ _ | assumption | refine Below.setCell ?_ ?_ _ | refine Below.alloc ?_ ?_ _ | refine Below.drew ?_ | refine below_drewN ?_ _ | refine Below.trans ?_ (Below.mono (by assumption) ?_))) | omega | (simp; omega) | (simp; done)); done) | (repeat' first | exact Below.refl _ _ | assumption | refine Below.setCell ?_ (by first | omega | (simp; omega) | (simp; done)) _ | refine Below.alloc ?_ (by first | omega | (simp; omega) | (simp; done)) _ | refine Below.drew ?_ | refine below_drewN ?_ _ | refine Below.trans ?_ (Below.mono (by assumption) (by first | omega | (simp; omega) | (simp; done)))))
    obtain ⟨_, c0, c1, cf, cz⟩ := own2 (g := w2.heap.size) (Below.refl _ w3) (by omega) X1
    have HX0 := Lib.hid X0
    have HX1 := Lib.hid X1
    clear hb3 X0 X1 HG2 HO2 a0 a1 af
    go_wp2_with fail
    refine (l_markLedger 0 _ _ (L'.map Line.cells) _ _ (by decide) (by decide) (by rw [List.length_map]; omega) (HG3.out.more (Nat.zero_le _))).mono ?_
    rintro e w4 ⟨rfl, hmk, hgr⟩
    have z4 := hgr.size
    rw [HLG.out]
    have HMK := Lib.hid (hmk A2 L'.length cap2 rfl)
    have N0 := HG3.out.ne_ HX0.out (by decide)
    have N1 := HG3.out.ne_ HX1.out (by decide)
    have X0 := heap_grown hgr N0 HX0.out
    have X1 := heap_grown hgr N1 HX1.out
    have HO4 := Lib.hid (HO3.out.grown hgr HDF.out)
    have hbD : Below w.heap.size w w4 := hbC.grown hgr (by omega) (fun k e => by have := (HG3.out.block k e).1; simp at this; omega)
    obtain ⟨_, d0, d1, df, dz⟩ := own2 (g := w2.heap.size) (Below.refl _ w4) (by omega) X1
    have HX0b := Lib.hid X0
    have HX1b := Lib.hid X1
    clear hgr hmk X0 X1 c0 c1 cf HX0 HX1 N0 N1 HG3 HO3 HDF
    go_wp2_with fail
    refine (l_heldLedger _ A2 L'.length cap2 _ _ (by decide) (by decide) (by omega) (by have := HMK.out; rw [List.length_map] at this; exact this)).mono ?_
    rintro e w5 ⟨rfl, hb5⟩
    have z5 := hb5.size
    rw [HLG2.out]
    have HMK5 := Lib.hid (HMK.out.below hb5)
    have HO5 := Lib.hid (HO4.out.below hb5)
    have X0 := heap_below hb5 (by omega) HX0b.out
    have X1 := heap_below hb5 (by omega) HX1b.out
    have hbE : Below w.heap.size w w5 := by (first | ((repeat' first | (with_reducible (first | exact Below.refl _ _ | assumption | refine Below.setCell ?_ ?_ _ | refine Below.alloc ?_ ?_ _ | refine Below.drew ?_ | refine below_drewN ?_ _ | refine Below.trans ?_ (Below.mono (by assumption) ?_))) | omega | (simp; omega) | (simp; done)); done) | (repeat' first | exact Below.refl _ _ | assumption | refine Below.setCell ?_ (by first | omega | (simp; omega) | (simp; done)) _ | refine Below.alloc ?_ (by first | omega | (simp; omega) | (simp; done)) _ | refine Below.drew ?_ | refine below_drewN ?_ _ | refine Below.trans ?_ (Below.mono (by assumption) (by first | omega | (simp; omega) | (simp; done)))))
    have HX0 := Lib.hid X0
    have HX1 := Lib.hid X1
    clear hb5 X0 X1 d0 d1 df HX0b HX1b HMK HO4
    go_wp2_with fail
    refine (i_TextLedger s _ (HLD.out.below (by (first | ((repeat' first | (with_reducible (first | exact Below.refl _ _ | assumption | refine Below.setCell ?_ ?_ _ | refine Below.alloc ?_ ?_ _ | refine Below.drew ?_ | refine below_drewN ?_ _ | refine Below.trans ?_ (Below.mono (by assumption) ?_))) | omega | (simp; omega) | (simp; done)); done) | (repeat' first | exact Below.refl _ _ | assumption | refine Below.setCell ?_ (by first | omega | (simp; omega) | (simp; done)) _ | refine Below.alloc ?_ (by first | omega | (simp; omega) | (simp; done)) _ | refine Below.drew ?_ | refine below_drewN ?_ _ | refine Below.trans ?_ (Below.mono (by assumption) (by first | omega | (simp; omega) | (simp; done))))))) hs).mono ?_
    rintro e w6 ⟨z2, L2, A6, cap6, ok2, rfl, how6, hd6, hb6⟩
    have z6 := hb6.size
    obtain ⟨rfl, rfl, rfl⟩ := LedIs.one ledgerL_inj hd6 HD2.out
    have HG6 := Lib.hid (how6.alloc (.cells #[.int .i64 z2, .slice A6 L2.length cap6] 35))
    have HMK6 := Lib.hid (HMK5.out.below hb6)
    have HO6 := Lib.hid (HO5.out.below hb6)
    have X0 := heap_below hb6 (by omega) HX0.out
    have X1 := heap_below hb6 (by omega) HX1.out
    have hbF : Below w.heap.size w w6 := by (first | ((repeat' first | (with_reducible (first | exact Below.refl _ _ | assumption | refine Below.setCell ?_ ?_ _ | refine Below.alloc ?_ ?_ _ | refine Below.drew ?_ | refine below_drewN ?_ _ | refine Below.trans ?_ (Below.mono (by assumption) ?_))) | omega | (simp; omega) | (simp; done)); done) | (repeat' first | exact Below.refl _ _ | assumption | refine Below.setCell ?_ (by first | omega | (simp; omega) | (simp; done)) _ | refine Below.alloc ?_ (by first | omega | (simp; omega) | (simp; done)) _ | refine Below.drew ?_ | refine below_drewN ?_ _ | refine Below.trans ?_ (Below.mono (by assumption) (by first | omega | (simp; omega) | (simp; done)))))
    obtain ⟨_, e0, e1, ef, ez⟩ := own2 (g := w1.heap.size) (Below.refl _ w6) (by omega) X0
    have HX0b := Lib.hid X0
    have HX1b := Lib.hid X1
    clear hb6 how6 hd6 X0 X1 HX0 HX1 HMK5 HO5
    go_wp2_with fail
    refine (l_eqLedger _ L2 _ _ _ _ _ (by omega) (HG6.out.rd.below (Below.refl _ _)) ((HO6.out.alloc _).rd.below (Below.refl _ _))).mono ?_
    rintro e w7 ⟨rfl, hb7⟩
    have z7 := hb7.size
    (try simp at z7)
    have X1 := heap_below (n := w2.heap.size) hb7 (by simp; omega) (heap_past (by omega) HX1b.out)
    have HMK7 := Lib.hid (HMK6.out.below (((Below.refl _ _).alloc (Nat.le_refl _) _).trans (hb7.mono (by simp))))
    obtain ⟨_, f0, f1, ff, fz⟩ := own2 (g := w2.heap.size) (Below.refl _ w7) (by omega) X1
    have hbG : Below w.heap.size w w7 := by (first | ((repeat' first | (with_reducible (first | exact Below.refl _ _ | assumption | refine Below.setCell ?_ ?_ _ | refine Below.alloc ?_ ?_ _ | refine Below.drew ?_ | refine below_drewN ?_ _ | refine Below.trans ?_ (Below.mono (by assumption) ?_))) | omega | (simp; omega) | (simp; done)); done) | (repeat' first | exact Below.refl _ _ | assumption | refine Below.setCell ?_ (by first | omega | (simp; omega) | (simp; done)) _ | refine Below.alloc ?_ (by first | omega | (simp; omega) | (simp; done)) _ | refine Below.drew ?_ | refine below_drewN ?_ _ | refine Below.trans ?_ (Below.mono (by assumption) (by first | omega | (simp; omega) | (simp; done)))))
    clear hb7 X1 e0 e1 ef HMK6 HX0b HX1b
    go_wp2_with fail
    refine (l_heldLedger _ A2 L2.length cap2 _ _ (by decide) (by decide) (by omega) (by have := HMK7.out; rw [List.length_map] at this; exact this)).mono ?_
    rintro e w8 ⟨rfl, hb8⟩
    have z8 := hb8.size
    rw [HLG2.out]
    go_wp2_with fail
    go_ret
    refine ⟨rfl, ?_⟩
    (first | ((repeat' first | (with_reducible (first | exact Below.refl _ _ | assumption | refine Below.setCell ?_ ?_ _ | refine Below.alloc ?_ ?_ _ | refine Below.drew ?_ | refine below_drewN ?_ _ | refine Below.trans ?_ (Below.mono (by assumption) ?_))) | omega | (simp; omega) | (simp; done)); done) | (repeat' first | exact Below.refl _ _ | assumption | refine Below.setCell ?_ (by first | omega | (simp; omega) | (simp; done)) _ | refine Below.alloc ?_ (by first | omega | (simp; omega) | (simp; done)) _ | refine Below.drew ?_ | refine below_drewN ?_ _ | refine Below.trans ?_ (Below.mono (by assumption) (by first | omega | (simp; omega) | (simp; done)))))
  · have hs' : (1048576 : Int) < (s.size : Int) := by omega
    go_enter Tryd.func10, Tryd.ntmps10
    go_wp2_with fail
    go_ret
    refine ⟨rfl, ?_⟩
    (first | ((repeat' first | (with_reducible (first | exact Below.refl _ _ | assumption | refine Below.setCell ?_ ?_ _ | refine Below.alloc ?_ ?_ _ | refine Below.drew ?_ | refine below_drewN ?_ _ | refine Below.trans ?_ (Below.mono (by assumption) ?_))) | omega | (simp; omega) | (simp; done)); done) | (repeat' first | exact Below.refl _ _ | assumption | refine Below.setCell ?_ (by first | omega | (simp; omega) | (simp; done)) _ | refine Below.alloc ?_ (by first | omega | (simp; omega) | (simp; done)) _ | refine Below.drew ?_ | refine below_drewN ?_ _ | refine Below.trans ?_ (Below.mono (by assumption) (by first | omega | (simp; omega) | (simp; done)))))
theorem FnExactTextLedger_own : ownKnob Tryd.prog.godebug = none := by kernel_rfl
theorem FnExactTextLedger_laidOut : laidOutB Tryd.prog = true := by kernel_rfl
set_option maxRecDepth 100000 in
theorem FnExactTextLedger_lifted (os : Os) (started : os.Started) (H : Type) (enc : TypeId × Value → H) :
    ReturnsInHanded {} Tryd.checked os 10 .any (fun w args => (Rows.fnExactTextLedgerSpec.pre enc Tryd.prog Tryd.f10 Rows.fnExactTextLedgerRow.domain false w args ∧ laidMetH Tryd.prog Rows.fnExactTextLedgerRow.laid w) ∧ sizedMet enc Tryd.prog Tryd.f10 (OpenSpec.ofChange Rows.fnExactTextLedgerSpec) false w args)
      (Rows.fnExactTextLedgerSpec.post enc Tryd.prog Tryd.f10 false true false false) := by
  refine returnsInHanded_laid (C := Tryd.checked) FnExactTextLedger_own started (by kernel_rfl) Tryd.func10
    (ChangeSpec.witness_shaped (enc := enc) (C := Tryd.checked) (os := os) (X := fun w _ => laidMetH Tryd.prog Rows.fnExactTextLedgerRow.laid w) false (World.laidAll Tryd.prog os Rows.fnExactTextLedgerRow.laid) #[.string ⟨#[]⟩] 8 (World.laidAll_os _ _ _)
      (World.shaped_of_ZipB (by kernel_rfl) (by kernel_rfl)) (by kernel_rfl) (by kernel_rfl) (by kernel_rfl)
      (by rw [MakeChecks.laidMetH_plain _ _ _ (by kernel_rfl)]; exact laidMet_laidAll _ (by kernel_rfl) (by kernel_rfl))) ?_
  intro W base args ds gs before hval0 hW hcnd hlaid hshape
  have hval : ∀ (j : Nat) t v, Tryd.f10.params[j]? = some t → args[j]? = some v → Value.okWide Tryd.prog W .any base t v := hval0
  have hW' := hW
  obtain ⟨p, q, hA0, hV, rfl, hfz, hnd⟩ := hW
  have hA : DataW.TrodAll enc Tryd.prog W 0 (fun _ => true) true Tryd.f10.params.toList args.toList ds p := hA0
  rw [Tryd.params10] at hA hval
  obtain ⟨v0, vs0, d0, ds0, p0, q0, hargs, rfl, rfl, h0, r0⟩ := trodAll_cons hA
  obtain ⟨rfl, rfl, rfl⟩ := trodAll_nil r0
  obtain rfl : args = #[v0] := by cases args; simp_all
  obtain ⟨s0, rfl, _, _, z0⟩ := Go.ChangeMaps.open_string Tryd.underlying9 (hval 0 9 v0 rfl rfl) h0
  refine (l_FnExactTextLedger s0 W (Le.laid hlaid hshape (by kernel_rfl)) z0).mono fun e W' ⟨he, hb⟩ => ⟨_, he, ?_⟩
  exact law_post FnExactTextLedger_laidOut (by kernel_rfl) (tb := 4) rfl Tryd.underlying4 rfl (fun ds' hl => by match ds', hl with | [_], _ => rfl) hW' hb

theorem FnExactTextLedger_holds : Rows.FnExactTextLedgerSaid :=
  OpenClaim.holds_of_wide 10 Tryd.f10 rfl rfl rfl rfl rfl rfl rfl ⟨rfl, rfl, rfl, rfl, rfl⟩ rfl rfl rfl rfl rfl (by kernel_rfl) Tryd.func10 (by kernel_rfl)
    (of_decide_eq_true (by kernel_rfl)) (by unfold Func.isWrapper; first | (rw [if_pos (by decide +kernel)]; kernel_rfl) | (rw [if_neg (by decide +kernel)]; exact ⟨rfl, rfl⟩))
    (fun os started H enc _ => FnExactTextLedger_lifted os started H enc)
theorem FnExactTextLedger_card : Rows.FnExactTextLedgerCardSaid :=
  Claim7.holds_tied_plain_at .later [] [.data, .data, .data, .data, .sentinel, .sentinel, .pinned] true (true, "6eef4d0427dfcc49cc2f17c2c579f52b9dad0a4380fd061067d30a79de12441a") true FnExactTextLedger_holds (fun _ h => by cases h) (by kernel_rfl) (fun _ h => by cases h) fnExactTextLedger_row_tie rfl ⟨rfl, rfl⟩ (by kernel_rfl) rfl
    (fun f fn hf hfn => by
      obtain rfl : f = 10 := Option.some.inj ((show Tryd.prog.funcNamed "loop.example/g00400/laws.FnExactTextLedger" = some 10 by kernel_rfl).symm.trans hf) |>.symm
      obtain rfl : fn = Tryd.f10 := (Option.some.inj (Tryd.func10.symm.trans hfn)).symm
      exact ⟨by kernel_rfl, fun j t ht => by
        rw [Tryd.params10] at ht
        have hm : t ∈ [9] := by simpa using Array.mem_of_getElem? ht
        have hall : ([9].all fun u => !Tryd.prog.wantsStandIn u) = true := by kernel_rfl
        exact (show Tryd.prog.wantsStandIn t = false by simpa using List.all_eq_true.1 hall t hm)⟩)
    (by kernel_rfl)
#print axioms FnExactTextLedger_card
end Go.Proofs.YtgpledgjpjifcaaDoor
