/- The program's DebtText returns what the reference's returns, for all arguments; the tied card. -/
import Derived.Test.YtgpledgjpjifcaaDoorRows
import Derived.Test.YtgpledgjpjifcaaDoorCards
import Derived.Test.YtgpledgjpjifcaaDoorTie
import Derived.Test.YtgpledgjpjifcaaDoorDebtT
import Derived.Test.YtgpledgjpjifcaaDoorLdRow
import Derived.SevenTiedAt
namespace Go.Proofs.YtgpledgjpjifcaaDoor
open Go.ChangeShapes Go.WideShapes Go.ChangeAt Go.RowKit

set_option maxHeartbeats 1000000 in
theorem l_FnExactDebtText (x0 x1 x2 : Int) (w : World) (hld : Ld w) :
    Calls Tryd.prog 3 #[.agg #[.int .i64 x0, .int .i64 x1, .int .i64 x2]] w fun e w' => e = .returned (.bool true) ∧ Below w.heap.size w w' := by
  have HLD := Lib.hid hld
  clear hld
  obtain ⟨S, CS, CI⟩ : ∃ S : ByteArray, Hid (∀ W, Calls Tryd.prog 11 #[.agg #[.int .i64 x0, .int .i64 x1, .int .i64 x2]] W fun e w' => e = .returned (.string S) ∧ Below W.heap.size W w') ∧
      Hid (∀ W, Ld W → Calls Tryd.prog 13 #[.agg #[.int .i64 x0, .int .i64 x1, .int .i64 x2]] W fun e w' => e = .returned (.string S) ∧ Below W.heap.size W w') :=
    ⟨_, Lib.hid fun W => s_DebtText x0 x1 x2 W, Lib.hid fun W h => i_DebtText x0 x1 x2 W h⟩
  go_enter Tryd.func3, Tryd.ntmps3
  go_wp2_with fail
  refine (l_toDebt _ _ _ _).mono ?_
  rintro e w1 ⟨rfl, hb1⟩
  have z1 := hb1.size
  try simp at z1
  obtain ⟨ah, a0, a1, a2, af, az⟩ := own3 (g := w.heap.size) hb1 (by first | omega | (simp; omega) | (simp; done)) (by (first | ((repeat' first | (with_reducible (first | assumption | (refine heap_at ?_; (first | rfl | (simp; done))) | refine heap_drew ?_ | refine heap_drewN ?_ | refine heap_past ?_ ?_ | refine heap_far ?_ ?_)) | (simp; done) | (simp; omega)); done) | (repeat' first | assumption | (refine heap_at ?_; (simp; done)) | refine heap_drew ?_ | refine heap_drewN ?_ | (refine heap_past ?_ ?_ <;> try (simp; done)) | (refine heap_far ?_ ?_ <;> try (simp; done)))))
  go_wp2_with fail
  refine (CS.out _).mono ?_
  rintro e w2 ⟨rfl, hb2⟩
  have z2 := hb2.size
  try simp at z2
  obtain ⟨bh, b0, b1, b2, bf, bz⟩ := own3 (g := w.heap.size) hb2 (by first | omega | (simp; omega) | (simp; done)) (by (first | ((repeat' first | (with_reducible (first | assumption | (refine heap_at ?_; (first | rfl | (simp; done))) | refine heap_drew ?_ | refine heap_drewN ?_ | refine heap_past ?_ ?_ | refine heap_far ?_ ?_)) | (simp; done) | (simp; omega)); done) | (repeat' first | assumption | (refine heap_at ?_; (simp; done)) | refine heap_drew ?_ | refine heap_drewN ?_ | (refine heap_past ?_ ?_ <;> try (simp; done)) | (refine heap_far ?_ ?_ <;> try (simp; done)))))
  clear ah a0 a1 a2 af az
  go_wp2_with fail
  refine (l_toDebt _ _ _ _).mono ?_
  rintro e w3 ⟨rfl, hb3⟩
  have z3 := hb3.size
  try simp at z3
  clear bh b0 b1 b2 bf bz
  go_wp2_with fail
  refine (CI.out _ (HLD.out.below (by (first | ((repeat' first | (with_reducible (first | exact Below.refl _ _ | assumption | refine Below.setCell ?_ ?_ _ | refine Below.alloc ?_ ?_ _ | refine Below.drew ?_ | refine below_drewN ?_ _ | refine Below.trans ?_ (Below.mono (by assumption) ?_))) | omega | (simp; omega) | (simp; done)); done) | (repeat' first | exact Below.refl _ _ | assumption | refine Below.setCell ?_ (by first | omega | (simp; omega) | (simp; done)) _ | refine Below.alloc ?_ (by first | omega | (simp; omega) | (simp; done)) _ | refine Below.drew ?_ | refine below_drewN ?_ _ | refine Below.trans ?_ (Below.mono (by assumption) (by first | omega | (simp; omega) | (simp; done)))))))).mono ?_
  rintro e w4 ⟨rfl, hb4⟩
  have z4 := hb4.size
  try simp at z4
  go_wp2_with fail
  go_ret
  refine ⟨rfl, ?_⟩
  (first | ((repeat' first | (with_reducible (first | exact Below.refl _ _ | assumption | refine Below.setCell ?_ ?_ _ | refine Below.alloc ?_ ?_ _ | refine Below.drew ?_ | refine below_drewN ?_ _ | refine Below.trans ?_ (Below.mono (by assumption) ?_))) | omega | (simp; omega) | (simp; done)); done) | (repeat' first | exact Below.refl _ _ | assumption | refine Below.setCell ?_ (by first | omega | (simp; omega) | (simp; done)) _ | refine Below.alloc ?_ (by first | omega | (simp; omega) | (simp; done)) _ | refine Below.drew ?_ | refine below_drewN ?_ _ | refine Below.trans ?_ (Below.mono (by assumption) (by first | omega | (simp; omega) | (simp; done)))))
theorem FnExactDebtText_own : ownKnob Tryd.prog.godebug = none := by kernel_rfl
theorem FnExactDebtText_laidOut : laidOutB Tryd.prog = true := by kernel_rfl
set_option maxRecDepth 100000 in
theorem FnExactDebtText_lifted (os : Os) (started : os.Started) (H : Type) (enc : TypeId × Value → H) :
    ReturnsInHanded {} Tryd.checked os 3 .any (fun w args => (Rows.fnExactDebtTextSpec.pre enc Tryd.prog Tryd.f3 Rows.fnExactDebtTextRow.domain false w args ∧ laidMetH Tryd.prog Rows.fnExactDebtTextRow.laid w) ∧ sizedMet enc Tryd.prog Tryd.f3 (OpenSpec.ofChange Rows.fnExactDebtTextSpec) false w args)
      (Rows.fnExactDebtTextSpec.post enc Tryd.prog Tryd.f3 false true false false) := by
  refine returnsInHanded_laid (C := Tryd.checked) FnExactDebtText_own started (by kernel_rfl) Tryd.func3
    (ChangeSpec.witness_shaped (enc := enc) (C := Tryd.checked) (os := os) (X := fun w _ => laidMetH Tryd.prog Rows.fnExactDebtTextRow.laid w) false (World.laidAll Tryd.prog os Rows.fnExactDebtTextRow.laid) #[.agg #[.int .i64 0, .int .i64 0, .int .i64 0]] 8 (World.laidAll_os _ _ _)
      (World.shaped_of_ZipB (by kernel_rfl) (by kernel_rfl)) (by kernel_rfl) (by kernel_rfl) (by kernel_rfl)
      (by rw [MakeChecks.laidMetH_plain _ _ _ (by kernel_rfl)]; exact laidMet_laidAll _ (by kernel_rfl) (by kernel_rfl))) ?_
  intro W base args ds gs before hval0 hW hcnd hlaid hshape
  have hval : ∀ (j : Nat) t v, Tryd.f3.params[j]? = some t → args[j]? = some v → Value.okWide Tryd.prog W .any base t v := hval0
  have hW' := hW
  obtain ⟨p, q, hA0, hV, rfl, hfz, hnd⟩ := hW
  have hA : DataW.TrodAll enc Tryd.prog W 0 (fun _ => true) true Tryd.f3.params.toList args.toList ds p := hA0
  rw [Tryd.params3] at hA hval
  obtain ⟨v0, vs0, d0, ds0, p0, q0, hargs, rfl, rfl, h0, r0⟩ := trodAll_cons hA
  obtain ⟨rfl, rfl, rfl⟩ := trodAll_nil r0
  obtain rfl : args = #[v0] := by cases args; simp_all
  obtain ⟨cs0, rfl, fl0⟩ := agg_of_trod (n := 4) (ks := [true, true, true]) Tryd.underlying23 (by kernel_rfl) (hval 0 23 v0 rfl rfl) h0
  obtain ⟨a0_0, a0_1, a0_2, rfl⟩ := flat_3 fl0
  refine (l_FnExactDebtText _ _ _ W (Ld.laid hlaid hshape (by kernel_rfl))).mono fun e W' ⟨he, hb⟩ => ⟨_, he, ?_⟩
  exact law_post FnExactDebtText_laidOut (by kernel_rfl) (tb := 4) rfl Tryd.underlying4 rfl (fun ds' hl => by match ds', hl with | [_], _ => rfl) hW' hb

theorem FnExactDebtText_holds : Rows.FnExactDebtTextSaid :=
  OpenClaim.holds_of_wide 3 Tryd.f3 rfl rfl rfl rfl rfl rfl rfl ⟨rfl, rfl, rfl, rfl, rfl⟩ rfl rfl rfl rfl rfl (by kernel_rfl) Tryd.func3 (by kernel_rfl)
    (of_decide_eq_true (by kernel_rfl)) (by unfold Func.isWrapper; first | (rw [if_pos (by decide +kernel)]; kernel_rfl) | (rw [if_neg (by decide +kernel)]; exact ⟨rfl, rfl⟩))
    (fun os started H enc _ => FnExactDebtText_lifted os started H enc)
theorem FnExactDebtText_card : Rows.FnExactDebtTextCardSaid :=
  Claim7.holds_tied_plain_at .later [] [.data, .data, .data] true (true, "6eef4d0427dfcc49cc2f17c2c579f52b9dad0a4380fd061067d30a79de12441a") true FnExactDebtText_holds (fun _ h => by cases h) (by kernel_rfl) (fun _ h => by cases h) fnExactDebtText_row_tie rfl ⟨rfl, rfl⟩ (by kernel_rfl) rfl
    (fun f fn hf hfn => by
      obtain rfl : f = 3 := Option.some.inj ((show Tryd.prog.funcNamed "loop.example/g00400/laws.FnExactDebtText" = some 3 by kernel_rfl).symm.trans hf) |>.symm
      obtain rfl : fn = Tryd.f3 := (Option.some.inj (Tryd.func3.symm.trans hfn)).symm
      exact ⟨by kernel_rfl, fun j t ht => by
        rw [Tryd.params3] at ht
        have hm : t ∈ [23] := by simpa using Array.mem_of_getElem? ht
        have hall : ([23].all fun u => !Tryd.prog.wantsStandIn u) = true := by kernel_rfl
        exact (show Tryd.prog.wantsStandIn t = false by simpa using List.all_eq_true.1 hall t hm)⟩)
    (by kernel_rfl)
#print axioms FnExactDebtText_card
end Go.Proofs.YtgpledgjpjifcaaDoor
