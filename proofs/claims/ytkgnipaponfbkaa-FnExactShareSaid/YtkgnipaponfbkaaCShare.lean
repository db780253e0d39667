/- The program's Share returns what the reference's returns, for all arguments; no condition. -/
import Derived.Test.YtkgnipaponfbkaaRows
import Derived.Test.YtkgnipaponfbkaaShare
namespace Go.Proofs.Ytkgnipaponfbkaa
open Go.ChangeShapes Go.WideShapes Go.ChangeAt Go.RowKit

set_option maxHeartbeats 2000000 in
theorem l_FnExactShare (l : List Gain) (A : Option Addr) (cap : Nat) (x1 : Int) (w : World) (hm : l.length ≤ maxLen) (hr : Rd w w.heap.size 4 A (l.map Gain.cells)) :
    Calls Try.prog 13 #[.slice A l.length cap, .int .i64 x1] w fun e w' => e = .returned (.bool true) ∧ Below w.heap.size w w' := by
  by_cases hl : l.length ≤ 1048576
  · have HR := Lib.hid hr
    clear hr
    go_enter Try.func13, Try.ntmps13
    go_wp2_with fail
    refine (l_szGainS_ok _ _ _ _ _ (by omega) (by omega)).mono ?_
    rintro e w' ⟨rfl, rfl⟩
    go_wp2_with fail
    refine (l_toGainS l A cap _ hl HR.out).mono ?_
    rintro e w1 ⟨rfl, how1, hb1⟩
    have z1 := hb1.size
    have hr1 := how1.rd
    clear how1
    go_wp2_with fail
    refine (s_Share l x1 _ _ _ hl hr1).mono ?_
    clear hr1
    rintro e w2 ⟨rfl, hb2⟩
    have z2 := hb2.size
    have hB2 : Below w.heap.size w w2 := by (first | ((repeat' first | (with_reducible (first | exact Below.refl _ _ | assumption | refine Below.setCell ?_ ?_ _ | refine Below.alloc ?_ ?_ _ | refine Below.drew ?_ | refine below_drewN ?_ _ | refine Below.trans ?_ (Below.mono (by assumption) ?_))) | omega | (simp; omega) | (simp; done)); done) | (repeat' first | exact Below.refl _ _ | assumption | refine Below.setCell ?_ (by first | omega | (simp; omega) | (simp; done)) _ | refine Below.alloc ?_ (by first | omega | (simp; omega) | (simp; done)) _ | refine Below.drew ?_ | refine below_drewN ?_ _ | refine Below.trans ?_ (Below.mono (by assumption) (by first | omega | (simp; omega) | (simp; done)))))
    go_wp2_with fail
    refine (l_toGainS l A cap _ hl ((HR.out.below hB2).more (by omega))).mono ?_
    rintro e w3 ⟨rfl, how3, hb3⟩
    have z3 := hb3.size
    have hr3 := how3.rd
    clear how3
    have HR3 := Lib.hid hr3
    clear hr3
    go_wp2_with fail
    refine (i_Share l x1 _ _ _ hl HR3.out).mono ?_
    rintro e w4 ⟨rfl, hb4⟩
    have z4 := hb4.size
    have hB4 : Below w.heap.size w w4 := by (first | ((repeat' first | (with_reducible (first | exact Below.refl _ _ | assumption | refine Below.setCell ?_ ?_ _ | refine Below.alloc ?_ ?_ _ | refine Below.drew ?_ | refine below_drewN ?_ _ | refine Below.trans ?_ (Below.mono (by assumption) ?_))) | omega | (simp; omega) | (simp; done)); done) | (repeat' first | exact Below.refl _ _ | assumption | refine Below.setCell ?_ (by first | omega | (simp; omega) | (simp; done)) _ | refine Below.alloc ?_ (by first | omega | (simp; omega) | (simp; done)) _ | refine Below.drew ?_ | refine below_drewN ?_ _ | refine Below.trans ?_ (Below.mono (by assumption) (by first | omega | (simp; omega) | (simp; done)))))
    go_wp2_with fail
    refine (l_toGainS l A cap _ hl ((HR.out.below hB4).more (by omega))).mono ?_
    rintro e w5 ⟨rfl, how5, hb5⟩
    have z5 := hb5.size
    have hr5 := how5.rd
    clear how5
    have HR5 := Lib.hid hr5
    clear hr5
    go_wp2_with fail
    refine (l_eqGainS l _ _ _ _ _ hl (((HR3.out.below hb4).more z4).below hb5 |>.more z5) HR5.out).mono ?_
    rintro e w6 ⟨rfl, hb6⟩
    have z6 := hb6.size
    go_wp2_with fail
    go_ret
    refine ⟨rfl, ?_⟩
    (first | ((repeat' first | (with_reducible (first | exact Below.refl _ _ | assumption | refine Below.setCell ?_ ?_ _ | refine Below.alloc ?_ ?_ _ | refine Below.drew ?_ | refine below_drewN ?_ _ | refine Below.trans ?_ (Below.mono (by assumption) ?_))) | omega | (simp; omega) | (simp; done)); done) | (repeat' first | exact Below.refl _ _ | assumption | refine Below.setCell ?_ (by first | omega | (simp; omega) | (simp; done)) _ | refine Below.alloc ?_ (by first | omega | (simp; omega) | (simp; done)) _ | refine Below.drew ?_ | refine below_drewN ?_ _ | refine Below.trans ?_ (Below.mono (by assumption) (by first | omega | (simp; omega) | (simp; done)))))
  · clear hr
    have hl' : (1048576 : Int) < (l.length : Int) := by omega
    go_enter Try.func13, Try.ntmps13
    go_wp2_with fail
    refine (l_szGainS_no _ _ _ _ _ (by omega) hm hl').mono ?_
    rintro e w' ⟨rfl, rfl⟩
    go_wp2_with fail
    go_ret
    exact ⟨rfl, Below.refl _ _⟩
theorem FnExactShare_own : ownKnob Try.prog.godebug = none := by kernel_rfl
theorem FnExactShare_laidOut : laidOutB Try.prog = true := by kernel_rfl
set_option maxRecDepth 100000 in
theorem FnExactShare_lifted (os : Os) (started : os.Started) (H : Type) (enc : TypeId × Value → H) :
    ReturnsInHanded {} Try.checked os 13 .any (Rows.fnExactShareSpec.pre6 enc Try.prog Try.f13 Rows.fnExactShareRow.domain false) (Rows.fnExactShareSpec.post enc Try.prog Try.f13 false true false false) := by
  refine returnsInHanded_of_change (C := Try.checked) FnExactShare_own started (by kernel_rfl) Try.func13
    (ChangeSpec.witness6 (enc := enc) (C := Try.checked) false ⟨#[], #[.slice none 0 0, .int .i64 0], []⟩ 8 (by kernel_rfl) (by kernel_rfl) (by kernel_rfl) (by kernel_rfl)) ?_
  intro W base args ds gs before hval0 hW hcnd _
  have hval : ∀ (j : Nat) t v, Try.f13.params[j]? = some t → args[j]? = some v → Value.okWide Try.prog W .any base t v := hval0
  have hW' := hW
  obtain ⟨p, q, hA0, hV, rfl, hfz, hnd⟩ := hW
  have hA : DataW.TrodAll enc Try.prog W 0 (fun _ => true) true Try.f13.params.toList args.toList ds p := hA0
  rw [Try.params13] at hA hval
  obtain ⟨v0, vs0, d0, ds0, p0, q0, hargs, rfl, rfl, h0, r0⟩ := trodAll_cons hA
  obtain ⟨v1, vs1, d1, ds1, p1, q1, rfl, rfl, rfl, h1, r1⟩ := trodAll_cons r0
  obtain ⟨rfl, rfl, rfl⟩ := trodAll_nil r1
  obtain rfl : args = #[v0, v1] := by cases args; simp_all
  obtain ⟨A0, len0, cap0, rfl⟩ := okWide_slice Try.underlying80 (hval 0 80 v0 rfl rfl)
  obtain ⟨fuel0, hf0⟩ := h0
  obtain ⟨rows0, hlen0, hflat0, hrd0, hlc0, hcm0⟩ := rd_of_trod (n := 4) (ks := [true, true, true, true]) Try.underlying80 (by kernel_rfl) (by kernel_rfl) (by decide) hf0
  obtain ⟨l0, rfl, _⟩ := rows_of Gain.cells (fun _ => True) rows0 (fun r hr => Gain.of_flat (hflat0 r hr))
  rw [List.length_map] at hlen0
  subst hlen0
  obtain ⟨x1, rfl, _, _, w1⟩ := open_int Try.underlying3 (hval 1 3 v1 rfl rfl) h1
  refine (l_FnExactShare l0 A0 cap0 x1 W (by omega) hrd0).mono fun e W' ⟨he, hb⟩ => ⟨_, he, ?_⟩
  exact law_post FnExactShare_laidOut (by kernel_rfl) (tb := 4) rfl Try.underlying4 rfl (fun ds' hl => by match ds', hl with | [_, _], _ => rfl) hW' hb

theorem FnExactShare_holds : Rows.FnExactShareSaid :=
  OpenClaim.holds_of_wide 13 Try.f13 rfl rfl rfl rfl rfl rfl rfl ⟨rfl, rfl, rfl, rfl, rfl⟩ rfl rfl rfl rfl rfl (by kernel_rfl) Try.func13 (by kernel_rfl)
    (of_decide_eq_true (by kernel_rfl)) (by unfold Func.isWrapper; first | (rw [if_pos (by decide +kernel)]; kernel_rfl) | (rw [if_neg (by decide +kernel)]; exact ⟨rfl, rfl⟩))
    (fun os started H enc _ => FnExactShare_lifted os started H enc)
#print axioms FnExactShare_holds
end Go.Proofs.Ytkgnipaponfbkaa
