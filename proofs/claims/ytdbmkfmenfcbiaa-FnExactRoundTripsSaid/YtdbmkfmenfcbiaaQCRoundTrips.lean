/- The program's RoundTrips returns what the reference's returns, for all arguments; no condition. -/
import Derived.Test.YtdbmkfmenfcbiaaRows
import Derived.Test.YtdbmkfmenfcbiaaQM1
import Derived.Test.YtdbmkfmenfcbiaaQM5
import Derived.Test.YtdbmkfmenfcbiaaQRtI
namespace Go.Proofs.Ytdbmkfmenfcbiaa
open Go.ChangeShapes Go.WideShapes Go.ChangeAt Go.RowKit
set_option maxHeartbeats 2000000 in
theorem ztn (l : List Event) (A : Option Addr) (cap : Nat) (w : World) (hm : l.length ≤ maxLen) (hr : Rd w w.heap.size 7 A (l.map Event.cells)) :
  Calls Try.prog 3 #[.slice A l.length cap] w fun e w' => e = .returned (.bool true)∧Below w.heap.size w w':=by
 by_cases hl : l.length ≤ 1048576
 ·
  have HR:=hd_ hr
  clear hr
  go_enter Try.func3,Try.ntmps3
  go_wp2_with fail
  refine (l_szEventS_ok _ _ _ _ _ (by omega) (by omega)).mono ?_
  rintro e w' ⟨rfl,rfl⟩
  go_wp2_with fail
  refine (l_toEventS l A cap _ hl HR.out).mono ?_
  rintro e w1 ⟨rfl,how1,hb1⟩
  have z1:=hb1.size
  have hr1:=how1.rd
  clear how1
  go_wp2_with fail
  refine (s_RoundTrips l _ _ _ hl hr1).mono ?_
  clear hr1
  rintro e w2 ⟨rfl,hb2⟩
  have z2:=hb2.size
  have hB2 : Below w.heap.size w w2:=bl_
  go_wp2_with fail
  refine (l_toEventS l A cap _ hl ((HR.out.below hB2).more (by omega))).mono ?_
  rintro e w3 ⟨rfl,how3,hb3⟩
  have z3:=hb3.size
  have hr3:=how3.rd
  clear how3
  have HR3:=hd_ hr3
  clear hr3
  go_wp2_with fail
  refine (i_RoundTrips l _ _ _ hl HR3.out).mono ?_
  rintro e w4 ⟨rfl,hb4⟩
  have z4:=hb4.size
  have hB4 : Below w.heap.size w w4:=bl_
  go_wp2_with fail
  refine (l_toEventS l A cap _ hl ((HR.out.below hB4).more (by omega))).mono ?_
  rintro e w5 ⟨rfl,how5,hb5⟩
  have z5:=hb5.size
  have hr5:=how5.rd
  clear how5
  have HR5:=hd_ hr5
  clear hr5
  go_wp2_with fail
  refine (l_eqEventS l _ _ _ _ _ hl (((HR3.out.below hb4).more z4).below hb5 |>.more z5) HR5.out).mono ?_
  rintro e w6 ⟨rfl,hb6⟩
  have z6:=hb6.size
  go_wp2_with fail
  go_ret
  refine ⟨rfl,?_⟩
  exact bl_
 ·
  clear hr
  have hl' : (1048576 : Int) < (l.length : Int):=by omega
  go_enter Try.func3,Try.ntmps3
  go_wp2_with fail
  refine (l_szEventS_no _ _ _ _ _ (by omega) hm hl').mono ?_
  rintro e w' ⟨rfl,rfl⟩
  go_wp2_with fail
  go_ret
  exact ⟨rfl,Below.refl _ _⟩
theorem zyi : ownKnob Try.prog.godebug = none:=by kernel_rfl
theorem zhi : laidOutB Try.prog = true:=by kernel_rfl
set_option maxRecDepth 100000 in
theorem zhk (os : Os) (started : os.Started) (H : Type) (enc : TypeId × Value → H) :
  ReturnsInHanded {} Try.checked os 3 .any (Rows.fnExactRoundTripsSpec.pre6 enc Try.prog Try.f3 Rows.fnExactRoundTripsRow.domain false) (Rows.fnExactRoundTripsSpec.post enc Try.prog Try.f3 false true false false):=by
 refine returnsInHanded_of_change (C:=Try.checked) zyi started (by kernel_rfl) Try.func3
  (ChangeSpec.witness6 (enc:=enc) (C:=Try.checked) false ⟨#[],#[.slice none 0 0],[]⟩ 8 (by kernel_rfl) (by kernel_rfl) (by kernel_rfl) (by kernel_rfl)) ?_
 intro W base args ds gs before hval0 hW hcnd _
 have hval : ∀ (j : Nat) t v,Try.f3.params[j]? = some t → args[j]? = some v → Value.okWide Try.prog W .any base t v:=hval0
 have hW':=hW
 obtain ⟨p,q,hA0,hV,rfl,hfz,hnd⟩:=hW
 have hA : DataW.TrodAll enc Try.prog W 0 (fun _ => true) true Try.f3.params.toList args.toList ds p:=hA0
 rw [Try.params3] at hA hval
 obtain ⟨v0,vs0,d0,ds0,p0,q0,hargs,rfl,rfl,h0,r0⟩:=trodAll_cons hA
 obtain ⟨rfl,rfl,rfl⟩:=trodAll_nil r0
 obtain rfl : args = #[v0]:=by cases args;simp_all
 obtain ⟨A0,len0,cap0,rfl⟩:=okWide_slice Try.underlying22 (hval 0 22 v0 rfl rfl)
 obtain ⟨fuel0,hf0⟩:=h0
 obtain ⟨rows0,hlen0,hflat0,hrd0,hlc0,hcm0⟩:=rd_of_trod (n:=4) (ks:=[true,true,true,true,true,true,false]) Try.underlying22 (by kernel_rfl) (by kernel_rfl) (by decide) hf0
 obtain ⟨l0,rfl,_⟩:=rows_of Event.cells (fun _ => True) rows0 (fun r hr => Event.of_flat (hflat0 r hr))
 rw [List.length_map] at hlen0
 subst hlen0
 refine (ztn l0 A0 cap0 W (by omega) hrd0).mono fun e W' ⟨he,hb⟩ => ⟨_,he,?_⟩
 exact law_post zhi (by kernel_rfl) (tb:=4) rfl Try.underlying4 rfl (fun ds' hl => by match ds',hl with | [_],_ => rfl) hW' hb
theorem FnExactRoundTrips_holds : Rows.FnExactRoundTripsSaid :=
 OpenClaim.holds_of_wide 3 Try.f3 rfl rfl rfl rfl rfl rfl rfl ⟨rfl,rfl,rfl,rfl,rfl⟩ rfl rfl rfl rfl rfl (by kernel_rfl) Try.func3 (by kernel_rfl)
  (of_decide_eq_true (by kernel_rfl)) (by unfold Func.isWrapper;first | (rw [if_pos (by decide +kernel)];kernel_rfl) | (rw [if_neg (by decide +kernel)];exact ⟨rfl,rfl⟩))
  (fun os started H enc _ => zhk os started H enc)
end Go.Proofs.Ytdbmkfmenfcbiaa
