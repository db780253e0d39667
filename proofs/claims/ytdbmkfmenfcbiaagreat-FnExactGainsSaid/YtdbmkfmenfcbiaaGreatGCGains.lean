/- The program's Gains returns what the reference's returns, and memory of its own, for all arguments; no condition. -/
import Derived.Test.YtdbmkfmenfcbiaaGreatRows
import Derived.Test.YtdbmkfmenfcbiaaGreatGM6
import Derived.Test.YtdbmkfmenfcbiaaGreatGSGa
import Derived.Test.YtdbmkfmenfcbiaaGreatGM1
import Derived.Test.YtdbmkfmenfcbiaaGreatGM2
namespace Go.Proofs.YtdbmkfmenfcbiaaGreat
open Go.ChangeShapes Go.WideShapes Go.ChangeAt Go.RowKit
set_option maxRecDepth 100000 in
set_option maxHeartbeats 4000000 in
theorem zyj (l : List Event) (A : Option Addr) (cap : Nat) (w : World) (hm : l.length ≤ maxLen) (hr : Rd w w.heap.size 7 A (l.map Event.cells)) :
  Calls Tryz.prog 3 #[.slice A l.length cap] w fun e w' => e = .returned (.bool true)∧Below w.heap.size w w':=by
 have HR:=hd_ hr
 have HM:=hd_ hm
 clear hr hm
 by_cases hl : l.length ≤ 1048576
 ·
  obtain ⟨l2,HS,HI,hl2⟩ : ∃ l2 : List Gain,Hid (∀ (A : Option Addr) (cap : Nat) (W : World),Rd W W.heap.size 7 A (l.map Event.cells) → Calls Tryz.prog 7 #[.slice A l.length cap] W (fun e w' => ∃ A cap,e = .returned (.slice A l2.length cap)∧Ow w' W.heap.size 79 4 (.slice A l2.length cap) (l2.map Gain.cells)∧Below W.heap.size W w'))∧Hid (∀ (A : Option Addr) (cap : Nat) (W : World),Rd W W.heap.size 7 A (l.map Event.cells) → Calls Tryz.prog 9 #[.slice A l.length cap] W (fun e w' => ∃ A cap,e = .returned (.slice A l2.length cap)∧Ow w' W.heap.size 79 4 (.slice A l2.length cap) (l2.map Gain.cells)∧Below W.heap.size W w'))∧l2.length ≤ 1048576 :=
   ⟨gainsF l,hd_ fun A cap W hq => s_Gains l _ _ _ hl hq,hd_ fun A cap W hq => i_Gains l _ _ _ hl hq,Nat.le_trans (gainsF_len l) hl⟩
  obtain ⟨Lx,hLx,hLx0⟩ : ∃ Lx : Int,(1 : Int) + (l.length * 7 : Nat) = Lx∧decide (Lx < 0) = false:=⟨_,rfl,by simp;omega⟩
  obtain ⟨Lg,hLg,hLg0⟩ : ∃ Lg : Int,(1 : Int) + (l2.length * 4 : Nat) = Lg∧decide (Lg < 0) = false:=⟨_,rfl,by simp;omega⟩
  have HLX:=hd_ hLx
  have HLG:=hd_ hLg
  clear hLx hLg
  go_enter Tryz.func3,Tryz.ntmps3
  go_wp2_with fail
  refine (ztu _ _ _ _ _ (by omega) (by omega)).mono ?_
  rintro e w' ⟨rfl,rfl⟩
  go_wp2_with fail
  refine (zvi l A cap _ hl HR.out).mono ?_
  rintro e w1 ⟨rfl,how1,hb1⟩
  have z1:=hb1.size
  have HO1:=hd_ how1.rd
  clear how1
  go_wp2_with fail
  refine (HS.out _ _ _ HO1.out).mono ?_
  rintro e w2 ⟨A2,cap2,rfl,how2,hb2⟩
  have z2:=hb2.size
  have OW2:=hd_ how2
  have bkw:=hd_ how2.block
  clear how2
  go_wp2_with fail
  refine (zvi l A cap _ hl ((HR.out.below (bl_)).more (by omega))).mono ?_
  rintro e w3 ⟨rfl,how3,hb3⟩
  have z3:=hb3.size
  have OX3:=hd_ how3
  have bkx:=hd_ how3.block
  clear how3
  go_wp2_with fail
  refine (HI.out _ _ _ OX3.out.rd).mono ?_
  rintro e w4 ⟨A4,cap4,rfl,how4,hb4⟩
  have z4:=hb4.size
  have OG4:=hd_ how4
  have bkg:=hd_ how4.block
  clear how4
  go_wp2_with fail
  refine (zhr l2 _ _ _ _ _ hl2 OG4.out.rd ((OW2.out.rd.below (bl_)).more (by omega))).mono ?_
  rintro e w5 ⟨rfl,hb5⟩
  have z5:=hb5.size
  go_wp2_with fail
  refine (zvi l A cap _ hl ((HR.out.below (bl_)).more (by omega))).mono ?_
  rintro e w6 ⟨rfl,how6,hb6⟩
  have z6:=hb6.size
  have HO6:=hd_ how6.rd
  clear how6
  go_wp2_with fail
  refine (l_eqEventS l _ _ _ _ _ hl ((OX3.out.rd.below (bl_)).more (by omega)) HO6.out).mono ?_
  rintro e w7 ⟨rfl,hb7⟩
  have z7:=hb7.size
  have OG7:=hd_ (OG4.out.below (w':=w7) (bl_))
  have OW7:=hd_ (OW2.out.below (w':=w7) (bl_))
  have OX7:=hd_ (OX3.out.below (w':=w7) (bl_))
  have hbw7 : Below w.heap.size w w7:=bl_
  clear OG4 OW2 OX3
  go_wp2_with fail
  refine (zpa _ _ (l.map Event.cells) _ _ (by decide) (by decide) (by rw [List.length_map];exact hl) OX7.out).mono ?_
  rintro e w8 ⟨he,-,hgr8⟩
  rw [List.length_map,HLX.out] at he
  subst he
  have z8:=hgr8.size
  have OG8:=hd_ (OG7.out.grown hgr8 (by
   cases hv : (Value.slice A4 l2.length cap4).ownBlock with
   | none => exact .inl rfl
   | some k =>
    refine .inr (fun e => ?_)
    have h1:=bkg.out k hv
    have h2:=bkx.out k e.symm
    omega))
  have OW8:=hd_ (OW7.out.grown hgr8 (by
   cases hv : (Value.slice A2 l2.length cap2).ownBlock with
   | none => exact .inl rfl
   | some k =>
    refine .inr (fun e => ?_)
    have h1:=bkw.out k hv
    have h2:=bkx.out k e.symm
    omega))
  have hbw8 : Below w.heap.size w w8:=hbw7.grown hgr8 (by omega) (fun k e => by have:=(bkx.out k e).1;omega)
  clear OG7 OW7 OX7 hgr8
  go_wp2_with fail
  refine (zhr l2 _ _ _ _ _ hl2 (OG8.out.rd.more (by omega)) (OW8.out.rd.more (by omega))).mono ?_
  rintro e w9 ⟨rfl,hb9⟩
  have z9:=hb9.size
  have OG9:=hd_ (OG8.out.below hb9)
  have OW9:=hd_ (OW8.out.below hb9)
  have hbw9 : Below w.heap.size w w9:=bl_
  clear OG8 OW8
  go_wp2_with fail
  refine (zgd _ _ (l2.map Gain.cells) _ _ (by decide) (by decide) (by rw [List.length_map];omega) OG9.out).mono ?_
  rintro e w10 ⟨he,hmk,hgr10⟩
  rw [List.length_map] at he hmk
  rw [HLG.out] at he
  subst he
  have HMK:=hd_ (hmk _ _ _ rfl)
  have z10:=hgr10.size
  have OW10:=hd_ (OW9.out.grown hgr10 (by
   cases hv : (Value.slice A2 l2.length cap2).ownBlock with
   | none => exact .inl rfl
   | some k =>
    refine .inr (fun e => ?_)
    have h1:=bkw.out k hv
    have h2:=bkg.out k e.symm
    omega))
  have hbw10 : Below w.heap.size w w10:=hbw9.grown hgr10 (by omega) (fun k e => by have:=(bkg.out k e).1;omega)
  clear OG9 OW9 hmk hgr10
  go_wp2_with fail
  refine (zhs _ _ _ _ _ (by decide) (by decide) (by omega) HMK.out).mono ?_
  rintro e _ ⟨he,rfl⟩
  rw [HLG.out] at he
  subst he
  go_wp2_with fail
  refine (zvi l A cap _ hl ((HR.out.below (bl_)).more (by omega))).mono ?_
  rintro e w12 ⟨rfl,how12,hb12⟩
  have z12:=hb12.size
  have HO12:=hd_ how12.rd
  clear how12
  go_wp2_with fail
  refine (HI.out _ _ _ HO12.out).mono ?_
  rintro e w13 ⟨A13,cap13,rfl,how13,hb13⟩
  have z13:=hb13.size
  have OH13:=hd_ how13
  clear how13
  go_wp2_with fail
  refine (zhr l2 _ _ _ _ _ hl2 OH13.out.rd ((OW10.out.rd.below (bl_)).more (by omega))).mono ?_
  rintro e w14 ⟨rfl,hb14⟩
  have z14:=hb14.size
  go_wp2_with fail
  refine (zhs _ _ _ _ _ (by decide) (by decide) (by omega) (HMK.out.below (bl_))).mono ?_
  rintro e _ ⟨he,rfl⟩
  rw [HLG.out] at he
  subst he
  go_wp2_with fail
  go_ret
  refine ⟨rfl,?_⟩
  exact bl_
 ·
  have hl' : (1048576 : Int) < (l.length : Int):=by omega
  go_enter Tryz.func3,Tryz.ntmps3
  go_wp2_with fail
  refine (ztt _ _ _ _ _ (by omega) HM.out hl').mono ?_
  rintro e w' ⟨rfl,rfl⟩
  go_wp2_with fail
  go_ret
  exact ⟨rfl,Below.refl _ _⟩
theorem zws : ownKnob Tryz.prog.godebug = none:=by kernel_rfl
theorem zvn : laidOutB Tryz.prog = true:=by kernel_rfl
set_option maxRecDepth 100000 in
theorem zvp (os : Os) (started : os.Started) (H : Type) (enc : TypeId × Value → H) :
  ReturnsInHanded {} Tryz.checked os 3 .any (Rows.fnExactGainsSpec.pre6 enc Tryz.prog Tryz.f3 Rows.fnExactGainsRow.domain false) (Rows.fnExactGainsSpec.post enc Tryz.prog Tryz.f3 false true false false):=by
 refine returnsInHanded_of_change (C:=Tryz.checked) zws started (by kernel_rfl) Tryz.func3
  (ChangeSpec.witness6 (enc:=enc) (C:=Tryz.checked) false ⟨#[],#[.slice none 0 0],[]⟩ 8 (by kernel_rfl) (by kernel_rfl) (by kernel_rfl) (by kernel_rfl)) ?_
 intro W base args ds gs before hval0 hW hcnd _
 have hval : ∀ (j : Nat) t v,Tryz.f3.params[j]? = some t → args[j]? = some v → Value.okWide Tryz.prog W .any base t v:=hval0
 have hW':=hW
 obtain ⟨p,q,hA0,hV,rfl,hfz,hnd⟩:=hW
 have hA : DataW.TrodAll enc Tryz.prog W 0 (fun _ => true) true Tryz.f3.params.toList args.toList ds p:=hA0
 rw [Tryz.params3] at hA hval
 obtain ⟨v0,vs0,d0,ds0,p0,q0,hargs,rfl,rfl,h0,r0⟩:=trodAll_cons hA
 obtain ⟨rfl,rfl,rfl⟩:=trodAll_nil r0
 obtain rfl : args = #[v0]:=by cases args;simp_all
 obtain ⟨A0,len0,cap0,rfl⟩:=okWide_slice Tryz.underlying22 (hval 0 22 v0 rfl rfl)
 obtain ⟨fuel0,hf0⟩:=h0
 obtain ⟨rows0,hlen0,hflat0,hrd0,hlc0,hcm0⟩:=rd_of_trod (n:=4) (ks:=[true,true,true,true,true,true,false]) Tryz.underlying22 (by kernel_rfl) (by kernel_rfl) (by decide) hf0
 obtain ⟨l0,rfl,_⟩:=rows_of Event.cells (fun _ => True) rows0 (fun r hr => Event.of_flat (hflat0 r hr))
 rw [List.length_map] at hlen0
 subst hlen0
 refine (zyj l0 A0 cap0 W (by omega) hrd0).mono fun e W' ⟨he,hb⟩ => ⟨_,he,?_⟩
 exact law_post zvn (by kernel_rfl) (tb:=4) rfl Tryz.underlying4 rfl (fun ds' hl => by match ds',hl with | [_],_ => rfl) hW' hb
theorem FnExactGains_holds : Rows.FnExactGainsSaid :=
 OpenClaim.holds_of_wide 3 Tryz.f3 rfl rfl rfl rfl rfl rfl rfl ⟨rfl,rfl,rfl,rfl,rfl⟩ rfl rfl rfl rfl rfl (by kernel_rfl) Tryz.func3 (by kernel_rfl)
  (of_decide_eq_true (by kernel_rfl)) (by unfold Func.isWrapper;first | (rw [if_pos (by decide +kernel)];kernel_rfl) | (rw [if_neg (by decide +kernel)];exact ⟨rfl,rfl⟩))
  (fun os started H enc _ => zvp os started H enc)
end Go.Proofs.YtdbmkfmenfcbiaaGreat
