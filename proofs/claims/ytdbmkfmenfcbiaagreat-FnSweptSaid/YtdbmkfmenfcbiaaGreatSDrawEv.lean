/- Draws: an event. -/
import Derived.Test.YtdbmkfmenfcbiaaGreatRows
import Derived.Test.YtdbmkfmenfcbiaaGreatSDrawL
import Derived.Test.YtdbmkfmenfcbiaaGreatSM2
import Derived.Test.YtdbmkfmenfcbiaaGreatSM3
import Derived.Test.YtdbmkfmenfcbiaaGreatSSAll
import Derived.Deep.CutRange
namespace Go.Proofs.YtdbmkfmenfcbiaaGreat
open Go.RowKit Go.Deep
def DrewE (g : Nat) (w : World) (e : Ending) (w' : World) : Prop:=∃ ev : Event,e = .returned (.agg #[.int .i64 ev.Kind,.int .i64 ev.Key,.int .i64 ev.Ch,.int .i64 ev.To,.int .i64 ev.Amt,.int .i64 ev.Fee,.bool ev.Yes])∧Crs w' g∧w.grownBy w' (some g)
theorem zjn {a w : World} {r} (h : a.grownBy w r) : a.grownBy w.drew r:=⟨h.os,h.tape,h.output,h.size,h.block⟩
theorem hasR_six {k : Int} (h1 : 1 ≤ k) (h2 : k ≤ 11) : ∃ h0 h1 h2 h3 h4 h5,hasR k = [h0,h1,h2,h3,h4,h5]:=by
 obtain ⟨h0,h1',h2',h3,h4,h5,hr,_⟩:=zpz (e:=⟨k,0,0,0,0,0,false⟩) h1 h2
 exact ⟨h0,h1',h2',h3,h4,h5,hr⟩
set_option maxRecDepth 100000 in
set_option maxHeartbeats 4000000 in
theorem ztg (g : Nat) (w : World) (hc : Crs w g) :
  Calls Tryz.prog 136 #[.pointer (some ⟨g,0,none⟩)] w (DrewE g w):=by
 have hgw:=hc.lt
 have HC_w:=hd_ hc
 have HG_w:=hd_ (World.grownBy.refl w (some g))
 clear hc
 go_enter Tryz.func136,Tryz.ntmps136
 go_wp2_with fail
 refine nm_ ?_
 intro w1 hw
 have HC_w1 : Hid (Crs w1 g):=hd_ (by rw [hw];exact (HC_w.out).alloc _)
 have HG_w1 : Hid (w.grownBy w1 (some g)):=hd_ (by rw [hw];exact zxf (HG_w.out) _)
 obtain ⟨RB,h9R⟩ : ∃ v,v = w.heap.size:=⟨_,rfl⟩
 have HR_w1 : Hid (Hx w1 RB #[.int .i64 0,.int .i64 0,.int .i64 0,.int .i64 0,.int .i64 0,.int .i64 0,.bool false] 64):=hd_ (by rw [hw,h9R];exact zqm (by first | rfl | (simp;done)))
 have HLR : Hid (w.heap.size ≤ RB):=hd_ (by have:=HG_w.out.size;omega)
 try rw [← h9R]
 clear hw h9R
 obtain ⟨R0,R1,R2,R3,R4,R5,R6,Rf,Rz⟩:=box7_ HR_w1.out
 refine (zqp g 11 _ HC_w1.out (by first | decide | omega) (by first | decide | omega)).mono ?_
 rintro e' w2 ⟨x,x1,x2,rfl,hcn,hg⟩
 have HC_w2:=hd_ hcn
 have HG_w2:=hd_ (zql HG_w1.out hg)
 have HR_w2:=hd_ (zqd hg (zqy (by have:=HLR.out;omega)) HR_w1.out)
 clear hcn hg
 clear R0 R1 R2 R3 R4 R5 R6 Rf Rz
 obtain ⟨R0,R1,R2,R3,R4,R5,R6,Rf,Rz⟩:=box7_ HR_w2.out
 obtain ⟨h0,h1,h2,h3,h4,h5,hr⟩:=hasR_six (k:=1 + x) (by omega) (by omega)
 have HR9:=hd_ hr
 clear hr
 go_wp2_with fail
 refine nm_ ?_
 intro w3 hw
 have HC_w3 : Hid (Crs w3 g):=hd_ (by rw [hw];exact (HC_w2.out).alloc _)
 have HG_w3 : Hid (w.grownBy w3 (some g)):=hd_ (by rw [hw];exact zxf (HG_w2.out) _)
 have HR_w3 : Hid (Hx w3 RB #[.int .i64 0,.int .i64 0,.int .i64 0,.int .i64 0,.int .i64 0,.int .i64 0,.bool false] 64):=hd_ (by rw [hw];exact zqg (by have:=(gz_ HR_w2.out).1;first | omega | (simp;omega)) (HR_w2.out))
 obtain ⟨EB,h9E⟩ : ∃ v,v = w2.heap.size:=⟨_,rfl⟩
 have HE_w3 : Hid (Hx w3 EB #[.int .i64 (1 + x),.int .i64 0,.int .i64 0,.int .i64 0,.int .i64 0,.int .i64 0,.bool false] 64):=hd_ (by rw [hw,h9E];exact zqm (by first | rfl | (simp;done)))
 have HLE : Hid (w.heap.size ≤ EB):=hd_ (by have:=HG_w2.out.size;omega)
 try rw [← h9E]
 have HNER : Hid (EB ≠ RB):=hd_ (by have:=(gz_ HR_w2.out).1;omega)
 clear hw h9E
 clear R0 R1 R2 R3 R4 R5 R6 Rf Rz
 obtain ⟨R0,R1,R2,R3,R4,R5,R6,Rf,Rz⟩:=box7_ HR_w3.out
 obtain ⟨E0,E1,E2,E3,E4,E5,E6,Ef,Ez⟩:=box7_ HE_w3.out
 refine (zyc (1 + x) _ (by omega) (by omega)).mono ?_
 rintro e' w9 ⟨rfl,rfl⟩
 rw [HR9.out]
 go_upto_if 15 with fail
 refine nm_ ?_
 intro w4 hw
 have HC_w4 : Hid (Crs w4 g):=hd_ (by rw [hw];exact (HC_w3.out).alloc _)
 have HG_w4 : Hid (w.grownBy w4 (some g)):=hd_ (by rw [hw];exact zxf (HG_w3.out) _)
 have HR_w4 : Hid (Hx w4 RB #[.int .i64 0,.int .i64 0,.int .i64 0,.int .i64 0,.int .i64 0,.int .i64 0,.bool false] 64):=hd_ (by rw [hw];exact zqg (by have:=(gz_ HR_w3.out).1;first | omega | (simp;omega)) (HR_w3.out))
 have HE_w4 : Hid (Hx w4 EB #[.int .i64 (1 + x),.int .i64 0,.int .i64 0,.int .i64 0,.int .i64 0,.int .i64 0,.bool false] 64):=hd_ (by rw [hw];exact zqg (by have:=(gz_ HE_w3.out).1;first | omega | (simp;omega)) (HE_w3.out))
 obtain ⟨HB,h9H⟩ : ∃ v,v = w3.heap.size:=⟨_,rfl⟩
 have HH_w4 : Hid (Hx w4 HB #[.bool h0,.bool h1,.bool h2,.bool h3,.bool h4,.bool h5] 4):=hd_ (by rw [hw,h9H];exact zqm (by first | rfl | (simp;done)))
 have HLH : Hid (w.heap.size ≤ HB):=hd_ (by have:=HG_w3.out.size;omega)
 try rw [← h9H]
 have HNHR : Hid (HB ≠ RB):=hd_ (by have:=(gz_ HR_w3.out).1;omega)
 have HNHE : Hid (HB ≠ EB):=hd_ (by have:=(gz_ HE_w3.out).1;omega)
 clear hw h9H
 clear R0 R1 R2 R3 R4 R5 R6 E0 E1 E2 E3 E4 E5 E6 Rf Ef Rz Ez
 obtain ⟨R0,R1,R2,R3,R4,R5,R6,Rf,Rz⟩:=box7_ HR_w4.out
 obtain ⟨E0,E1,E2,E3,E4,E5,E6,Ef,Ez⟩:=box7_ HE_w4.out
 obtain ⟨H0,H1,H2,H3,H4,H5,Hf,Hz⟩:=box6_ HH_w4.out
 skip
 clear R0 R1 R2 R3 R4 R5 R6 E0 E1 E2 E3 E4 E5 E6 H0 H1 H2 H3 H4 H5 Rf Ef Hf Rz Ez Hz
 go_cut [] from 16 to 19 (fun wx => ∃ (v0 v1 v2 v3 v4 v5 : Int) (v6 : Bool),Hid (Crs wx g)∧Hid (w.grownBy wx (some g))∧Hid (Hx wx RB #[.int .i64 0,.int .i64 0,.int .i64 0,.int .i64 0,.int .i64 0,.int .i64 0,.bool false] 64)∧Hid (Hx wx EB #[.int .i64 v0,.int .i64 v1,.int .i64 v2,.int .i64 v3,.int .i64 v4,.int .i64 v5,.bool v6] 64)∧Hid (Hx wx HB #[.bool h0,.bool h1,.bool h2,.bool h3,.bool h4,.bool h5] 4))
 case first =>
  cases h0
  ·
   obtain ⟨R0,R1,R2,R3,R4,R5,R6,Rf,Rz⟩:=box7_ HR_w4.out
   obtain ⟨E0,E1,E2,E3,E4,E5,E6,Ef,Ez⟩:=box7_ HE_w4.out
   obtain ⟨H0,H1,H2,H3,H4,H5,Hf,Hz⟩:=box6_ HH_w4.out
   go_wp2_with fail
   go_meet
   case rel => exact ⟨_,_,_,_,_,_,_,HC_w4,HG_w4,HR_w4,HE_w4,HH_w4⟩
  ·
   obtain ⟨R0,R1,R2,R3,R4,R5,R6,Rf,Rz⟩:=box7_ HR_w4.out
   obtain ⟨E0,E1,E2,E3,E4,E5,E6,Ef,Ez⟩:=box7_ HE_w4.out
   obtain ⟨H0,H1,H2,H3,H4,H5,Hf,Hz⟩:=box6_ HH_w4.out
   go_wp2_with fail
   refine (zqp g 6 _ HC_w4.out (by first | decide | omega) (by first | decide | omega)).mono ?_
   rintro e' w5 ⟨y,y1,y2,rfl,hcn,hg⟩
   have HC_w5:=hd_ hcn
   have HG_w5:=hd_ (zql HG_w4.out hg)
   have HR_w5:=hd_ (zqd hg (zqy (by have:=HLR.out;omega)) HR_w4.out)
   have HE_w5:=hd_ (zqd hg (zqy (by have:=HLE.out;omega)) HE_w4.out)
   have HH_w5:=hd_ (zqd hg (zqy (by have:=HLH.out;omega)) HH_w4.out)
   clear hcn hg
   clear R0 R1 R2 R3 R4 R5 R6 E0 E1 E2 E3 E4 E5 E6 H0 H1 H2 H3 H4 H5 Rf Ef Hf Rz Ez Hz
   obtain ⟨R0,R1,R2,R3,R4,R5,R6,Rf,Rz⟩:=box7_ HR_w5.out
   obtain ⟨E0,E1,E2,E3,E4,E5,E6,Ef,Ez⟩:=box7_ HE_w5.out
   obtain ⟨H0,H1,H2,H3,H4,H5,Hf,Hz⟩:=box6_ HH_w5.out
   go_wp2_with fail
   go_meet
   case rel => exact ⟨_,_,_,_,_,_,_,hd_ ((HC_w5.out).set (by have:=HLE.out;omega)),hd_ (zqc (HG_w5.out) HLE.out _ _),hd_ (zqb (by first | exact HNRE.out | exact fun e9 => HNER.out e9.symm) (HR_w5.out)),hd_ (zqa (HE_w5.out)),hd_ (zqb (by first | exact HNHE.out | exact fun e9 => HNEH.out e9.symm) (HH_w5.out))⟩
 case rest =>
  obtain ⟨v0,v1,v2,v3,v4,v5,v6,HC_wc,HG_wc,HR_wc,HE_wc,HH_wc⟩:=hcut
  obtain ⟨c0,hcw⟩ : ∃ v : World,v = wc:=⟨_,rfl⟩
  subst hcw
  clear HC_w4 HG_w4 HR_w4 HE_w4 HH_w4
  have HC_c0:=HC_wc
  have HG_c0:=HG_wc
  have HR_c0:=HR_wc
  have HE_c0:=HE_wc
  have HH_c0:=HH_wc
  clear HC_wc HG_wc HR_wc HE_wc HH_wc
  obtain ⟨R0,R1,R2,R3,R4,R5,R6,Rf,Rz⟩:=box7_ HR_c0.out
  obtain ⟨E0,E1,E2,E3,E4,E5,E6,Ef,Ez⟩:=box7_ HE_c0.out
  obtain ⟨H0,H1,H2,H3,H4,H5,Hf,Hz⟩:=box6_ HH_c0.out
  go_upto_if 22 with fail
  clear R0 R1 R2 R3 R4 R5 R6 E0 E1 E2 E3 E4 E5 E6 H0 H1 H2 H3 H4 H5 Rf Ef Hf Rz Ez Hz
  go_cut [] from 23 to 26 (fun wx => ∃ (v0 v1 v2 v3 v4 v5 : Int) (v6 : Bool),Hid (Crs wx g)∧Hid (w.grownBy wx (some g))∧Hid (Hx wx RB #[.int .i64 0,.int .i64 0,.int .i64 0,.int .i64 0,.int .i64 0,.int .i64 0,.bool false] 64)∧Hid (Hx wx EB #[.int .i64 v0,.int .i64 v1,.int .i64 v2,.int .i64 v3,.int .i64 v4,.int .i64 v5,.bool v6] 64)∧Hid (Hx wx HB #[.bool h0,.bool h1,.bool h2,.bool h3,.bool h4,.bool h5] 4))
  case first =>
   cases h1
   ·
    obtain ⟨R0,R1,R2,R3,R4,R5,R6,Rf,Rz⟩:=box7_ HR_c0.out
    obtain ⟨E0,E1,E2,E3,E4,E5,E6,Ef,Ez⟩:=box7_ HE_c0.out
    obtain ⟨H0,H1,H2,H3,H4,H5,Hf,Hz⟩:=box6_ HH_c0.out
    go_wp2_with fail
    go_meet
    case rel => exact ⟨_,_,_,_,_,_,_,HC_c0,HG_c0,HR_c0,HE_c0,HH_c0⟩
   ·
    obtain ⟨R0,R1,R2,R3,R4,R5,R6,Rf,Rz⟩:=box7_ HR_c0.out
    obtain ⟨E0,E1,E2,E3,E4,E5,E6,Ef,Ez⟩:=box7_ HE_c0.out
    obtain ⟨H0,H1,H2,H3,H4,H5,Hf,Hz⟩:=box6_ HH_c0.out
    go_wp2_with fail
    refine (zqp g 4 _ HC_c0.out (by first | decide | omega) (by first | decide | omega)).mono ?_
    rintro e' w5 ⟨y,y1,y2,rfl,hcn,hg⟩
    have HC_w5:=hd_ hcn
    have HG_w5:=hd_ (zql HG_c0.out hg)
    have HR_w5:=hd_ (zqd hg (zqy (by have:=HLR.out;omega)) HR_c0.out)
    have HE_w5:=hd_ (zqd hg (zqy (by have:=HLE.out;omega)) HE_c0.out)
    have HH_w5:=hd_ (zqd hg (zqy (by have:=HLH.out;omega)) HH_c0.out)
    clear hcn hg
    clear R0 R1 R2 R3 R4 R5 R6 E0 E1 E2 E3 E4 E5 E6 H0 H1 H2 H3 H4 H5 Rf Ef Hf Rz Ez Hz
    obtain ⟨R0,R1,R2,R3,R4,R5,R6,Rf,Rz⟩:=box7_ HR_w5.out
    obtain ⟨E0,E1,E2,E3,E4,E5,E6,Ef,Ez⟩:=box7_ HE_w5.out
    obtain ⟨H0,H1,H2,H3,H4,H5,Hf,Hz⟩:=box6_ HH_w5.out
    go_wp2_with fail
    go_meet
    case rel => exact ⟨_,_,_,_,_,_,_,hd_ ((HC_w5.out).set (by have:=HLE.out;omega)),hd_ (zqc (HG_w5.out) HLE.out _ _),hd_ (zqb (by first | exact HNRE.out | exact fun e9 => HNER.out e9.symm) (HR_w5.out)),hd_ (zqa (HE_w5.out)),hd_ (zqb (by first | exact HNHE.out | exact fun e9 => HNEH.out e9.symm) (HH_w5.out))⟩
  case rest =>
   obtain ⟨v0,v1,v2,v3,v4,v5,v6,HC_wc,HG_wc,HR_wc,HE_wc,HH_wc⟩:=hcut
   obtain ⟨c1,hcw⟩ : ∃ v : World,v = wc:=⟨_,rfl⟩
   subst hcw
   clear HC_c0 HG_c0 HR_c0 HE_c0 HH_c0
   have HC_c1:=HC_wc
   have HG_c1:=HG_wc
   have HR_c1:=HR_wc
   have HE_c1:=HE_wc
   have HH_c1:=HH_wc
   clear HC_wc HG_wc HR_wc HE_wc HH_wc
   obtain ⟨R0,R1,R2,R3,R4,R5,R6,Rf,Rz⟩:=box7_ HR_c1.out
   obtain ⟨E0,E1,E2,E3,E4,E5,E6,Ef,Ez⟩:=box7_ HE_c1.out
   obtain ⟨H0,H1,H2,H3,H4,H5,Hf,Hz⟩:=box6_ HH_c1.out
   go_upto_if 29 with fail
   clear R0 R1 R2 R3 R4 R5 R6 E0 E1 E2 E3 E4 E5 E6 H0 H1 H2 H3 H4 H5 Rf Ef Hf Rz Ez Hz
   go_cut [] from 30 to 37 (fun wx => ∃ (v0 v1 v2 v3 v4 v5 : Int) (v6 : Bool),Hid (Crs wx g)∧Hid (w.grownBy wx (some g))∧Hid (Hx wx RB #[.int .i64 0,.int .i64 0,.int .i64 0,.int .i64 0,.int .i64 0,.int .i64 0,.bool false] 64)∧Hid (Hx wx EB #[.int .i64 v0,.int .i64 v1,.int .i64 v2,.int .i64 v3,.int .i64 v4,.int .i64 v5,.bool v6] 64)∧Hid (Hx wx HB #[.bool h0,.bool h1,.bool h2,.bool h3,.bool h4,.bool h5] 4))
   case first =>
    cases h2
    ·
     obtain ⟨R0,R1,R2,R3,R4,R5,R6,Rf,Rz⟩:=box7_ HR_c1.out
     obtain ⟨E0,E1,E2,E3,E4,E5,E6,Ef,Ez⟩:=box7_ HE_c1.out
     obtain ⟨H0,H1,H2,H3,H4,H5,Hf,Hz⟩:=box6_ HH_c1.out
     go_wp2_with fail
     go_meet
     case rel => exact ⟨_,_,_,_,_,_,_,HC_c1,HG_c1,HR_c1,HE_c1,HH_c1⟩
    ·
     obtain ⟨R0,R1,R2,R3,R4,R5,R6,Rf,Rz⟩:=box7_ HR_c1.out
     obtain ⟨E0,E1,E2,E3,E4,E5,E6,Ef,Ez⟩:=box7_ HE_c1.out
     obtain ⟨H0,H1,H2,H3,H4,H5,Hf,Hz⟩:=box6_ HH_c1.out
     go_wp2_with fail
     refine zxb (fun w' => kqiiiiiib_ w' EB v0 v1 v2 v3 v4 v5 v6) [yF 0 30,yF 1 31,yF 2 32,yT 3 33,yF 4 34,yF 5 35,yF 6 36,yF 7 37] rfl (by kernel_rfl) (by kernel_rfl) (by kernel_rfl) (by kernel_rfl) (by kernel_rfl) (by kernel_rfl) ⟨E0,E1,E2,E3,E4,E5,E6⟩ (fun hHeld => ?_)
     obtain ⟨w5,hwd⟩ : ∃ wd,c1.drew = wd:=⟨_,rfl⟩
     have HC_w5 : Hid (Crs w5 g):=hd_ (by rw [← hwd];exact HC_c1.out)
     have HG_w5 : Hid (w.grownBy w5 (some g)):=hd_ (by rw [← hwd];exact zjn HG_c1.out)
     have HR_w5 : Hid (Hx w5 RB #[.int .i64 0,.int .i64 0,.int .i64 0,.int .i64 0,.int .i64 0,.int .i64 0,.bool false] 64):=hd_ (by rw [← hwd];exact zqk HR_c1.out)
     have HE_w5 : Hid (Hx w5 EB #[.int .i64 v0,.int .i64 v1,.int .i64 v2,.int .i64 v3,.int .i64 v4,.int .i64 v5,.bool v6] 64):=hd_ (by rw [← hwd];exact zqk HE_c1.out)
     have HH_w5 : Hid (Hx w5 HB #[.bool h0,.bool h1,.bool true,.bool h3,.bool h4,.bool h5] 4):=hd_ (by rw [← hwd];exact zqk HH_c1.out)
     clear R0 R1 R2 R3 R4 R5 R6 E0 E1 E2 E3 E4 E5 E6 H0 H1 H2 H3 H4 H5 Rf Ef Hf Rz Ez Hz
     rw [hwd] at hHeld ⊢
     clear hwd
     obtain ⟨R0,R1,R2,R3,R4,R5,R6,Rf,Rz⟩:=box7_ HR_w5.out
     obtain ⟨E0,E1,E2,E3,E4,E5,E6,Ef,Ez⟩:=box7_ HE_w5.out
     obtain ⟨H0,H1,H2,H3,H4,H5,Hf,Hz⟩:=box6_ HH_w5.out
     refine tk_ ?_
     refine Sq.step rfl (by rfl) (fun K hK => ?_)
     go_simp
     refine (zqp g 3 _ HC_w5.out (by first | decide | omega) (by first | decide | omega)).mono ?_
     rintro e' w6 ⟨y,y1,y2,rfl,hcn,hg⟩
     have HC_w6:=hd_ hcn
     have HG_w6:=hd_ (zql HG_w5.out hg)
     have HR_w6:=hd_ (zqd hg (zqy (by have:=HLR.out;omega)) HR_w5.out)
     have HE_w6:=hd_ (zqd hg (zqy (by have:=HLE.out;omega)) HE_w5.out)
     have HH_w6:=hd_ (zqd hg (zqy (by have:=HLH.out;omega)) HH_w5.out)
     clear hcn hg
     clear R0 R1 R2 R3 R4 R5 R6 E0 E1 E2 E3 E4 E5 E6 H0 H1 H2 H3 H4 H5 Rf Ef Hf Rz Ez Hz
     obtain ⟨R0,R1,R2,R3,R4,R5,R6,Rf,Rz⟩:=box7_ HR_w6.out
     obtain ⟨E0,E1,E2,E3,E4,E5,E6,Ef,Ez⟩:=box7_ HE_w6.out
     obtain ⟨H0,H1,H2,H3,H4,H5,Hf,Hz⟩:=box6_ HH_w6.out
     go_simp
     refine hK.out _ _ ⟨E0,E1,E2,E3,E4,E5,E6⟩ (fun hHeld => ?_)
     clear hK K
     refine tk_ ?_
     refine Sq.done ?_
     intro KK hKK
     go_simp
     refine hKK _ _ (NoPanic.normal ?_)
     go_wp2_with fail
     go_meet
     case rel => exact ⟨_,_,_,_,_,_,_,hd_ ((HC_w6.out).set (by have:=HLE.out;omega)),hd_ (zqc (HG_w6.out) HLE.out _ _),hd_ (zqb (by first | exact HNRE.out | exact fun e9 => HNER.out e9.symm) (HR_w6.out)),hd_ (zqa (HE_w6.out)),hd_ (zqb (by first | exact HNHE.out | exact fun e9 => HNEH.out e9.symm) (HH_w6.out))⟩
   case rest =>
    obtain ⟨v0,v1,v2,v3,v4,v5,v6,HC_wc,HG_wc,HR_wc,HE_wc,HH_wc⟩:=hcut
    obtain ⟨c2,hcw⟩ : ∃ v : World,v = wc:=⟨_,rfl⟩
    subst hcw
    clear HC_c1 HG_c1 HR_c1 HE_c1 HH_c1
    have HC_c2:=HC_wc
    have HG_c2:=HG_wc
    have HR_c2:=HR_wc
    have HE_c2:=HE_wc
    have HH_c2:=HH_wc
    clear HC_wc HG_wc HR_wc HE_wc HH_wc
    obtain ⟨R0,R1,R2,R3,R4,R5,R6,Rf,Rz⟩:=box7_ HR_c2.out
    obtain ⟨E0,E1,E2,E3,E4,E5,E6,Ef,Ez⟩:=box7_ HE_c2.out
    obtain ⟨H0,H1,H2,H3,H4,H5,Hf,Hz⟩:=box6_ HH_c2.out
    go_upto_if 40 with fail
    clear R0 R1 R2 R3 R4 R5 R6 E0 E1 E2 E3 E4 E5 E6 H0 H1 H2 H3 H4 H5 Rf Ef Hf Rz Ez Hz
    go_cut [] from 41 to 45 (fun wx => ∃ (v0 v1 v2 v3 v4 v5 : Int) (v6 : Bool),Hid (Crs wx g)∧Hid (w.grownBy wx (some g))∧Hid (Hx wx RB #[.int .i64 0,.int .i64 0,.int .i64 0,.int .i64 0,.int .i64 0,.int .i64 0,.bool false] 64)∧Hid (Hx wx EB #[.int .i64 v0,.int .i64 v1,.int .i64 v2,.int .i64 v3,.int .i64 v4,.int .i64 v5,.bool v6] 64)∧Hid (Hx wx HB #[.bool h0,.bool h1,.bool h2,.bool h3,.bool h4,.bool h5] 4))
    case first =>
     cases h3
     ·
      obtain ⟨R0,R1,R2,R3,R4,R5,R6,Rf,Rz⟩:=box7_ HR_c2.out
      obtain ⟨E0,E1,E2,E3,E4,E5,E6,Ef,Ez⟩:=box7_ HE_c2.out
      obtain ⟨H0,H1,H2,H3,H4,H5,Hf,Hz⟩:=box6_ HH_c2.out
      go_wp2_with fail
      go_meet
      case rel => exact ⟨_,_,_,_,_,_,_,HC_c2,HG_c2,HR_c2,HE_c2,HH_c2⟩
     ·
      obtain ⟨R0,R1,R2,R3,R4,R5,R6,Rf,Rz⟩:=box7_ HR_c2.out
      obtain ⟨E0,E1,E2,E3,E4,E5,E6,Ef,Ez⟩:=box7_ HE_c2.out
      obtain ⟨H0,H1,H2,H3,H4,H5,Hf,Hz⟩:=box6_ HH_c2.out
      go_wp2_with fail
      refine (zqp g 400 _ HC_c2.out (by first | decide | omega) (by first | decide | omega)).mono ?_
      rintro e' w5 ⟨y,y1,y2,rfl,hcn,hg⟩
      have HC_w5:=hd_ hcn
      have HG_w5:=hd_ (zql HG_c2.out hg)
      have HR_w5:=hd_ (zqd hg (zqy (by have:=HLR.out;omega)) HR_c2.out)
      have HE_w5:=hd_ (zqd hg (zqy (by have:=HLE.out;omega)) HE_c2.out)
      have HH_w5:=hd_ (zqd hg (zqy (by have:=HLH.out;omega)) HH_c2.out)
      clear hcn hg
      clear R0 R1 R2 R3 R4 R5 R6 E0 E1 E2 E3 E4 E5 E6 H0 H1 H2 H3 H4 H5 Rf Ef Hf Rz Ez Hz
      obtain ⟨R0,R1,R2,R3,R4,R5,R6,Rf,Rz⟩:=box7_ HR_w5.out
      obtain ⟨E0,E1,E2,E3,E4,E5,E6,Ef,Ez⟩:=box7_ HE_w5.out
      obtain ⟨H0,H1,H2,H3,H4,H5,Hf,Hz⟩:=box6_ HH_w5.out
      go_wp2_with fail
      go_meet
      case rel => exact ⟨_,_,_,_,_,_,_,hd_ ((HC_w5.out).set (by have:=HLE.out;omega)),hd_ (zqc (HG_w5.out) HLE.out _ _),hd_ (zqb (by first | exact HNRE.out | exact fun e9 => HNER.out e9.symm) (HR_w5.out)),hd_ (zqa (HE_w5.out)),hd_ (zqb (by first | exact HNHE.out | exact fun e9 => HNEH.out e9.symm) (HH_w5.out))⟩
    case rest =>
     obtain ⟨v0,v1,v2,v3,v4,v5,v6,HC_wc,HG_wc,HR_wc,HE_wc,HH_wc⟩:=hcut
     obtain ⟨c3,hcw⟩ : ∃ v : World,v = wc:=⟨_,rfl⟩
     subst hcw
     clear HC_c2 HG_c2 HR_c2 HE_c2 HH_c2
     have HC_c3:=HC_wc
     have HG_c3:=HG_wc
     have HR_c3:=HR_wc
     have HE_c3:=HE_wc
     have HH_c3:=HH_wc
     clear HC_wc HG_wc HR_wc HE_wc HH_wc
     obtain ⟨R0,R1,R2,R3,R4,R5,R6,Rf,Rz⟩:=box7_ HR_c3.out
     obtain ⟨E0,E1,E2,E3,E4,E5,E6,Ef,Ez⟩:=box7_ HE_c3.out
     obtain ⟨H0,H1,H2,H3,H4,H5,Hf,Hz⟩:=box6_ HH_c3.out
     go_upto_if 48 with fail
     clear R0 R1 R2 R3 R4 R5 R6 E0 E1 E2 E3 E4 E5 E6 H0 H1 H2 H3 H4 H5 Rf Ef Hf Rz Ez Hz
     go_cut [] from 49 to 52 (fun wx => ∃ (v0 v1 v2 v3 v4 v5 : Int) (v6 : Bool),Hid (Crs wx g)∧Hid (w.grownBy wx (some g))∧Hid (Hx wx RB #[.int .i64 0,.int .i64 0,.int .i64 0,.int .i64 0,.int .i64 0,.int .i64 0,.bool false] 64)∧Hid (Hx wx EB #[.int .i64 v0,.int .i64 v1,.int .i64 v2,.int .i64 v3,.int .i64 v4,.int .i64 v5,.bool v6] 64)∧Hid (Hx wx HB #[.bool h0,.bool h1,.bool h2,.bool h3,.bool h4,.bool h5] 4))
     case first =>
      cases h4
      ·
       obtain ⟨R0,R1,R2,R3,R4,R5,R6,Rf,Rz⟩:=box7_ HR_c3.out
       obtain ⟨E0,E1,E2,E3,E4,E5,E6,Ef,Ez⟩:=box7_ HE_c3.out
       obtain ⟨H0,H1,H2,H3,H4,H5,Hf,Hz⟩:=box6_ HH_c3.out
       go_wp2_with fail
       go_meet
       case rel => exact ⟨_,_,_,_,_,_,_,HC_c3,HG_c3,HR_c3,HE_c3,HH_c3⟩
      ·
       obtain ⟨R0,R1,R2,R3,R4,R5,R6,Rf,Rz⟩:=box7_ HR_c3.out
       obtain ⟨E0,E1,E2,E3,E4,E5,E6,Ef,Ez⟩:=box7_ HE_c3.out
       obtain ⟨H0,H1,H2,H3,H4,H5,Hf,Hz⟩:=box6_ HH_c3.out
       go_wp2_with fail
       refine (zqp g 300 _ HC_c3.out (by first | decide | omega) (by first | decide | omega)).mono ?_
       rintro e' w5 ⟨y,y1,y2,rfl,hcn,hg⟩
       have HC_w5:=hd_ hcn
       have HG_w5:=hd_ (zql HG_c3.out hg)
       have HR_w5:=hd_ (zqd hg (zqy (by have:=HLR.out;omega)) HR_c3.out)
       have HE_w5:=hd_ (zqd hg (zqy (by have:=HLE.out;omega)) HE_c3.out)
       have HH_w5:=hd_ (zqd hg (zqy (by have:=HLH.out;omega)) HH_c3.out)
       clear hcn hg
       clear R0 R1 R2 R3 R4 R5 R6 E0 E1 E2 E3 E4 E5 E6 H0 H1 H2 H3 H4 H5 Rf Ef Hf Rz Ez Hz
       obtain ⟨R0,R1,R2,R3,R4,R5,R6,Rf,Rz⟩:=box7_ HR_w5.out
       obtain ⟨E0,E1,E2,E3,E4,E5,E6,Ef,Ez⟩:=box7_ HE_w5.out
       obtain ⟨H0,H1,H2,H3,H4,H5,Hf,Hz⟩:=box6_ HH_w5.out
       go_wp2_with fail
       go_meet
       case rel => exact ⟨_,_,_,_,_,_,_,hd_ ((HC_w5.out).set (by have:=HLE.out;omega)),hd_ (zqc (HG_w5.out) HLE.out _ _),hd_ (zqb (by first | exact HNRE.out | exact fun e9 => HNER.out e9.symm) (HR_w5.out)),hd_ (zqa (HE_w5.out)),hd_ (zqb (by first | exact HNHE.out | exact fun e9 => HNEH.out e9.symm) (HH_w5.out))⟩
     case rest =>
      obtain ⟨v0,v1,v2,v3,v4,v5,v6,HC_wc,HG_wc,HR_wc,HE_wc,HH_wc⟩:=hcut
      obtain ⟨c4,hcw⟩ : ∃ v : World,v = wc:=⟨_,rfl⟩
      subst hcw
      clear HC_c3 HG_c3 HR_c3 HE_c3 HH_c3
      have HC_c4:=HC_wc
      have HG_c4:=HG_wc
      have HR_c4:=HR_wc
      have HE_c4:=HE_wc
      have HH_c4:=HH_wc
      clear HC_wc HG_wc HR_wc HE_wc HH_wc
      obtain ⟨R0,R1,R2,R3,R4,R5,R6,Rf,Rz⟩:=box7_ HR_c4.out
      obtain ⟨E0,E1,E2,E3,E4,E5,E6,Ef,Ez⟩:=box7_ HE_c4.out
      obtain ⟨H0,H1,H2,H3,H4,H5,Hf,Hz⟩:=box6_ HH_c4.out
      cases h5
      ·
       go_wp2_with fail
       refine nm_ ?_
       intro w5 hw
       have HC_w5 : Hid (Crs w5 g):=hd_ (by rw [hw];exact (HC_c4.out).set (by have:=HLE.out;omega))
       have HG_w5 : Hid (w.grownBy w5 (some g)):=hd_ (by rw [hw];exact zqc (HG_c4.out) HLE.out _ _)
       have HR_w5 : Hid (Hx w5 RB #[.int .i64 0,.int .i64 0,.int .i64 0,.int .i64 0,.int .i64 0,.int .i64 0,.bool false] 64):=hd_ (by rw [hw];exact zqb (by first | exact HNRE.out | exact fun e9 => HNER.out e9.symm) (HR_c4.out))
       have HE_w5 : Hid (Hx w5 EB #[.int .i64 v0,.int .i64 v1,.int .i64 v2,.int .i64 v3,.int .i64 v4,.int .i64 v5,.bool false] 64):=hd_ (by rw [hw];exact zqa (HE_c4.out))
       have HH_w5 : Hid (Hx w5 HB #[.bool h0,.bool h1,.bool h2,.bool h3,.bool h4,.bool false] 4):=hd_ (by rw [hw];exact zqb (by first | exact HNHE.out | exact fun e9 => HNEH.out e9.symm) (HH_c4.out))
       clear hw
       clear R0 R1 R2 R3 R4 R5 R6 E0 E1 E2 E3 E4 E5 E6 H0 H1 H2 H3 H4 H5 Rf Ef Hf Rz Ez Hz
       obtain ⟨R0,R1,R2,R3,R4,R5,R6,Rf,Rz⟩:=box7_ HR_w5.out
       obtain ⟨E0,E1,E2,E3,E4,E5,E6,Ef,Ez⟩:=box7_ HE_w5.out
       obtain ⟨H0,H1,H2,H3,H4,H5,Hf,Hz⟩:=box6_ HH_w5.out
       refine (zqp g 14 _ HC_w5.out (by first | decide | omega) (by first | decide | omega)).mono ?_
       rintro e' w6 ⟨q,q1,q2,rfl,hcn,hg⟩
       have HC_w6:=hd_ hcn
       have HG_w6:=hd_ (zql HG_w5.out hg)
       have HR_w6:=hd_ (zqd hg (zqy (by have:=HLR.out;omega)) HR_w5.out)
       have HE_w6:=hd_ (zqd hg (zqy (by have:=HLE.out;omega)) HE_w5.out)
       have HH_w6:=hd_ (zqd hg (zqy (by have:=HLH.out;omega)) HH_w5.out)
       clear hcn hg
       clear R0 R1 R2 R3 R4 R5 R6 E0 E1 E2 E3 E4 E5 E6 H0 H1 H2 H3 H4 H5 Rf Ef Hf Rz Ez Hz
       obtain ⟨R0,R1,R2,R3,R4,R5,R6,Rf,Rz⟩:=box7_ HR_w6.out
       obtain ⟨E0,E1,E2,E3,E4,E5,E6,Ef,Ez⟩:=box7_ HE_w6.out
       obtain ⟨H0,H1,H2,H3,H4,H5,Hf,Hz⟩:=box6_ HH_w6.out
       cases tq : (q == 0)
       ·
        go_wp2_with fail
        refine nm_ ?_
        intro w7 hw
        have HC_w7 : Hid (Crs w7 g):=hd_ (by rw [hw];exact (((((((HC_w6.out).set (by have:=HLR.out;omega)).set (by have:=HLR.out;omega)).set (by have:=HLR.out;omega)).set (by have:=HLR.out;omega)).set (by have:=HLR.out;omega)).set (by have:=HLR.out;omega)).set (by have:=HLR.out;omega))
        have HG_w7 : Hid (w.grownBy w7 (some g)):=hd_ (by rw [hw];exact zqc (zqc (zqc (zqc (zqc (zqc (zqc (HG_w6.out) HLR.out _ _) HLR.out _ _) HLR.out _ _) HLR.out _ _) HLR.out _ _) HLR.out _ _) HLR.out _ _)
        have HR_w7 : Hid (Hx w7 RB #[.int .i64 v0,.int .i64 v1,.int .i64 v2,.int .i64 v3,.int .i64 v4,.int .i64 v5,.bool false] 64):=hd_ (by rw [hw];exact zqa (zqa (zqa (zqa (zqa (zqa (zqa (HR_w6.out))))))))
        have HE_w7 : Hid (Hx w7 EB #[.int .i64 v0,.int .i64 v1,.int .i64 v2,.int .i64 v3,.int .i64 v4,.int .i64 v5,.bool false] 64):=hd_ (by rw [hw];exact zqb (by first | exact HNER.out | exact fun e9 => HNRE.out e9.symm) (zqb (by first | exact HNER.out | exact fun e9 => HNRE.out e9.symm) (zqb (by first | exact HNER.out | exact fun e9 => HNRE.out e9.symm) (zqb (by first | exact HNER.out | exact fun e9 => HNRE.out e9.symm) (zqb (by first | exact HNER.out | exact fun e9 => HNRE.out e9.symm) (zqb (by first | exact HNER.out | exact fun e9 => HNRE.out e9.symm) (zqb (by first | exact HNER.out | exact fun e9 => HNRE.out e9.symm) (HE_w6.out))))))))
        have HH_w7 : Hid (Hx w7 HB #[.bool h0,.bool h1,.bool h2,.bool h3,.bool h4,.bool false] 4):=hd_ (by rw [hw];exact zqb (by first | exact HNHR.out | exact fun e9 => HNRH.out e9.symm) (zqb (by first | exact HNHR.out | exact fun e9 => HNRH.out e9.symm) (zqb (by first | exact HNHR.out | exact fun e9 => HNRH.out e9.symm) (zqb (by first | exact HNHR.out | exact fun e9 => HNRH.out e9.symm) (zqb (by first | exact HNHR.out | exact fun e9 => HNRH.out e9.symm) (zqb (by first | exact HNHR.out | exact fun e9 => HNRH.out e9.symm) (zqb (by first | exact HNHR.out | exact fun e9 => HNRH.out e9.symm) (HH_w6.out))))))))
        clear hw
        clear R0 R1 R2 R3 R4 R5 R6 E0 E1 E2 E3 E4 E5 E6 H0 H1 H2 H3 H4 H5 Rf Ef Hf Rz Ez Hz
        obtain ⟨R0,R1,R2,R3,R4,R5,R6,Rf,Rz⟩:=box7_ HR_w7.out
        obtain ⟨E0,E1,E2,E3,E4,E5,E6,Ef,Ez⟩:=box7_ HE_w7.out
        obtain ⟨H0,H1,H2,H3,H4,H5,Hf,Hz⟩:=box6_ HH_w7.out
        refine bodyPost_ret (v:=.agg #[.int .i64 v0,.int .i64 v1,.int .i64 v2,.int .i64 v3,.int .i64 v4,.int .i64 v5,.bool false]) (by simp [results,Tryz.results136,go_sem, *]) rfl ?_
        exact ⟨⟨v0,v1,v2,v3,v4,v5,false⟩,rfl,HC_w7.out,HG_w7.out⟩
       ·
        cases h3
        ·
         go_wp2_with fail
         refine nm_ ?_
         intro w7 hw
         have HC_w7 : Hid (Crs w7 g):=hd_ (by rw [hw];exact (((((((HC_w6.out).set (by have:=HLR.out;omega)).set (by have:=HLR.out;omega)).set (by have:=HLR.out;omega)).set (by have:=HLR.out;omega)).set (by have:=HLR.out;omega)).set (by have:=HLR.out;omega)).set (by have:=HLR.out;omega))
         have HG_w7 : Hid (w.grownBy w7 (some g)):=hd_ (by rw [hw];exact zqc (zqc (zqc (zqc (zqc (zqc (zqc (HG_w6.out) HLR.out _ _) HLR.out _ _) HLR.out _ _) HLR.out _ _) HLR.out _ _) HLR.out _ _) HLR.out _ _)
         have HR_w7 : Hid (Hx w7 RB #[.int .i64 v0,.int .i64 v1,.int .i64 v2,.int .i64 v3,.int .i64 v4,.int .i64 v5,.bool false] 64):=hd_ (by rw [hw];exact zqa (zqa (zqa (zqa (zqa (zqa (zqa (HR_w6.out))))))))
         have HE_w7 : Hid (Hx w7 EB #[.int .i64 v0,.int .i64 v1,.int .i64 v2,.int .i64 v3,.int .i64 v4,.int .i64 v5,.bool false] 64):=hd_ (by rw [hw];exact zqb (by first | exact HNER.out | exact fun e9 => HNRE.out e9.symm) (zqb (by first | exact HNER.out | exact fun e9 => HNRE.out e9.symm) (zqb (by first | exact HNER.out | exact fun e9 => HNRE.out e9.symm) (zqb (by first | exact HNER.out | exact fun e9 => HNRE.out e9.symm) (zqb (by first | exact HNER.out | exact fun e9 => HNRE.out e9.symm) (zqb (by first | exact HNER.out | exact fun e9 => HNRE.out e9.symm) (zqb (by first | exact HNER.out | exact fun e9 => HNRE.out e9.symm) (HE_w6.out))))))))
         have HH_w7 : Hid (Hx w7 HB #[.bool h0,.bool h1,.bool h2,.bool false,.bool h4,.bool false] 4):=hd_ (by rw [hw];exact zqb (by first | exact HNHR.out | exact fun e9 => HNRH.out e9.symm) (zqb (by first | exact HNHR.out | exact fun e9 => HNRH.out e9.symm) (zqb (by first | exact HNHR.out | exact fun e9 => HNRH.out e9.symm) (zqb (by first | exact HNHR.out | exact fun e9 => HNRH.out e9.symm) (zqb (by first | exact HNHR.out | exact fun e9 => HNRH.out e9.symm) (zqb (by first | exact HNHR.out | exact fun e9 => HNRH.out e9.symm) (zqb (by first | exact HNHR.out | exact fun e9 => HNRH.out e9.symm) (HH_w6.out))))))))
         clear hw
         clear R0 R1 R2 R3 R4 R5 R6 E0 E1 E2 E3 E4 E5 E6 H0 H1 H2 H3 H4 H5 Rf Ef Hf Rz Ez Hz
         obtain ⟨R0,R1,R2,R3,R4,R5,R6,Rf,Rz⟩:=box7_ HR_w7.out
         obtain ⟨E0,E1,E2,E3,E4,E5,E6,Ef,Ez⟩:=box7_ HE_w7.out
         obtain ⟨H0,H1,H2,H3,H4,H5,Hf,Hz⟩:=box6_ HH_w7.out
         refine bodyPost_ret (v:=.agg #[.int .i64 v0,.int .i64 v1,.int .i64 v2,.int .i64 v3,.int .i64 v4,.int .i64 v5,.bool false]) (by simp [results,Tryz.results136,go_sem, *]) rfl ?_
         exact ⟨⟨v0,v1,v2,v3,v4,v5,false⟩,rfl,HC_w7.out,HG_w7.out⟩
        ·
         go_wp2_with fail
         refine (zqp g 2 _ HC_w6.out (by first | decide | omega) (by first | decide | omega)).mono ?_
         rintro e' w7 ⟨r,r1,r2,rfl,hcn,hg⟩
         have HC_w7:=hd_ hcn
         have HG_w7:=hd_ (zql HG_w6.out hg)
         have HR_w7:=hd_ (zqd hg (zqy (by have:=HLR.out;omega)) HR_w6.out)
         have HE_w7:=hd_ (zqd hg (zqy (by have:=HLE.out;omega)) HE_w6.out)
         have HH_w7:=hd_ (zqd hg (zqy (by have:=HLH.out;omega)) HH_w6.out)
         clear hcn hg
         clear R0 R1 R2 R3 R4 R5 R6 E0 E1 E2 E3 E4 E5 E6 H0 H1 H2 H3 H4 H5 Rf Ef Hf Rz Ez Hz
         obtain ⟨R0,R1,R2,R3,R4,R5,R6,Rf,Rz⟩:=box7_ HR_w7.out
         obtain ⟨E0,E1,E2,E3,E4,E5,E6,Ef,Ez⟩:=box7_ HE_w7.out
         obtain ⟨H0,H1,H2,H3,H4,H5,Hf,Hz⟩:=box6_ HH_w7.out
         go_upto_region 17 with fail
         refine nm_ ?_
         intro w8 hw
         have HC_w8 : Hid (Crs w8 g):=hd_ (by rw [hw];exact (HC_w7.out).set (by have:=HLE.out;omega))
         have HG_w8 : Hid (w.grownBy w8 (some g)):=hd_ (by rw [hw];exact zqc (HG_w7.out) HLE.out _ _)
         have HR_w8 : Hid (Hx w8 RB #[.int .i64 0,.int .i64 0,.int .i64 0,.int .i64 0,.int .i64 0,.int .i64 0,.bool false] 64):=hd_ (by rw [hw];exact zqb (by first | exact HNRE.out | exact fun e9 => HNER.out e9.symm) (HR_w7.out))
         have HE_w8 : Hid (Hx w8 EB #[.int .i64 v0,.int .i64 v1,.int .i64 v2,.int .i64 v3,.int .i64 (1125899906842624 - r),.int .i64 v5,.bool false] 64):=hd_ (by rw [hw];exact zqa (HE_w7.out))
         have HH_w8 : Hid (Hx w8 HB #[.bool h0,.bool h1,.bool h2,.bool true,.bool h4,.bool false] 4):=hd_ (by rw [hw];exact zqb (by first | exact HNHE.out | exact fun e9 => HNEH.out e9.symm) (HH_w7.out))
         clear hw
         clear R0 R1 R2 R3 R4 R5 R6 E0 E1 E2 E3 E4 E5 E6 H0 H1 H2 H3 H4 H5 Rf Ef Hf Rz Ez Hz
         obtain ⟨R0,R1,R2,R3,R4,R5,R6,Rf,Rz⟩:=box7_ HR_w8.out
         obtain ⟨E0,E1,E2,E3,E4,E5,E6,Ef,Ez⟩:=box7_ HE_w8.out
         obtain ⟨H0,H1,H2,H3,H4,H5,Hf,Hz⟩:=box6_ HH_w8.out
         go_wp2_with fail
         refine nm_ ?_
         intro w9 hw
         have HC_w9 : Hid (Crs w9 g):=hd_ (by rw [hw];exact (((((((HC_w8.out).set (by have:=HLR.out;omega)).set (by have:=HLR.out;omega)).set (by have:=HLR.out;omega)).set (by have:=HLR.out;omega)).set (by have:=HLR.out;omega)).set (by have:=HLR.out;omega)).set (by have:=HLR.out;omega))
         have HG_w9 : Hid (w.grownBy w9 (some g)):=hd_ (by rw [hw];exact zqc (zqc (zqc (zqc (zqc (zqc (zqc (HG_w8.out) HLR.out _ _) HLR.out _ _) HLR.out _ _) HLR.out _ _) HLR.out _ _) HLR.out _ _) HLR.out _ _)
         have HR_w9 : Hid (Hx w9 RB #[.int .i64 v0,.int .i64 v1,.int .i64 v2,.int .i64 v3,.int .i64 (1125899906842624 - r),.int .i64 v5,.bool false] 64):=hd_ (by rw [hw];exact zqa (zqa (zqa (zqa (zqa (zqa (zqa (HR_w8.out))))))))
         have HE_w9 : Hid (Hx w9 EB #[.int .i64 v0,.int .i64 v1,.int .i64 v2,.int .i64 v3,.int .i64 (1125899906842624 - r),.int .i64 v5,.bool false] 64):=hd_ (by rw [hw];exact zqb (by first | exact HNER.out | exact fun e9 => HNRE.out e9.symm) (zqb (by first | exact HNER.out | exact fun e9 => HNRE.out e9.symm) (zqb (by first | exact HNER.out | exact fun e9 => HNRE.out e9.symm) (zqb (by first | exact HNER.out | exact fun e9 => HNRE.out e9.symm) (zqb (by first | exact HNER.out | exact fun e9 => HNRE.out e9.symm) (zqb (by first | exact HNER.out | exact fun e9 => HNRE.out e9.symm) (zqb (by first | exact HNER.out | exact fun e9 => HNRE.out e9.symm) (HE_w8.out))))))))
         have HH_w9 : Hid (Hx w9 HB #[.bool h0,.bool h1,.bool h2,.bool true,.bool h4,.bool false] 4):=hd_ (by rw [hw];exact zqb (by first | exact HNHR.out | exact fun e9 => HNRH.out e9.symm) (zqb (by first | exact HNHR.out | exact fun e9 => HNRH.out e9.symm) (zqb (by first | exact HNHR.out | exact fun e9 => HNRH.out e9.symm) (zqb (by first | exact HNHR.out | exact fun e9 => HNRH.out e9.symm) (zqb (by first | exact HNHR.out | exact fun e9 => HNRH.out e9.symm) (zqb (by first | exact HNHR.out | exact fun e9 => HNRH.out e9.symm) (zqb (by first | exact HNHR.out | exact fun e9 => HNRH.out e9.symm) (HH_w8.out))))))))
         clear hw
         clear R0 R1 R2 R3 R4 R5 R6 E0 E1 E2 E3 E4 E5 E6 H0 H1 H2 H3 H4 H5 Rf Ef Hf Rz Ez Hz
         obtain ⟨R0,R1,R2,R3,R4,R5,R6,Rf,Rz⟩:=box7_ HR_w9.out
         obtain ⟨E0,E1,E2,E3,E4,E5,E6,Ef,Ez⟩:=box7_ HE_w9.out
         obtain ⟨H0,H1,H2,H3,H4,H5,Hf,Hz⟩:=box6_ HH_w9.out
         refine bodyPost_ret (v:=.agg #[.int .i64 v0,.int .i64 v1,.int .i64 v2,.int .i64 v3,.int .i64 (1125899906842624 - r),.int .i64 v5,.bool false]) (by simp [results,Tryz.results136,go_sem, *]) rfl ?_
         exact ⟨⟨v0,v1,v2,v3,(1125899906842624 - r),v5,false⟩,rfl,HC_w9.out,HG_w9.out⟩
      ·
       go_wp2_with fail
       refine (zqp g 2 _ HC_c4.out (by first | decide | omega) (by first | decide | omega)).mono ?_
       rintro e' w5 ⟨z,z1,z2,rfl,hcn,hg⟩
       have HC_w5:=hd_ hcn
       have HG_w5:=hd_ (zql HG_c4.out hg)
       have HR_w5:=hd_ (zqd hg (zqy (by have:=HLR.out;omega)) HR_c4.out)
       have HE_w5:=hd_ (zqd hg (zqy (by have:=HLE.out;omega)) HE_c4.out)
       have HH_w5:=hd_ (zqd hg (zqy (by have:=HLH.out;omega)) HH_c4.out)
       clear hcn hg
       clear R0 R1 R2 R3 R4 R5 R6 E0 E1 E2 E3 E4 E5 E6 H0 H1 H2 H3 H4 H5 Rf Ef Hf Rz Ez Hz
       obtain ⟨R0,R1,R2,R3,R4,R5,R6,Rf,Rz⟩:=box7_ HR_w5.out
       obtain ⟨E0,E1,E2,E3,E4,E5,E6,Ef,Ez⟩:=box7_ HE_w5.out
       obtain ⟨H0,H1,H2,H3,H4,H5,Hf,Hz⟩:=box6_ HH_w5.out
       go_wp2_with fail
       refine nm_ ?_
       intro w6 hw
       have HC_w6 : Hid (Crs w6 g):=hd_ (by rw [hw];exact (HC_w5.out).set (by have:=HLE.out;omega))
       have HG_w6 : Hid (w.grownBy w6 (some g)):=hd_ (by rw [hw];exact zqc (HG_w5.out) HLE.out _ _)
       have HR_w6 : Hid (Hx w6 RB #[.int .i64 0,.int .i64 0,.int .i64 0,.int .i64 0,.int .i64 0,.int .i64 0,.bool false] 64):=hd_ (by rw [hw];exact zqb (by first | exact HNRE.out | exact fun e9 => HNER.out e9.symm) (HR_w5.out))
       have HE_w6 : Hid (Hx w6 EB #[.int .i64 v0,.int .i64 v1,.int .i64 v2,.int .i64 v3,.int .i64 v4,.int .i64 v5,.bool (z == 0)] 64):=hd_ (by rw [hw];exact zqa (HE_w5.out))
       have HH_w6 : Hid (Hx w6 HB #[.bool h0,.bool h1,.bool h2,.bool h3,.bool h4,.bool true] 4):=hd_ (by rw [hw];exact zqb (by first | exact HNHE.out | exact fun e9 => HNEH.out e9.symm) (HH_w5.out))
       clear hw
       clear R0 R1 R2 R3 R4 R5 R6 E0 E1 E2 E3 E4 E5 E6 H0 H1 H2 H3 H4 H5 Rf Ef Hf Rz Ez Hz
       obtain ⟨R0,R1,R2,R3,R4,R5,R6,Rf,Rz⟩:=box7_ HR_w6.out
       obtain ⟨E0,E1,E2,E3,E4,E5,E6,Ef,Ez⟩:=box7_ HE_w6.out
       obtain ⟨H0,H1,H2,H3,H4,H5,Hf,Hz⟩:=box6_ HH_w6.out
       refine (zqp g 14 _ HC_w6.out (by first | decide | omega) (by first | decide | omega)).mono ?_
       rintro e' w7 ⟨q,q1,q2,rfl,hcn,hg⟩
       have HC_w7:=hd_ hcn
       have HG_w7:=hd_ (zql HG_w6.out hg)
       have HR_w7:=hd_ (zqd hg (zqy (by have:=HLR.out;omega)) HR_w6.out)
       have HE_w7:=hd_ (zqd hg (zqy (by have:=HLE.out;omega)) HE_w6.out)
       have HH_w7:=hd_ (zqd hg (zqy (by have:=HLH.out;omega)) HH_w6.out)
       clear hcn hg
       clear R0 R1 R2 R3 R4 R5 R6 E0 E1 E2 E3 E4 E5 E6 H0 H1 H2 H3 H4 H5 Rf Ef Hf Rz Ez Hz
       obtain ⟨R0,R1,R2,R3,R4,R5,R6,Rf,Rz⟩:=box7_ HR_w7.out
       obtain ⟨E0,E1,E2,E3,E4,E5,E6,Ef,Ez⟩:=box7_ HE_w7.out
       obtain ⟨H0,H1,H2,H3,H4,H5,Hf,Hz⟩:=box6_ HH_w7.out
       cases tq : (q == 0)
       ·
        go_wp2_with fail
        refine nm_ ?_
        intro w8 hw
        have HC_w8 : Hid (Crs w8 g):=hd_ (by rw [hw];exact (((((((HC_w7.out).set (by have:=HLR.out;omega)).set (by have:=HLR.out;omega)).set (by have:=HLR.out;omega)).set (by have:=HLR.out;omega)).set (by have:=HLR.out;omega)).set (by have:=HLR.out;omega)).set (by have:=HLR.out;omega))
        have HG_w8 : Hid (w.grownBy w8 (some g)):=hd_ (by rw [hw];exact zqc (zqc (zqc (zqc (zqc (zqc (zqc (HG_w7.out) HLR.out _ _) HLR.out _ _) HLR.out _ _) HLR.out _ _) HLR.out _ _) HLR.out _ _) HLR.out _ _)
        have HR_w8 : Hid (Hx w8 RB #[.int .i64 v0,.int .i64 v1,.int .i64 v2,.int .i64 v3,.int .i64 v4,.int .i64 v5,.bool (z == 0)] 64):=hd_ (by rw [hw];exact zqa (zqa (zqa (zqa (zqa (zqa (zqa (HR_w7.out))))))))
        have HE_w8 : Hid (Hx w8 EB #[.int .i64 v0,.int .i64 v1,.int .i64 v2,.int .i64 v3,.int .i64 v4,.int .i64 v5,.bool (z == 0)] 64):=hd_ (by rw [hw];exact zqb (by first | exact HNER.out | exact fun e9 => HNRE.out e9.symm) (zqb (by first | exact HNER.out | exact fun e9 => HNRE.out e9.symm) (zqb (by first | exact HNER.out | exact fun e9 => HNRE.out e9.symm) (zqb (by first | exact HNER.out | exact fun e9 => HNRE.out e9.symm) (zqb (by first | exact HNER.out | exact fun e9 => HNRE.out e9.symm) (zqb (by first | exact HNER.out | exact fun e9 => HNRE.out e9.symm) (zqb (by first | exact HNER.out | exact fun e9 => HNRE.out e9.symm) (HE_w7.out))))))))
        have HH_w8 : Hid (Hx w8 HB #[.bool h0,.bool h1,.bool h2,.bool h3,.bool h4,.bool true] 4):=hd_ (by rw [hw];exact zqb (by first | exact HNHR.out | exact fun e9 => HNRH.out e9.symm) (zqb (by first | exact HNHR.out | exact fun e9 => HNRH.out e9.symm) (zqb (by first | exact HNHR.out | exact fun e9 => HNRH.out e9.symm) (zqb (by first | exact HNHR.out | exact fun e9 => HNRH.out e9.symm) (zqb (by first | exact HNHR.out | exact fun e9 => HNRH.out e9.symm) (zqb (by first | exact HNHR.out | exact fun e9 => HNRH.out e9.symm) (zqb (by first | exact HNHR.out | exact fun e9 => HNRH.out e9.symm) (HH_w7.out))))))))
        clear hw
        clear R0 R1 R2 R3 R4 R5 R6 E0 E1 E2 E3 E4 E5 E6 H0 H1 H2 H3 H4 H5 Rf Ef Hf Rz Ez Hz
        obtain ⟨R0,R1,R2,R3,R4,R5,R6,Rf,Rz⟩:=box7_ HR_w8.out
        obtain ⟨E0,E1,E2,E3,E4,E5,E6,Ef,Ez⟩:=box7_ HE_w8.out
        obtain ⟨H0,H1,H2,H3,H4,H5,Hf,Hz⟩:=box6_ HH_w8.out
        refine bodyPost_ret (v:=.agg #[.int .i64 v0,.int .i64 v1,.int .i64 v2,.int .i64 v3,.int .i64 v4,.int .i64 v5,.bool (z == 0)]) (by simp [results,Tryz.results136,go_sem, *]) rfl ?_
        exact ⟨⟨v0,v1,v2,v3,v4,v5,(z == 0)⟩,rfl,HC_w8.out,HG_w8.out⟩
       ·
        cases h3
        ·
         go_wp2_with fail
         refine nm_ ?_
         intro w8 hw
         have HC_w8 : Hid (Crs w8 g):=hd_ (by rw [hw];exact (((((((HC_w7.out).set (by have:=HLR.out;omega)).set (by have:=HLR.out;omega)).set (by have:=HLR.out;omega)).set (by have:=HLR.out;omega)).set (by have:=HLR.out;omega)).set (by have:=HLR.out;omega)).set (by have:=HLR.out;omega))
         have HG_w8 : Hid (w.grownBy w8 (some g)):=hd_ (by rw [hw];exact zqc (zqc (zqc (zqc (zqc (zqc (zqc (HG_w7.out) HLR.out _ _) HLR.out _ _) HLR.out _ _) HLR.out _ _) HLR.out _ _) HLR.out _ _) HLR.out _ _)
         have HR_w8 : Hid (Hx w8 RB #[.int .i64 v0,.int .i64 v1,.int .i64 v2,.int .i64 v3,.int .i64 v4,.int .i64 v5,.bool (z == 0)] 64):=hd_ (by rw [hw];exact zqa (zqa (zqa (zqa (zqa (zqa (zqa (HR_w7.out))))))))
         have HE_w8 : Hid (Hx w8 EB #[.int .i64 v0,.int .i64 v1,.int .i64 v2,.int .i64 v3,.int .i64 v4,.int .i64 v5,.bool (z == 0)] 64):=hd_ (by rw [hw];exact zqb (by first | exact HNER.out | exact fun e9 => HNRE.out e9.symm) (zqb (by first | exact HNER.out | exact fun e9 => HNRE.out e9.symm) (zqb (by first | exact HNER.out | exact fun e9 => HNRE.out e9.symm) (zqb (by first | exact HNER.out | exact fun e9 => HNRE.out e9.symm) (zqb (by first | exact HNER.out | exact fun e9 => HNRE.out e9.symm) (zqb (by first | exact HNER.out | exact fun e9 => HNRE.out e9.symm) (zqb (by first | exact HNER.out | exact fun e9 => HNRE.out e9.symm) (HE_w7.out))))))))
         have HH_w8 : Hid (Hx w8 HB #[.bool h0,.bool h1,.bool h2,.bool false,.bool h4,.bool true] 4):=hd_ (by rw [hw];exact zqb (by first | exact HNHR.out | exact fun e9 => HNRH.out e9.symm) (zqb (by first | exact HNHR.out | exact fun e9 => HNRH.out e9.symm) (zqb (by first | exact HNHR.out | exact fun e9 => HNRH.out e9.symm) (zqb (by first | exact HNHR.out | exact fun e9 => HNRH.out e9.symm) (zqb (by first | exact HNHR.out | exact fun e9 => HNRH.out e9.symm) (zqb (by first | exact HNHR.out | exact fun e9 => HNRH.out e9.symm) (zqb (by first | exact HNHR.out | exact fun e9 => HNRH.out e9.symm) (HH_w7.out))))))))
         clear hw
         clear R0 R1 R2 R3 R4 R5 R6 E0 E1 E2 E3 E4 E5 E6 H0 H1 H2 H3 H4 H5 Rf Ef Hf Rz Ez Hz
         obtain ⟨R0,R1,R2,R3,R4,R5,R6,Rf,Rz⟩:=box7_ HR_w8.out
         obtain ⟨E0,E1,E2,E3,E4,E5,E6,Ef,Ez⟩:=box7_ HE_w8.out
         obtain ⟨H0,H1,H2,H3,H4,H5,Hf,Hz⟩:=box6_ HH_w8.out
         refine bodyPost_ret (v:=.agg #[.int .i64 v0,.int .i64 v1,.int .i64 v2,.int .i64 v3,.int .i64 v4,.int .i64 v5,.bool (z == 0)]) (by simp [results,Tryz.results136,go_sem, *]) rfl ?_
         exact ⟨⟨v0,v1,v2,v3,v4,v5,(z == 0)⟩,rfl,HC_w8.out,HG_w8.out⟩
        ·
         go_wp2_with fail
         refine (zqp g 2 _ HC_w7.out (by first | decide | omega) (by first | decide | omega)).mono ?_
         rintro e' w8 ⟨r,r1,r2,rfl,hcn,hg⟩
         have HC_w8:=hd_ hcn
         have HG_w8:=hd_ (zql HG_w7.out hg)
         have HR_w8:=hd_ (zqd hg (zqy (by have:=HLR.out;omega)) HR_w7.out)
         have HE_w8:=hd_ (zqd hg (zqy (by have:=HLE.out;omega)) HE_w7.out)
         have HH_w8:=hd_ (zqd hg (zqy (by have:=HLH.out;omega)) HH_w7.out)
         clear hcn hg
         clear R0 R1 R2 R3 R4 R5 R6 E0 E1 E2 E3 E4 E5 E6 H0 H1 H2 H3 H4 H5 Rf Ef Hf Rz Ez Hz
         obtain ⟨R0,R1,R2,R3,R4,R5,R6,Rf,Rz⟩:=box7_ HR_w8.out
         obtain ⟨E0,E1,E2,E3,E4,E5,E6,Ef,Ez⟩:=box7_ HE_w8.out
         obtain ⟨H0,H1,H2,H3,H4,H5,Hf,Hz⟩:=box6_ HH_w8.out
         go_upto_region 17 with fail
         refine nm_ ?_
         intro w9 hw
         have HC_w9 : Hid (Crs w9 g):=hd_ (by rw [hw];exact (HC_w8.out).set (by have:=HLE.out;omega))
         have HG_w9 : Hid (w.grownBy w9 (some g)):=hd_ (by rw [hw];exact zqc (HG_w8.out) HLE.out _ _)
         have HR_w9 : Hid (Hx w9 RB #[.int .i64 0,.int .i64 0,.int .i64 0,.int .i64 0,.int .i64 0,.int .i64 0,.bool false] 64):=hd_ (by rw [hw];exact zqb (by first | exact HNRE.out | exact fun e9 => HNER.out e9.symm) (HR_w8.out))
         have HE_w9 : Hid (Hx w9 EB #[.int .i64 v0,.int .i64 v1,.int .i64 v2,.int .i64 v3,.int .i64 (1125899906842624 - r),.int .i64 v5,.bool (z == 0)] 64):=hd_ (by rw [hw];exact zqa (HE_w8.out))
         have HH_w9 : Hid (Hx w9 HB #[.bool h0,.bool h1,.bool h2,.bool true,.bool h4,.bool true] 4):=hd_ (by rw [hw];exact zqb (by first | exact HNHE.out | exact fun e9 => HNEH.out e9.symm) (HH_w8.out))
         clear hw
         clear R0 R1 R2 R3 R4 R5 R6 E0 E1 E2 E3 E4 E5 E6 H0 H1 H2 H3 H4 H5 Rf Ef Hf Rz Ez Hz
         obtain ⟨R0,R1,R2,R3,R4,R5,R6,Rf,Rz⟩:=box7_ HR_w9.out
         obtain ⟨E0,E1,E2,E3,E4,E5,E6,Ef,Ez⟩:=box7_ HE_w9.out
         obtain ⟨H0,H1,H2,H3,H4,H5,Hf,Hz⟩:=box6_ HH_w9.out
         go_wp2_with fail
         refine nm_ ?_
         intro w10 hw
         have HC_w10 : Hid (Crs w10 g):=hd_ (by rw [hw];exact (((((((HC_w9.out).set (by have:=HLR.out;omega)).set (by have:=HLR.out;omega)).set (by have:=HLR.out;omega)).set (by have:=HLR.out;omega)).set (by have:=HLR.out;omega)).set (by have:=HLR.out;omega)).set (by have:=HLR.out;omega))
         have HG_w10 : Hid (w.grownBy w10 (some g)):=hd_ (by rw [hw];exact zqc (zqc (zqc (zqc (zqc (zqc (zqc (HG_w9.out) HLR.out _ _) HLR.out _ _) HLR.out _ _) HLR.out _ _) HLR.out _ _) HLR.out _ _) HLR.out _ _)
         have HR_w10 : Hid (Hx w10 RB #[.int .i64 v0,.int .i64 v1,.int .i64 v2,.int .i64 v3,.int .i64 (1125899906842624 - r),.int .i64 v5,.bool (z == 0)] 64):=hd_ (by rw [hw];exact zqa (zqa (zqa (zqa (zqa (zqa (zqa (HR_w9.out))))))))
         have HE_w10 : Hid (Hx w10 EB #[.int .i64 v0,.int .i64 v1,.int .i64 v2,.int .i64 v3,.int .i64 (1125899906842624 - r),.int .i64 v5,.bool (z == 0)] 64):=hd_ (by rw [hw];exact zqb (by first | exact HNER.out | exact fun e9 => HNRE.out e9.symm) (zqb (by first | exact HNER.out | exact fun e9 => HNRE.out e9.symm) (zqb (by first | exact HNER.out | exact fun e9 => HNRE.out e9.symm) (zqb (by first | exact HNER.out | exact fun e9 => HNRE.out e9.symm) (zqb (by first | exact HNER.out | exact fun e9 => HNRE.out e9.symm) (zqb (by first | exact HNER.out | exact fun e9 => HNRE.out e9.symm) (zqb (by first | exact HNER.out | exact fun e9 => HNRE.out e9.symm) (HE_w9.out))))))))
         have HH_w10 : Hid (Hx w10 HB #[.bool h0,.bool h1,.bool h2,.bool true,.bool h4,.bool true] 4):=hd_ (by rw [hw];exact zqb (by first | exact HNHR.out | exact fun e9 => HNRH.out e9.symm) (zqb (by first | exact HNHR.out | exact fun e9 => HNRH.out e9.symm) (zqb (by first | exact HNHR.out | exact fun e9 => HNRH.out e9.symm) (zqb (by first | exact HNHR.out | exact fun e9 => HNRH.out e9.symm) (zqb (by first | exact HNHR.out | exact fun e9 => HNRH.out e9.symm) (zqb (by first | exact HNHR.out | exact fun e9 => HNRH.out e9.symm) (zqb (by first | exact HNHR.out | exact fun e9 => HNRH.out e9.symm) (HH_w9.out))))))))
         clear hw
         clear R0 R1 R2 R3 R4 R5 R6 E0 E1 E2 E3 E4 E5 E6 H0 H1 H2 H3 H4 H5 Rf Ef Hf Rz Ez Hz
         obtain ⟨R0,R1,R2,R3,R4,R5,R6,Rf,Rz⟩:=box7_ HR_w10.out
         obtain ⟨E0,E1,E2,E3,E4,E5,E6,Ef,Ez⟩:=box7_ HE_w10.out
         obtain ⟨H0,H1,H2,H3,H4,H5,Hf,Hz⟩:=box6_ HH_w10.out
         refine bodyPost_ret (v:=.agg #[.int .i64 v0,.int .i64 v1,.int .i64 v2,.int .i64 v3,.int .i64 (1125899906842624 - r),.int .i64 v5,.bool (z == 0)]) (by simp [results,Tryz.results136,go_sem, *]) rfl ?_
         exact ⟨⟨v0,v1,v2,v3,(1125899906842624 - r),v5,(z == 0)⟩,rfl,HC_w10.out,HG_w10.out⟩
end Go.Proofs.YtdbmkfmenfcbiaaGreat
