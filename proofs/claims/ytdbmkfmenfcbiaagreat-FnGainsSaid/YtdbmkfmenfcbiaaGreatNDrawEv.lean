/- Draws: an event. -/
import Derived.Test.YtdbmkfmenfcbiaaGreatRows
import Derived.Test.YtdbmkfmenfcbiaaGreatNM2
import Derived.Test.YtdbmkfmenfcbiaaGreatNM4
import Derived.Test.YtdbmkfmenfcbiaaGreatNM5
import Derived.Deep.CutRange
namespace Go.Proofs.YtdbmkfmenfcbiaaGreat
open Go.RowKit Go.Deep
def DrewE (g : Nat) (w : World) (e : Ending) (w' : World) : Prop:=∃ ev : Event,e = .returned (.agg #[.int .i64 ev.Kind,.int .i64 ev.Key,.int .i64 ev.Ch,.int .i64 ev.To,.int .i64 ev.Amt,.int .i64 ev.Fee,.bool ev.Yes])∧Crs w' g∧w.grownBy w' (some g)
theorem zwl {a w : World} {r} (h : a.grownBy w r) : a.grownBy w.drew r:=⟨h.os,h.tape,h.output,h.size,h.block⟩
theorem hasR_six {k : Int} (h1 : 1 ≤ k) (h2 : k ≤ 11) : ∃ h0 h1 h2 h3 h4 h5,hasR k = [h0,h1,h2,h3,h4,h5]:=by
 obtain ⟨h0,h1',h2',h3,h4,h5,hr,_⟩:=evB_in (e:=⟨k,0,0,0,0,0,false⟩) h1 h2
 exact ⟨h0,h1',h2',h3,h4,h5,hr⟩
set_option maxRecDepth 100000 in
set_option maxHeartbeats 4000000 in
theorem zsj (g : Nat) (w : World) (hc : Crs w g) :
  Calls Tryz.prog 136 #[.pointer (some ⟨g,0,none⟩)] w (DrewE g w):=by
 have hgw:=hc.lt
 have HC_w:=hd_ hc
 have HG_w:=hd_ (World.grownBy.refl w (some g))
 clear hc
 go_enter Tryz.func136,Tryz.ntmps136
 go_wp2_with fail
 refine nm_ ?_
 intro w1 hw
 have HC1 : Hid (Crs w1 g):=hd_ (by rw [hw];exact (HC_w.out).alloc _)
 have HG1 : Hid (w.grownBy w1 (some g)):=hd_ (by rw [hw];exact zxp (HG_w.out) _)
 obtain ⟨RB,h9R⟩ : ∃ v,v = w.heap.size:=⟨_,rfl⟩
 have HR_w1 : Hid (Hx w1 RB (qaiiiiiib 0 0 0 0 0 0 false) 64):=hd_ (by rw [hw,h9R];exact zqi (by first | rfl | (simp;done)))
 have HLR : Hid (w.heap.size ≤ RB):=hd_ (by have:=HG_w.out.size;omega)
 try rw [← h9R]
 clear hw h9R
 obtain ⟨R,Rf,Rz⟩:=bc7_ HR_w1
 refine (zxd g 11 _ HC1 (by first | decide | omega) (by first | decide | omega)).mono ?_
 rintro e' w2 ⟨x,x1,x2,rfl,hcn,hg⟩
 have HC2:=hd_ hcn
 have HG2:=hd_ (zqt HG1 hg)
 have HR_w2:=hd_ (zqe hg (zxj (by have:=HLR.out;omega)) HR_w1)
 clear hcn hg
 clear R Rf Rz
 obtain ⟨R,Rf,Rz⟩:=bc7_ HR_w2
 obtain ⟨h0,h1,h2,h3,h4,h5,hr⟩:=hasR_six (k:=1 + x) (by omega) (by omega)
 have HR9:=hd_ hr
 clear hr
 go_wp2_with fail
 refine nm_ ?_
 intro w3 hw
 have HC3 : Hid (Crs w3 g):=hd_ (by rw [hw];exact (HC2.out).alloc _)
 have HG3 : Hid (w.grownBy w3 (some g)):=hd_ (by rw [hw];exact zxp (HG2.out) _)
 have HR_w3 : Hid (Hx w3 RB (qaiiiiiib 0 0 0 0 0 0 false) 64):=hd_ (by rw [hw];exact zqd (by have:=(gz_ HR_w2).1;first | omega | (simp;omega)) (HR_w2.out))
 obtain ⟨EB,h9E⟩ : ∃ v,v = w2.heap.size:=⟨_,rfl⟩
 have HE3 : Hid (Hx w3 EB (qaiiiiiib (1 + x) 0 0 0 0 0 false) 64):=hd_ (by rw [hw,h9E];exact zqi (by first | rfl | (simp;done)))
 have HLE : Hid (w.heap.size ≤ EB):=hd_ (by have:=HG2.out.size;omega)
 try rw [← h9E]
 have HNER : Hid (EB ≠ RB):=hd_ (by have:=(gz_ HR_w2).1;omega)
 clear hw h9E
 clear R Rf Rz
 obtain ⟨R,Rf,Rz⟩:=bc7_ HR_w3
 obtain ⟨E,Ef,Ez⟩:=bc7_ HE3
 refine (zpn (1 + x) _ (by omega) (by omega)).mono ?_
 rintro e' w9 ⟨rfl,rfl⟩
 rw [HR9.out]
 go_upto_if 15 with fail
 refine nm_ ?_
 intro w4 hw
 have HC4 : Hid (Crs w4 g):=hd_ (by rw [hw];exact (HC3.out).alloc _)
 have HG4 : Hid (w.grownBy w4 (some g)):=hd_ (by rw [hw];exact zxp (HG3.out) _)
 have HR_w4 : Hid (Hx w4 RB (qaiiiiiib 0 0 0 0 0 0 false) 64):=hd_ (by rw [hw];exact zqd (by have:=(gz_ HR_w3).1;first | omega | (simp;omega)) (HR_w3.out))
 have HE4 : Hid (Hx w4 EB (qaiiiiiib (1 + x) 0 0 0 0 0 false) 64):=hd_ (by rw [hw];exact zqd (by have:=(gz_ HE3).1;first | omega | (simp;omega)) (HE3.out))
 obtain ⟨HB,h9H⟩ : ∃ v,v = w3.heap.size:=⟨_,rfl⟩
 have HH4 : Hid (Hx w4 HB (qabbbbbb h0 h1 h2 h3 h4 h5) 4):=hd_ (by rw [hw,h9H];exact zqi (by first | rfl | (simp;done)))
 have HLH : Hid (w.heap.size ≤ HB):=hd_ (by have:=HG3.out.size;omega)
 try rw [← h9H]
 have HNHR : Hid (HB ≠ RB):=hd_ (by have:=(gz_ HR_w3).1;omega)
 have HNHE : Hid (HB ≠ EB):=hd_ (by have:=(gz_ HE3).1;omega)
 clear hw h9H
 clear R E Rf Ef Rz Ez
 obtain ⟨R,Rf,Rz⟩:=bc7_ HR_w4
 obtain ⟨E,Ef,Ez⟩:=bc7_ HE4
 obtain ⟨H,Hf,Hz⟩:=bc6_ HH4
 skip
 clear R E H Rf Ef Hf Rz Ez Hz
 go_cut [] from 16 to 19 (fun wx => ∃ (v0 v1 v2 v3 v4 v5 : Int) (v6 : Bool),Hid (Crs wx g)∧Hid (w.grownBy wx (some g))∧Hid (Hx wx RB (qaiiiiiib 0 0 0 0 0 0 false) 64)∧Hid (Hx wx EB (qaiiiiiib v0 v1 v2 v3 v4 v5 v6) 64)∧Hid (Hx wx HB (qabbbbbb h0 h1 h2 h3 h4 h5) 4))
 case first =>
  cases h0
  ·
   obtain ⟨R,Rf,Rz⟩:=bc7_ HR_w4
   obtain ⟨E,Ef,Ez⟩:=bc7_ HE4
   obtain ⟨H,Hf,Hz⟩:=bc6_ HH4
   go_wp2_with fail
   go_meet
   case rel => exact ⟨_,_,_,_,_,_,_,HC4,HG4,HR_w4,HE4,HH4⟩
  obtain ⟨R,Rf,Rz⟩:=bc7_ HR_w4
  obtain ⟨E,Ef,Ez⟩:=bc7_ HE4
  obtain ⟨H,Hf,Hz⟩:=bc6_ HH4
  go_wp2_with fail
  refine (zxd g 6 _ HC4 (by first | decide | omega) (by first | decide | omega)).mono ?_
  rintro e' w5 ⟨y,y1,y2,rfl,hcn,hg⟩
  have HC5:=hd_ hcn
  have HG5:=hd_ (zqt HG4 hg)
  have HR_w5:=hd_ (zqe hg (zxj (by have:=HLR.out;omega)) HR_w4)
  have HE5:=hd_ (zqe hg (zxj (by have:=HLE.out;omega)) HE4)
  have HH5:=hd_ (zqe hg (zxj (by have:=HLH.out;omega)) HH4)
  clear hcn hg
  clear R E H Rf Ef Hf Rz Ez Hz
  obtain ⟨R,Rf,Rz⟩:=bc7_ HR_w5
  obtain ⟨E,Ef,Ez⟩:=bc7_ HE5
  obtain ⟨H,Hf,Hz⟩:=bc6_ HH5
  go_wp2_with fail
  go_meet
  case rel => exact ⟨_,_,_,_,_,_,_,hd_ ((HC5.out).set (by have:=HLE.out;omega)),hd_ (zqn (HG5.out) HLE _ _),hd_ (zqb (fun e9 => HNER.out e9.symm) (HR_w5.out)),hd_ (zqa (HE5.out)),hd_ (zqb HNHE (HH5.out))⟩
 case rest =>
  obtain ⟨v0,v1,v2,v3,v4,v5,v6,HC_wc,HG_wc,HR_wc,HE_wc,HH_wc⟩:=hcut
  obtain ⟨c0,hcw⟩ : ∃ v : World,v = wc:=⟨_,rfl⟩
  subst hcw
  clear HC4 HG4 HR_w4 HE4 HH4
  have HC_c0:=HC_wc
  have HG_c0:=HG_wc
  have HR_c0:=HR_wc
  have HE_c0:=HE_wc
  have HH_c0:=HH_wc
  clear HC_wc HG_wc HR_wc HE_wc HH_wc
  obtain ⟨R,Rf,Rz⟩:=bc7_ HR_c0
  obtain ⟨E,Ef,Ez⟩:=bc7_ HE_c0
  obtain ⟨H,Hf,Hz⟩:=bc6_ HH_c0
  go_upto_if 22 with fail
  clear R E H Rf Ef Hf Rz Ez Hz
  go_cut [] from 23 to 26 (fun wx => ∃ (v0 v1 v2 v3 v4 v5 : Int) (v6 : Bool),Hid (Crs wx g)∧Hid (w.grownBy wx (some g))∧Hid (Hx wx RB (qaiiiiiib 0 0 0 0 0 0 false) 64)∧Hid (Hx wx EB (qaiiiiiib v0 v1 v2 v3 v4 v5 v6) 64)∧Hid (Hx wx HB (qabbbbbb h0 h1 h2 h3 h4 h5) 4))
  case first =>
   cases h1
   ·
    obtain ⟨R,Rf,Rz⟩:=bc7_ HR_c0
    obtain ⟨E,Ef,Ez⟩:=bc7_ HE_c0
    obtain ⟨H,Hf,Hz⟩:=bc6_ HH_c0
    go_wp2_with fail
    go_meet
    case rel => exact ⟨_,_,_,_,_,_,_,HC_c0,HG_c0,HR_c0,HE_c0,HH_c0⟩
   obtain ⟨R,Rf,Rz⟩:=bc7_ HR_c0
   obtain ⟨E,Ef,Ez⟩:=bc7_ HE_c0
   obtain ⟨H,Hf,Hz⟩:=bc6_ HH_c0
   go_wp2_with fail
   refine (zxd g 4 _ HC_c0 (by first | decide | omega) (by first | decide | omega)).mono ?_
   rintro e' w5 ⟨y,y1,y2,rfl,hcn,hg⟩
   have HC5:=hd_ hcn
   have HG5:=hd_ (zqt HG_c0 hg)
   have HR_w5:=hd_ (zqe hg (zxj (by have:=HLR.out;omega)) HR_c0)
   have HE5:=hd_ (zqe hg (zxj (by have:=HLE.out;omega)) HE_c0)
   have HH5:=hd_ (zqe hg (zxj (by have:=HLH.out;omega)) HH_c0)
   clear hcn hg
   clear R E H Rf Ef Hf Rz Ez Hz
   obtain ⟨R,Rf,Rz⟩:=bc7_ HR_w5
   obtain ⟨E,Ef,Ez⟩:=bc7_ HE5
   obtain ⟨H,Hf,Hz⟩:=bc6_ HH5
   go_wp2_with fail
   go_meet
   case rel => exact ⟨_,_,_,_,_,_,_,hd_ ((HC5.out).set (by have:=HLE.out;omega)),hd_ (zqn (HG5.out) HLE _ _),hd_ (zqb (fun e9 => HNER.out e9.symm) (HR_w5.out)),hd_ (zqa (HE5.out)),hd_ (zqb HNHE (HH5.out))⟩
  case rest =>
   obtain ⟨v0,v1,v2,v3,v4,v5,v6,HC_wc,HG_wc,HR_wc,HE_wc,HH_wc⟩:=hcut
   obtain ⟨c1,hcw⟩ : ∃ v : World,v = wc:=⟨_,rfl⟩
   subst hcw
   clear HC_c0 HG_c0 HR_c0 HE_c0 HH_c0
   have HC_c1:=HC_wc
   have HG_c1:=HG_wc
   have HR_c1:=HR_wc
   have HE_c1:=HE_wc
   have HH_c1:=HH_wc
   clear HC_wc HG_wc HR_wc HE_wc HH_wc
   obtain ⟨R,Rf,Rz⟩:=bc7_ HR_c1
   obtain ⟨E,Ef,Ez⟩:=bc7_ HE_c1
   obtain ⟨H,Hf,Hz⟩:=bc6_ HH_c1
   go_upto_if 29 with fail
   clear R E H Rf Ef Hf Rz Ez Hz
   go_cut [] from 30 to 37 (fun wx => ∃ (v0 v1 v2 v3 v4 v5 : Int) (v6 : Bool),Hid (Crs wx g)∧Hid (w.grownBy wx (some g))∧Hid (Hx wx RB (qaiiiiiib 0 0 0 0 0 0 false) 64)∧Hid (Hx wx EB (qaiiiiiib v0 v1 v2 v3 v4 v5 v6) 64)∧Hid (Hx wx HB (qabbbbbb h0 h1 h2 h3 h4 h5) 4))
   case first =>
    cases h2
    ·
     obtain ⟨R,Rf,Rz⟩:=bc7_ HR_c1
     obtain ⟨E,Ef,Ez⟩:=bc7_ HE_c1
     obtain ⟨H,Hf,Hz⟩:=bc6_ HH_c1
     go_wp2_with fail
     go_meet
     case rel => exact ⟨_,_,_,_,_,_,_,HC_c1,HG_c1,HR_c1,HE_c1,HH_c1⟩
    obtain ⟨R,Rf,Rz⟩:=bc7_ HR_c1
    obtain ⟨E,Ef,Ez⟩:=bc7_ HE_c1
    obtain ⟨H,Hf,Hz⟩:=bc6_ HH_c1
    go_wp2_with fail
    refine zqs (fun w' => kqiiiiiib_ w' EB v0 v1 v2 v3 v4 v5 v6) [yF 0 30,yF 1 31,yF 2 32,yT 3 33,yF 4 34,yF 5 35,yF 6 36,yF 7 37] rfl (by kernel_rfl) (by kernel_rfl) (by kernel_rfl) (by kernel_rfl) (by kernel_rfl) (by kernel_rfl) E (fun hH => ?_)
    obtain ⟨w5,hwd⟩ : ∃ wd,c1.drew = wd:=⟨_,rfl⟩
    have HC5 : Hid (Crs w5 g):=hd_ (by rw [← hwd];exact HC_c1)
    have HG5 : Hid (w.grownBy w5 (some g)):=hd_ (by rw [← hwd];exact zwl HG_c1)
    have HR_w5:=hr_ hwd HR_c1
    have HE5:=hr_ hwd HE_c1
    have HH5:=hr_ hwd HH_c1
    clear R E H Rf Ef Hf Rz Ez Hz
    rw [hwd] at hH ⊢
    clear hwd
    obtain ⟨R,Rf,Rz⟩:=bc7_ HR_w5
    obtain ⟨E,Ef,Ez⟩:=bc7_ HE5
    obtain ⟨H,Hf,Hz⟩:=bc6_ HH5
    refine tk_ ?_
    refine ss_ (fun K hK => ?_)
    go_simp
    refine (zxd g 3 _ HC5 (by first | decide | omega) (by first | decide | omega)).mono ?_
    rintro e' w6 ⟨y,y1,y2,rfl,hcn,hg⟩
    have HC6:=hd_ hcn
    have HG6:=hd_ (zqt HG5 hg)
    have HR_w6:=hd_ (zqe hg (zxj (by have:=HLR.out;omega)) HR_w5)
    have HE6:=hd_ (zqe hg (zxj (by have:=HLE.out;omega)) HE5)
    have HH6:=hd_ (zqe hg (zxj (by have:=HLH.out;omega)) HH5)
    clear hcn hg
    clear R E H Rf Ef Hf Rz Ez Hz
    obtain ⟨R,Rf,Rz⟩:=bc7_ HR_w6
    obtain ⟨E,Ef,Ez⟩:=bc7_ HE6
    obtain ⟨H,Hf,Hz⟩:=bc6_ HH6
    go_simp
    refine hK.out _ _ E (fun hH => ?_)
    clear hK K
    refine tk_ ?_
    refine Sq.done ?_
    intro KK hKK
    go_simp
    refine hKK _ _ (NoPanic.normal ?_)
    go_wp2_with fail
    go_meet
    case rel => exact ⟨_,_,_,_,_,_,_,hd_ ((HC6.out).set (by have:=HLE.out;omega)),hd_ (zqn (HG6.out) HLE _ _),hd_ (zqb (fun e9 => HNER.out e9.symm) (HR_w6.out)),hd_ (zqa (HE6.out)),hd_ (zqb HNHE (HH6.out))⟩
   case rest =>
    obtain ⟨v0,v1,v2,v3,v4,v5,v6,HC_wc,HG_wc,HR_wc,HE_wc,HH_wc⟩:=hcut
    obtain ⟨c2,hcw⟩ : ∃ v : World,v = wc:=⟨_,rfl⟩
    subst hcw
    clear HC_c1 HG_c1 HR_c1 HE_c1 HH_c1
    have HC_c2:=HC_wc
    have HG_c2:=HG_wc
    have HR_c2:=HR_wc
    have HE_c2:=HE_wc
    have HH_c2:=HH_wc
    clear HC_wc HG_wc HR_wc HE_wc HH_wc
    obtain ⟨R,Rf,Rz⟩:=bc7_ HR_c2
    obtain ⟨E,Ef,Ez⟩:=bc7_ HE_c2
    obtain ⟨H,Hf,Hz⟩:=bc6_ HH_c2
    go_upto_if 40 with fail
    clear R E H Rf Ef Hf Rz Ez Hz
    go_cut [] from 41 to 45 (fun wx => ∃ (v0 v1 v2 v3 v4 v5 : Int) (v6 : Bool),Hid (Crs wx g)∧Hid (w.grownBy wx (some g))∧Hid (Hx wx RB (qaiiiiiib 0 0 0 0 0 0 false) 64)∧Hid (Hx wx EB (qaiiiiiib v0 v1 v2 v3 v4 v5 v6) 64)∧Hid (Hx wx HB (qabbbbbb h0 h1 h2 h3 h4 h5) 4))
    case first =>
     cases h3
     ·
      obtain ⟨R,Rf,Rz⟩:=bc7_ HR_c2
      obtain ⟨E,Ef,Ez⟩:=bc7_ HE_c2
      obtain ⟨H,Hf,Hz⟩:=bc6_ HH_c2
      go_wp2_with fail
      go_meet
      case rel => exact ⟨_,_,_,_,_,_,_,HC_c2,HG_c2,HR_c2,HE_c2,HH_c2⟩
     obtain ⟨R,Rf,Rz⟩:=bc7_ HR_c2
     obtain ⟨E,Ef,Ez⟩:=bc7_ HE_c2
     obtain ⟨H,Hf,Hz⟩:=bc6_ HH_c2
     go_wp2_with fail
     refine (zxd g 400 _ HC_c2 (by first | decide | omega) (by first | decide | omega)).mono ?_
     rintro e' w5 ⟨y,y1,y2,rfl,hcn,hg⟩
     have HC5:=hd_ hcn
     have HG5:=hd_ (zqt HG_c2 hg)
     have HR_w5:=hd_ (zqe hg (zxj (by have:=HLR.out;omega)) HR_c2)
     have HE5:=hd_ (zqe hg (zxj (by have:=HLE.out;omega)) HE_c2)
     have HH5:=hd_ (zqe hg (zxj (by have:=HLH.out;omega)) HH_c2)
     clear hcn hg
     clear R E H Rf Ef Hf Rz Ez Hz
     obtain ⟨R,Rf,Rz⟩:=bc7_ HR_w5
     obtain ⟨E,Ef,Ez⟩:=bc7_ HE5
     obtain ⟨H,Hf,Hz⟩:=bc6_ HH5
     go_wp2_with fail
     go_meet
     case rel => exact ⟨_,_,_,_,_,_,_,hd_ ((HC5.out).set (by have:=HLE.out;omega)),hd_ (zqn (HG5.out) HLE _ _),hd_ (zqb (fun e9 => HNER.out e9.symm) (HR_w5.out)),hd_ (zqa (HE5.out)),hd_ (zqb HNHE (HH5.out))⟩
    case rest =>
     obtain ⟨v0,v1,v2,v3,v4,v5,v6,HC_wc,HG_wc,HR_wc,HE_wc,HH_wc⟩:=hcut
     obtain ⟨c3,hcw⟩ : ∃ v : World,v = wc:=⟨_,rfl⟩
     subst hcw
     clear HC_c2 HG_c2 HR_c2 HE_c2 HH_c2
     have HC_c3:=HC_wc
     have HG_c3:=HG_wc
     have HR_c3:=HR_wc
     have HE_c3:=HE_wc
     have HH_c3:=HH_wc
     clear HC_wc HG_wc HR_wc HE_wc HH_wc
     obtain ⟨R,Rf,Rz⟩:=bc7_ HR_c3
     obtain ⟨E,Ef,Ez⟩:=bc7_ HE_c3
     obtain ⟨H,Hf,Hz⟩:=bc6_ HH_c3
     go_upto_if 48 with fail
     clear R E H Rf Ef Hf Rz Ez Hz
     go_cut [] from 49 to 52 (fun wx => ∃ (v0 v1 v2 v3 v4 v5 : Int) (v6 : Bool),Hid (Crs wx g)∧Hid (w.grownBy wx (some g))∧Hid (Hx wx RB (qaiiiiiib 0 0 0 0 0 0 false) 64)∧Hid (Hx wx EB (qaiiiiiib v0 v1 v2 v3 v4 v5 v6) 64)∧Hid (Hx wx HB (qabbbbbb h0 h1 h2 h3 h4 h5) 4))
     case first =>
      cases h4
      ·
       obtain ⟨R,Rf,Rz⟩:=bc7_ HR_c3
       obtain ⟨E,Ef,Ez⟩:=bc7_ HE_c3
       obtain ⟨H,Hf,Hz⟩:=bc6_ HH_c3
       go_wp2_with fail
       go_meet
       case rel => exact ⟨_,_,_,_,_,_,_,HC_c3,HG_c3,HR_c3,HE_c3,HH_c3⟩
      obtain ⟨R,Rf,Rz⟩:=bc7_ HR_c3
      obtain ⟨E,Ef,Ez⟩:=bc7_ HE_c3
      obtain ⟨H,Hf,Hz⟩:=bc6_ HH_c3
      go_wp2_with fail
      refine (zxd g 300 _ HC_c3 (by first | decide | omega) (by first | decide | omega)).mono ?_
      rintro e' w5 ⟨y,y1,y2,rfl,hcn,hg⟩
      have HC5:=hd_ hcn
      have HG5:=hd_ (zqt HG_c3 hg)
      have HR_w5:=hd_ (zqe hg (zxj (by have:=HLR.out;omega)) HR_c3)
      have HE5:=hd_ (zqe hg (zxj (by have:=HLE.out;omega)) HE_c3)
      have HH5:=hd_ (zqe hg (zxj (by have:=HLH.out;omega)) HH_c3)
      clear hcn hg
      clear R E H Rf Ef Hf Rz Ez Hz
      obtain ⟨R,Rf,Rz⟩:=bc7_ HR_w5
      obtain ⟨E,Ef,Ez⟩:=bc7_ HE5
      obtain ⟨H,Hf,Hz⟩:=bc6_ HH5
      go_wp2_with fail
      go_meet
      case rel => exact ⟨_,_,_,_,_,_,_,hd_ ((HC5.out).set (by have:=HLE.out;omega)),hd_ (zqn (HG5.out) HLE _ _),hd_ (zqb (fun e9 => HNER.out e9.symm) (HR_w5.out)),hd_ (zqa (HE5.out)),hd_ (zqb HNHE (HH5.out))⟩
     case rest =>
      obtain ⟨v0,v1,v2,v3,v4,v5,v6,HC_wc,HG_wc,HR_wc,HE_wc,HH_wc⟩:=hcut
      obtain ⟨c4,hcw⟩ : ∃ v : World,v = wc:=⟨_,rfl⟩
      subst hcw
      clear HC_c3 HG_c3 HR_c3 HE_c3 HH_c3
      have HC_c4:=HC_wc
      have HG_c4:=HG_wc
      have HR_c4:=HR_wc
      have HE_c4:=HE_wc
      have HH_c4:=HH_wc
      clear HC_wc HG_wc HR_wc HE_wc HH_wc
      obtain ⟨R,Rf,Rz⟩:=bc7_ HR_c4
      obtain ⟨E,Ef,Ez⟩:=bc7_ HE_c4
      obtain ⟨H,Hf,Hz⟩:=bc6_ HH_c4
      cases h5
      ·
       go_wp2_with fail
       refine nm_ ?_
       intro w5 hw
       have HC5 : Hid (Crs w5 g):=hd_ (by rw [hw];exact (HC_c4.out).set (by have:=HLE.out;omega))
       have HG5 : Hid (w.grownBy w5 (some g)):=hd_ (by rw [hw];exact zqn (HG_c4.out) HLE _ _)
       have HR_w5 : Hid (Hx w5 RB (qaiiiiiib 0 0 0 0 0 0 false) 64):=hd_ (by rw [hw];exact zqb (fun e9 => HNER.out e9.symm) (HR_c4.out))
       have HE5 : Hid (Hx w5 EB (qaiiiiiib v0 v1 v2 v3 v4 v5 false) 64):=hd_ (by rw [hw];exact zqa (HE_c4.out))
       have HH5 : Hid (Hx w5 HB (qabbbbbb h0 h1 h2 h3 h4 false) 4):=hd_ (by rw [hw];exact zqb HNHE (HH_c4.out))
       clear hw
       clear R E H Rf Ef Hf Rz Ez Hz
       obtain ⟨R,Rf,Rz⟩:=bc7_ HR_w5
       obtain ⟨E,Ef,Ez⟩:=bc7_ HE5
       obtain ⟨H,Hf,Hz⟩:=bc6_ HH5
       refine (zxd g 14 _ HC5 (by first | decide | omega) (by first | decide | omega)).mono ?_
       rintro e' w6 ⟨q,q1,q2,rfl,hcn,hg⟩
       have HC6:=hd_ hcn
       have HG6:=hd_ (zqt HG5 hg)
       have HR_w6:=hd_ (zqe hg (zxj (by have:=HLR.out;omega)) HR_w5)
       have HE6:=hd_ (zqe hg (zxj (by have:=HLE.out;omega)) HE5)
       have HH6:=hd_ (zqe hg (zxj (by have:=HLH.out;omega)) HH5)
       clear hcn hg
       clear R E H Rf Ef Hf Rz Ez Hz
       obtain ⟨R,Rf,Rz⟩:=bc7_ HR_w6
       obtain ⟨E,Ef,Ez⟩:=bc7_ HE6
       obtain ⟨H,Hf,Hz⟩:=bc6_ HH6
       cases tq : (q == 0)
       ·
        go_wp2_with fail
        refine nm_ ?_
        intro w7 hw
        have HC7 : Hid (Crs w7 g):=hd_ (by rw [hw];exact (((((((HC6.out).set (by have:=HLR.out;omega)).set (by have:=HLR.out;omega)).set (by have:=HLR.out;omega)).set (by have:=HLR.out;omega)).set (by have:=HLR.out;omega)).set (by have:=HLR.out;omega)).set (by have:=HLR.out;omega))
        have HG7 : Hid (w.grownBy w7 (some g)):=hd_ (by rw [hw];exact zqn (zqn (zqn (zqn (zqn (zqn (zqn (HG6.out) HLR _ _) HLR _ _) HLR _ _) HLR _ _) HLR _ _) HLR _ _) HLR _ _)
        have HR_w7 : Hid (Hx w7 RB (qaiiiiiib v0 v1 v2 v3 v4 v5 false) 64):=hd_ (by rw [hw];exact zqa (zqa (zqa (zqa (zqa (zqa (zqa (HR_w6.out))))))))
        have HE7 : Hid (Hx w7 EB (qaiiiiiib v0 v1 v2 v3 v4 v5 false) 64):=hd_ (by rw [hw];exact zqb HNER (zqb HNER (zqb HNER (zqb HNER (zqb HNER (zqb HNER (zqb HNER (HE6.out))))))))
        have HH7 : Hid (Hx w7 HB (qabbbbbb h0 h1 h2 h3 h4 false) 4):=hd_ (by rw [hw];exact zqb HNHR (zqb HNHR (zqb HNHR (zqb HNHR (zqb HNHR (zqb HNHR (zqb HNHR (HH6.out))))))))
        clear hw
        clear R E H Rf Ef Hf Rz Ez Hz
        obtain ⟨R,Rf,Rz⟩:=bc7_ HR_w7
        obtain ⟨E,Ef,Ez⟩:=bc7_ HE7
        obtain ⟨H,Hf,Hz⟩:=bc6_ HH7
        refine bodyPost_ret (v:=.agg #[.int .i64 v0,.int .i64 v1,.int .i64 v2,.int .i64 v3,.int .i64 v4,.int .i64 v5,.bool false]) (by simp [results,Tryz.results136,go_sem, *]) rfl ?_
        exact ⟨⟨v0,v1,v2,v3,v4,v5,false⟩,rfl,HC7.out,HG7.out⟩
       cases h3
       ·
        go_wp2_with fail
        refine nm_ ?_
        intro w7 hw
        have HC7 : Hid (Crs w7 g):=hd_ (by rw [hw];exact (((((((HC6.out).set (by have:=HLR.out;omega)).set (by have:=HLR.out;omega)).set (by have:=HLR.out;omega)).set (by have:=HLR.out;omega)).set (by have:=HLR.out;omega)).set (by have:=HLR.out;omega)).set (by have:=HLR.out;omega))
        have HG7 : Hid (w.grownBy w7 (some g)):=hd_ (by rw [hw];exact zqn (zqn (zqn (zqn (zqn (zqn (zqn (HG6.out) HLR _ _) HLR _ _) HLR _ _) HLR _ _) HLR _ _) HLR _ _) HLR _ _)
        have HR_w7 : Hid (Hx w7 RB (qaiiiiiib v0 v1 v2 v3 v4 v5 false) 64):=hd_ (by rw [hw];exact zqa (zqa (zqa (zqa (zqa (zqa (zqa (HR_w6.out))))))))
        have HE7 : Hid (Hx w7 EB (qaiiiiiib v0 v1 v2 v3 v4 v5 false) 64):=hd_ (by rw [hw];exact zqb HNER (zqb HNER (zqb HNER (zqb HNER (zqb HNER (zqb HNER (zqb HNER (HE6.out))))))))
        have HH7 : Hid (Hx w7 HB (qabbbbbb h0 h1 h2 false h4 false) 4):=hd_ (by rw [hw];exact zqb HNHR (zqb HNHR (zqb HNHR (zqb HNHR (zqb HNHR (zqb HNHR (zqb HNHR (HH6.out))))))))
        clear hw
        clear R E H Rf Ef Hf Rz Ez Hz
        obtain ⟨R,Rf,Rz⟩:=bc7_ HR_w7
        obtain ⟨E,Ef,Ez⟩:=bc7_ HE7
        obtain ⟨H,Hf,Hz⟩:=bc6_ HH7
        refine bodyPost_ret (v:=.agg #[.int .i64 v0,.int .i64 v1,.int .i64 v2,.int .i64 v3,.int .i64 v4,.int .i64 v5,.bool false]) (by simp [results,Tryz.results136,go_sem, *]) rfl ?_
        exact ⟨⟨v0,v1,v2,v3,v4,v5,false⟩,rfl,HC7.out,HG7.out⟩
       go_wp2_with fail
       refine (zxd g 2 _ HC6 (by first | decide | omega) (by first | decide | omega)).mono ?_
       rintro e' w7 ⟨r,r1,r2,rfl,hcn,hg⟩
       have HC7:=hd_ hcn
       have HG7:=hd_ (zqt HG6 hg)
       have HR_w7:=hd_ (zqe hg (zxj (by have:=HLR.out;omega)) HR_w6)
       have HE7:=hd_ (zqe hg (zxj (by have:=HLE.out;omega)) HE6)
       have HH7:=hd_ (zqe hg (zxj (by have:=HLH.out;omega)) HH6)
       clear hcn hg
       clear R E H Rf Ef Hf Rz Ez Hz
       obtain ⟨R,Rf,Rz⟩:=bc7_ HR_w7
       obtain ⟨E,Ef,Ez⟩:=bc7_ HE7
       obtain ⟨H,Hf,Hz⟩:=bc6_ HH7
       go_upto_region 17 with fail
       refine nm_ ?_
       intro w8 hw
       have HC8 : Hid (Crs w8 g):=hd_ (by rw [hw];exact (HC7.out).set (by have:=HLE.out;omega))
       have HG8 : Hid (w.grownBy w8 (some g)):=hd_ (by rw [hw];exact zqn (HG7.out) HLE _ _)
       have HR_w8 : Hid (Hx w8 RB (qaiiiiiib 0 0 0 0 0 0 false) 64):=hd_ (by rw [hw];exact zqb (fun e9 => HNER.out e9.symm) (HR_w7.out))
       have HE8 : Hid (Hx w8 EB (qaiiiiiib v0 v1 v2 v3 (1125899906842624 - r) v5 false) 64):=hd_ (by rw [hw];exact zqa (HE7.out))
       have HH8 : Hid (Hx w8 HB (qabbbbbb h0 h1 h2 true h4 false) 4):=hd_ (by rw [hw];exact zqb HNHE (HH7.out))
       clear hw
       clear R E H Rf Ef Hf Rz Ez Hz
       obtain ⟨R,Rf,Rz⟩:=bc7_ HR_w8
       obtain ⟨E,Ef,Ez⟩:=bc7_ HE8
       obtain ⟨H,Hf,Hz⟩:=bc6_ HH8
       go_wp2_with fail
       refine nm_ ?_
       intro w9 hw
       have HC9 : Hid (Crs w9 g):=hd_ (by rw [hw];exact (((((((HC8.out).set (by have:=HLR.out;omega)).set (by have:=HLR.out;omega)).set (by have:=HLR.out;omega)).set (by have:=HLR.out;omega)).set (by have:=HLR.out;omega)).set (by have:=HLR.out;omega)).set (by have:=HLR.out;omega))
       have HG9 : Hid (w.grownBy w9 (some g)):=hd_ (by rw [hw];exact zqn (zqn (zqn (zqn (zqn (zqn (zqn (HG8.out) HLR _ _) HLR _ _) HLR _ _) HLR _ _) HLR _ _) HLR _ _) HLR _ _)
       have HR_w9 : Hid (Hx w9 RB (qaiiiiiib v0 v1 v2 v3 (1125899906842624 - r) v5 false) 64):=hd_ (by rw [hw];exact zqa (zqa (zqa (zqa (zqa (zqa (zqa (HR_w8.out))))))))
       have HE9 : Hid (Hx w9 EB (qaiiiiiib v0 v1 v2 v3 (1125899906842624 - r) v5 false) 64):=hd_ (by rw [hw];exact zqb HNER (zqb HNER (zqb HNER (zqb HNER (zqb HNER (zqb HNER (zqb HNER (HE8.out))))))))
       have HH9 : Hid (Hx w9 HB (qabbbbbb h0 h1 h2 true h4 false) 4):=hd_ (by rw [hw];exact zqb HNHR (zqb HNHR (zqb HNHR (zqb HNHR (zqb HNHR (zqb HNHR (zqb HNHR (HH8.out))))))))
       clear hw
       clear R E H Rf Ef Hf Rz Ez Hz
       obtain ⟨R,Rf,Rz⟩:=bc7_ HR_w9
       obtain ⟨E,Ef,Ez⟩:=bc7_ HE9
       obtain ⟨H,Hf,Hz⟩:=bc6_ HH9
       refine bodyPost_ret (v:=.agg #[.int .i64 v0,.int .i64 v1,.int .i64 v2,.int .i64 v3,.int .i64 (1125899906842624 - r),.int .i64 v5,.bool false]) (by simp [results,Tryz.results136,go_sem, *]) rfl ?_
       exact ⟨⟨v0,v1,v2,v3,(1125899906842624 - r),v5,false⟩,rfl,HC9.out,HG9.out⟩
      go_wp2_with fail
      refine (zxd g 2 _ HC_c4 (by first | decide | omega) (by first | decide | omega)).mono ?_
      rintro e' w5 ⟨z,z1,z2,rfl,hcn,hg⟩
      have HC5:=hd_ hcn
      have HG5:=hd_ (zqt HG_c4 hg)
      have HR_w5:=hd_ (zqe hg (zxj (by have:=HLR.out;omega)) HR_c4)
      have HE5:=hd_ (zqe hg (zxj (by have:=HLE.out;omega)) HE_c4)
      have HH5:=hd_ (zqe hg (zxj (by have:=HLH.out;omega)) HH_c4)
      clear hcn hg
      clear R E H Rf Ef Hf Rz Ez Hz
      obtain ⟨R,Rf,Rz⟩:=bc7_ HR_w5
      obtain ⟨E,Ef,Ez⟩:=bc7_ HE5
      obtain ⟨H,Hf,Hz⟩:=bc6_ HH5
      go_wp2_with fail
      refine nm_ ?_
      intro w6 hw
      have HC6 : Hid (Crs w6 g):=hd_ (by rw [hw];exact (HC5.out).set (by have:=HLE.out;omega))
      have HG6 : Hid (w.grownBy w6 (some g)):=hd_ (by rw [hw];exact zqn (HG5.out) HLE _ _)
      have HR_w6 : Hid (Hx w6 RB (qaiiiiiib 0 0 0 0 0 0 false) 64):=hd_ (by rw [hw];exact zqb (fun e9 => HNER.out e9.symm) (HR_w5.out))
      have HE6 : Hid (Hx w6 EB (qaiiiiiib v0 v1 v2 v3 v4 v5 (z == 0)) 64):=hd_ (by rw [hw];exact zqa (HE5.out))
      have HH6 : Hid (Hx w6 HB (qabbbbbb h0 h1 h2 h3 h4 true) 4):=hd_ (by rw [hw];exact zqb HNHE (HH5.out))
      clear hw
      clear R E H Rf Ef Hf Rz Ez Hz
      obtain ⟨R,Rf,Rz⟩:=bc7_ HR_w6
      obtain ⟨E,Ef,Ez⟩:=bc7_ HE6
      obtain ⟨H,Hf,Hz⟩:=bc6_ HH6
      refine (zxd g 14 _ HC6 (by first | decide | omega) (by first | decide | omega)).mono ?_
      rintro e' w7 ⟨q,q1,q2,rfl,hcn,hg⟩
      have HC7:=hd_ hcn
      have HG7:=hd_ (zqt HG6 hg)
      have HR_w7:=hd_ (zqe hg (zxj (by have:=HLR.out;omega)) HR_w6)
      have HE7:=hd_ (zqe hg (zxj (by have:=HLE.out;omega)) HE6)
      have HH7:=hd_ (zqe hg (zxj (by have:=HLH.out;omega)) HH6)
      clear hcn hg
      clear R E H Rf Ef Hf Rz Ez Hz
      obtain ⟨R,Rf,Rz⟩:=bc7_ HR_w7
      obtain ⟨E,Ef,Ez⟩:=bc7_ HE7
      obtain ⟨H,Hf,Hz⟩:=bc6_ HH7
      cases tq : (q == 0)
      ·
       go_wp2_with fail
       refine nm_ ?_
       intro w8 hw
       have HC8 : Hid (Crs w8 g):=hd_ (by rw [hw];exact (((((((HC7.out).set (by have:=HLR.out;omega)).set (by have:=HLR.out;omega)).set (by have:=HLR.out;omega)).set (by have:=HLR.out;omega)).set (by have:=HLR.out;omega)).set (by have:=HLR.out;omega)).set (by have:=HLR.out;omega))
       have HG8 : Hid (w.grownBy w8 (some g)):=hd_ (by rw [hw];exact zqn (zqn (zqn (zqn (zqn (zqn (zqn (HG7.out) HLR _ _) HLR _ _) HLR _ _) HLR _ _) HLR _ _) HLR _ _) HLR _ _)
       have HR_w8 : Hid (Hx w8 RB (qaiiiiiib v0 v1 v2 v3 v4 v5 (z == 0)) 64):=hd_ (by rw [hw];exact zqa (zqa (zqa (zqa (zqa (zqa (zqa (HR_w7.out))))))))
       have HE8 : Hid (Hx w8 EB (qaiiiiiib v0 v1 v2 v3 v4 v5 (z == 0)) 64):=hd_ (by rw [hw];exact zqb HNER (zqb HNER (zqb HNER (zqb HNER (zqb HNER (zqb HNER (zqb HNER (HE7.out))))))))
       have HH8 : Hid (Hx w8 HB (qabbbbbb h0 h1 h2 h3 h4 true) 4):=hd_ (by rw [hw];exact zqb HNHR (zqb HNHR (zqb HNHR (zqb HNHR (zqb HNHR (zqb HNHR (zqb HNHR (HH7.out))))))))
       clear hw
       clear R E H Rf Ef Hf Rz Ez Hz
       obtain ⟨R,Rf,Rz⟩:=bc7_ HR_w8
       obtain ⟨E,Ef,Ez⟩:=bc7_ HE8
       obtain ⟨H,Hf,Hz⟩:=bc6_ HH8
       refine bodyPost_ret (v:=.agg #[.int .i64 v0,.int .i64 v1,.int .i64 v2,.int .i64 v3,.int .i64 v4,.int .i64 v5,.bool (z == 0)]) (by simp [results,Tryz.results136,go_sem, *]) rfl ?_
       exact ⟨⟨v0,v1,v2,v3,v4,v5,(z == 0)⟩,rfl,HC8.out,HG8.out⟩
      cases h3
      ·
       go_wp2_with fail
       refine nm_ ?_
       intro w8 hw
       have HC8 : Hid (Crs w8 g):=hd_ (by rw [hw];exact (((((((HC7.out).set (by have:=HLR.out;omega)).set (by have:=HLR.out;omega)).set (by have:=HLR.out;omega)).set (by have:=HLR.out;omega)).set (by have:=HLR.out;omega)).set (by have:=HLR.out;omega)).set (by have:=HLR.out;omega))
       have HG8 : Hid (w.grownBy w8 (some g)):=hd_ (by rw [hw];exact zqn (zqn (zqn (zqn (zqn (zqn (zqn (HG7.out) HLR _ _) HLR _ _) HLR _ _) HLR _ _) HLR _ _) HLR _ _) HLR _ _)
       have HR_w8 : Hid (Hx w8 RB (qaiiiiiib v0 v1 v2 v3 v4 v5 (z == 0)) 64):=hd_ (by rw [hw];exact zqa (zqa (zqa (zqa (zqa (zqa (zqa (HR_w7.out))))))))
       have HE8 : Hid (Hx w8 EB (qaiiiiiib v0 v1 v2 v3 v4 v5 (z == 0)) 64):=hd_ (by rw [hw];exact zqb HNER (zqb HNER (zqb HNER (zqb HNER (zqb HNER (zqb HNER (zqb HNER (HE7.out))))))))
       have HH8 : Hid (Hx w8 HB (qabbbbbb h0 h1 h2 false h4 true) 4):=hd_ (by rw [hw];exact zqb HNHR (zqb HNHR (zqb HNHR (zqb HNHR (zqb HNHR (zqb HNHR (zqb HNHR (HH7.out))))))))
       clear hw
       clear R E H Rf Ef Hf Rz Ez Hz
       obtain ⟨R,Rf,Rz⟩:=bc7_ HR_w8
       obtain ⟨E,Ef,Ez⟩:=bc7_ HE8
       obtain ⟨H,Hf,Hz⟩:=bc6_ HH8
       refine bodyPost_ret (v:=.agg #[.int .i64 v0,.int .i64 v1,.int .i64 v2,.int .i64 v3,.int .i64 v4,.int .i64 v5,.bool (z == 0)]) (by simp [results,Tryz.results136,go_sem, *]) rfl ?_
       exact ⟨⟨v0,v1,v2,v3,v4,v5,(z == 0)⟩,rfl,HC8.out,HG8.out⟩
      go_wp2_with fail
      refine (zxd g 2 _ HC7 (by first | decide | omega) (by first | decide | omega)).mono ?_
      rintro e' w8 ⟨r,r1,r2,rfl,hcn,hg⟩
      have HC8:=hd_ hcn
      have HG8:=hd_ (zqt HG7 hg)
      have HR_w8:=hd_ (zqe hg (zxj (by have:=HLR.out;omega)) HR_w7)
      have HE8:=hd_ (zqe hg (zxj (by have:=HLE.out;omega)) HE7)
      have HH8:=hd_ (zqe hg (zxj (by have:=HLH.out;omega)) HH7)
      clear hcn hg
      clear R E H Rf Ef Hf Rz Ez Hz
      obtain ⟨R,Rf,Rz⟩:=bc7_ HR_w8
      obtain ⟨E,Ef,Ez⟩:=bc7_ HE8
      obtain ⟨H,Hf,Hz⟩:=bc6_ HH8
      go_upto_region 17 with fail
      refine nm_ ?_
      intro w9 hw
      have HC9 : Hid (Crs w9 g):=hd_ (by rw [hw];exact (HC8.out).set (by have:=HLE.out;omega))
      have HG9 : Hid (w.grownBy w9 (some g)):=hd_ (by rw [hw];exact zqn (HG8.out) HLE _ _)
      have HR_w9 : Hid (Hx w9 RB (qaiiiiiib 0 0 0 0 0 0 false) 64):=hd_ (by rw [hw];exact zqb (fun e9 => HNER.out e9.symm) (HR_w8.out))
      have HE9 : Hid (Hx w9 EB (qaiiiiiib v0 v1 v2 v3 (1125899906842624 - r) v5 (z == 0)) 64):=hd_ (by rw [hw];exact zqa (HE8.out))
      have HH9 : Hid (Hx w9 HB (qabbbbbb h0 h1 h2 true h4 true) 4):=hd_ (by rw [hw];exact zqb HNHE (HH8.out))
      clear hw
      clear R E H Rf Ef Hf Rz Ez Hz
      obtain ⟨R,Rf,Rz⟩:=bc7_ HR_w9
      obtain ⟨E,Ef,Ez⟩:=bc7_ HE9
      obtain ⟨H,Hf,Hz⟩:=bc6_ HH9
      go_wp2_with fail
      refine nm_ ?_
      intro w10 hw
      have HC10 : Hid (Crs w10 g):=hd_ (by rw [hw];exact (((((((HC9.out).set (by have:=HLR.out;omega)).set (by have:=HLR.out;omega)).set (by have:=HLR.out;omega)).set (by have:=HLR.out;omega)).set (by have:=HLR.out;omega)).set (by have:=HLR.out;omega)).set (by have:=HLR.out;omega))
      have HG10 : Hid (w.grownBy w10 (some g)):=hd_ (by rw [hw];exact zqn (zqn (zqn (zqn (zqn (zqn (zqn (HG9.out) HLR _ _) HLR _ _) HLR _ _) HLR _ _) HLR _ _) HLR _ _) HLR _ _)
      have HR_w10 : Hid (Hx w10 RB (qaiiiiiib v0 v1 v2 v3 (1125899906842624 - r) v5 (z == 0)) 64):=hd_ (by rw [hw];exact zqa (zqa (zqa (zqa (zqa (zqa (zqa (HR_w9.out))))))))
      have HE10 : Hid (Hx w10 EB (qaiiiiiib v0 v1 v2 v3 (1125899906842624 - r) v5 (z == 0)) 64):=hd_ (by rw [hw];exact zqb HNER (zqb HNER (zqb HNER (zqb HNER (zqb HNER (zqb HNER (zqb HNER (HE9.out))))))))
      have HH10 : Hid (Hx w10 HB (qabbbbbb h0 h1 h2 true h4 true) 4):=hd_ (by rw [hw];exact zqb HNHR (zqb HNHR (zqb HNHR (zqb HNHR (zqb HNHR (zqb HNHR (zqb HNHR (HH9.out))))))))
      clear hw
      clear R E H Rf Ef Hf Rz Ez Hz
      obtain ⟨R,Rf,Rz⟩:=bc7_ HR_w10
      obtain ⟨E,Ef,Ez⟩:=bc7_ HE10
      obtain ⟨H,Hf,Hz⟩:=bc6_ HH10
      refine bodyPost_ret (v:=.agg #[.int .i64 v0,.int .i64 v1,.int .i64 v2,.int .i64 v3,.int .i64 (1125899906842624 - r),.int .i64 v5,.bool (z == 0)]) (by simp [results,Tryz.results136,go_sem, *]) rfl ?_
      exact ⟨⟨v0,v1,v2,v3,(1125899906842624 - r),v5,(z == 0)⟩,rfl,HC10.out,HG10.out⟩
end Go.Proofs.YtdbmkfmenfcbiaaGreat
