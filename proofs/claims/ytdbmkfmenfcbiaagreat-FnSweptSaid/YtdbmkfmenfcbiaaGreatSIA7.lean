/- An event that lets a payment fail is applied: the program's walk. -/
import Derived.Test.YtdbmkfmenfcbiaaGreatRows
import Derived.Test.YtdbmkfmenfcbiaaGreatSM3
import Derived.Test.YtdbmkfmenfcbiaaGreatSBookOi
import Derived.Test.YtdbmkfmenfcbiaaGreatSIEv
import Derived.Test.YtdbmkfmenfcbiaaGreatSM2
import Derived.Test.YtdbmkfmenfcbiaaGreatSISe
import Derived.Test.YtdbmkfmenfcbiaaGreatSSApply
import Derived.RegionTactic
import Derived.Deep.CutRange
import Derived.Deep.CutBlock
namespace Go.Proofs.YtdbmkfmenfcbiaaGreat
open Go.RowKit Go.Deep
theorem zpn {T : TypeId} {w w' : World} {B X k : Nat} {o : Out} {e : Ending} {cs : Array Value} {t : TypeId} (h : Acts T w B X o e w') (hk : w.heap[k]? = some (.cells cs t (0,0))) (ht : t ∉ wkTs T) : w'.heap[k]? = some (.cells cs t (0,0)):=by
 rcases h with ⟨_,_,_,_,_,_,_,_,_,_,_,_,hw⟩ | ⟨_,_,_,_,_,_,_,_,_,_,_,_,hw⟩
 ·
  exact hw.box hk ht
 ·
  exact hw.box hk ht
theorem ev_key7 {e : Event} (h : evB e = true) (hk : e.Kind = 6 ∨ e.Kind = 7 ∨ e.Kind = 10 ∨ e.Kind = 11) : 1 ≤ e.Key:=by
 obtain ⟨k,key,ch,ot,amt,fee,yes⟩:=e
 unfold evB at h
 simp only at h hk ⊢
 (repeat' split at h) <;> first | (cases h;done) | (simp only [Bool.and_eq_true,beq_iff_eq,zxx,zxy] at h;omega)
set_option maxRecDepth 100000 in
set_option maxHeartbeats 4000000 in
theorem i_A7_no (b : Bk) (k key ch ot amt fee : Int) (yes : Bool) (A1 A2 A3 : Option Addr) (p1 p2 p3 : Nat) (w : World) (hlc : b.cs.length ≤ 1048576) (hlh : b.hs.length ≤ 1048576) (hlo : b.os.length ≤ 1048576) (hr : RdBook w w.heap.size A1 b.cs A2 b.hs A3 b.os) (hno : (b.ok && evB ⟨k,key,ch,ot,amt,fee,yes⟩) = false) :
  Calls Tryz.prog 44 #[.agg #[.int .i64 b.t,.int .i64 b.n,.int .i64 b.w,.slice A1 b.cs.length p1,.slice A2 b.hs.length p2,.slice A3 b.os.length p3],.agg #[.int .i64 k,.int .i64 key,.int .i64 ch,.int .i64 ot,.int .i64 amt,.int .i64 fee,.bool yes]] w (ApplyP w (applyS b ⟨k,key,ch,ot,amt,fee,yes⟩) b.n):=by
 have HRd:=hd_ hr
 clear hr
 have HO:=hd_ (zmi hno)
 cases hok : b.ok
 ·
  have HOK : Hid (bookB b.t b.n b.w b.cs b.hs b.os = false):=hd_ hok
  clear hno hok
  go_enter Tryz.func44,Tryz.ntmps44
  go_wp2_with fail
  obtain ⟨EB,hEB⟩ : ∃ v,v = w.heap.size + 1:=⟨_,rfl⟩
  rw [← hEB]
  obtain ⟨RB,hRB⟩ : ∃ v,v = EB + 1:=⟨_,rfl⟩
  try rw [← hRB]
  obtain ⟨RP,hRP⟩ : ∃ v,v = RB + 1:=⟨_,rfl⟩
  try rw [← hRP]
  obtain ⟨BB,hBB⟩ : ∃ v,v = w.heap.size:=⟨_,rfl⟩
  rw [← hBB]
  refine nm_ ?_
  intro w1 hw
  have HU_w1 : Hid (Hx w1 BB (bkC b A1 p1 A2 p2 A3 p3) 39):=hd_ (by rw [hw,hBB];exact hp_)
  have HE_w1 : Hid (Hx w1 EB #[.int .i64 k,.int .i64 key,.int .i64 ch,.int .i64 ot,.int .i64 amt,.int .i64 fee,.bool yes] 64):=hd_ (by rw [hw,hEB];exact hp_)
  have HR_w1 : Hid (Hx w1 RB #[.int .i64 0,.int .i64 0,.int .i64 0,.slice none 0 0,.slice none 0 0,.slice none 0 0] 39):=hd_ (by rw [hw,hRB,hEB];exact hp_)
  have HV_w1 : Hid (Hx w1 RP #[.int .i64 0,.slice none 0 0] 66):=hd_ (by rw [hw,hRP,hRB,hEB];exact hp_)
  have HB_w1 : Hid (Below w.heap.size w w1):=hd_ (by rw [hw];exact bl_)
  have HGU : Hid (w.heap.size ≤ BB):=hd_ (by omega)
  have HGE : Hid (w.heap.size ≤ EB):=hd_ (by omega)
  have HGR : Hid (w.heap.size ≤ RB):=hd_ (by omega)
  have HGV : Hid (w.heap.size ≤ RP):=hd_ (by omega)
  have HNUE : Hid (EB ≠ BB):=hd_ (by omega)
  have HNUR : Hid (RB ≠ BB):=hd_ (by omega)
  have HNUV : Hid (RP ≠ BB):=hd_ (by omega)
  have HNEU : Hid (BB ≠ EB):=hd_ (by omega)
  have HNER : Hid (RB ≠ EB):=hd_ (by omega)
  have HNEV : Hid (RP ≠ EB):=hd_ (by omega)
  have HNRU : Hid (BB ≠ RB):=hd_ (by omega)
  have HNRE : Hid (EB ≠ RB):=hd_ (by omega)
  have HNRV : Hid (RP ≠ RB):=hd_ (by omega)
  have HNVU : Hid (BB ≠ RP):=hd_ (by omega)
  have HNVE : Hid (EB ≠ RP):=hd_ (by omega)
  have HNVR : Hid (RB ≠ RP):=hd_ (by omega)
  have hRPl : Hid (RP < w1.heap.size∧w.heap.size ≤ w1.heap.size):=hd_ ⟨(gz_ HV_w1.out).1,HB_w1.out.size⟩
  clear hw hBB hEB hRB hRP
  obtain ⟨U0,U1,U2,U3,U4,U5,-,Uz⟩:=box6_ HU_w1.out
  obtain ⟨E0,E1,E2,E3,E4,E5,E6,-,Ez⟩:=box7_ HE_w1.out
  obtain ⟨R0,R1,R2,R3,R4,R5,-,Rz⟩:=box6_ HR_w1.out
  obtain ⟨V0,V1,-,Vz⟩:=box2_ HV_w1.out
  refine (zjq b.t b.n b.w b.cs b.hs b.os _ _ _ _ _ _ _ hlc hlh hlo ((HRd.out.below HB_w1.out).more HB_w1.out.size)).mono ?_
  rintro e' w2 ⟨rfl,hb⟩
  rw [HOK.out]
  have HU_w2:=hd_ (zqe hb (gz_ HU_w1.out).1 HU_w1.out)
  have HE_w2:=hd_ (zqe hb (gz_ HE_w1.out).1 HE_w1.out)
  have HR_w2:=hd_ (zqe hb (gz_ HR_w1.out).1 HR_w1.out)
  have HV_w2:=hd_ (zqe hb (gz_ HV_w1.out).1 HV_w1.out)
  have HB_w2:=hd_ (HB_w1.out.trans (hb.mono HB_w1.out.size))
  clear hb
  clear U0 U1 U2 U3 U4 U5 E0 E1 E2 E3 E4 E5 E6 R0 R1 R2 R3 R4 R5 V0 V1 Uz Ez Rz Vz
  obtain ⟨U0,U1,U2,U3,U4,U5,-,Uz⟩:=box6_ HU_w2.out
  obtain ⟨E0,E1,E2,E3,E4,E5,E6,-,Ez⟩:=box7_ HE_w2.out
  obtain ⟨R0,R1,R2,R3,R4,R5,-,Rz⟩:=box6_ HR_w2.out
  obtain ⟨V0,V1,-,Vz⟩:=box2_ HV_w2.out
  have fR:=zqo HR_w2.out
  have fV:=zqo HV_w2.out
  have hn1 : ¬ RB = RP:=HNVR.out
  have hn2 : ¬ RP = RB:=HNRV.out
  go_wp2_with fail
  clear hn1 hn2
  refine nm_ ?_
  intro wz hw
  have hz1 : Hid (Hx wz RB #[.int .i64 0,.int .i64 0,.int .i64 0,.slice none 0 0,.slice none 0 0,.slice none 0 0] 39):=hd_ (by rw [hw];exact zqb HNVR.out (zqb HNVR.out (zqa (zqa (zqa (zqa (zqa (zqa (HR_w2.out)))))))))
  have hz2 : Hid (Hx wz RP #[.int .i64 0,.slice none 0 0] 66):=hd_ (by rw [hw];exact zqa (zqa (zqb HNRV.out (zqb HNRV.out (zqb HNRV.out (zqb HNRV.out (zqb HNRV.out (zqb HNRV.out (HV_w2.out)))))))))
  have hz3 : Hid (Below w.heap.size w wz):=hd_ (by rw [hw];exact Below.setCell (Below.setCell (Below.setCell (Below.setCell (Below.setCell (Below.setCell (Below.setCell (Below.setCell (HB_w2.out) HGR.out _) HGR.out _) HGR.out _) HGR.out _) HGR.out _) HGR.out _) HGV.out _) HGV.out _)
  clear hw fR fV
  clear U0 U1 U2 U3 U4 U5 E0 E1 E2 E3 E4 E5 E6 R0 R1 R2 R3 R4 R5 V0 V1 Uz Ez Rz Vz
  have R0:=zqf hz1.out 0
  have R1:=zqf hz1.out 1
  have R2:=zqf hz1.out 2
  have R3:=zqf hz1.out 3
  have R4:=zqf hz1.out 4
  have R5:=zqf hz1.out 5
  have V0:=zqf hz2.out 0
  have V1:=zqf hz2.out 1
  simp only [List.getElem?_toArray,List.getElem?_cons_zero,List.getElem?_cons_succ] at R0 R1 R2 R3 R4 R5 V0 V1
  refine bodyPost_ret (v:=.tuple #[.agg #[.int .i64 0,.int .i64 0,.int .i64 0,.slice none 0 0,.slice none 0 0,.slice none 0 0],.agg #[.int .i64 0,.slice none 0 0],.int .i64 1]) (by simp [results,Tryz.results44,go_sem, *]) rfl ?_
  rw [HO.out]
  exact ⟨bk0,[],0,none,none,none,none,0,0,0,0,rfl,OwB.nil_ _ _ _ _ _,Ow.nil_,hz3.out,rfl,rfl,rfl⟩
 ·
  have HOK : Hid (bookB b.t b.n b.w b.cs b.hs b.os = true):=hd_ hok
  have HEV : Hid (evB ⟨k,key,ch,ot,amt,fee,yes⟩ = false):=hd_ (by rw [hok,Bool.true_and] at hno;exact hno)
  clear hno hok
  go_enter Tryz.func44,Tryz.ntmps44
  go_wp2_with fail
  obtain ⟨EB,hEB⟩ : ∃ v,v = w.heap.size + 1:=⟨_,rfl⟩
  rw [← hEB]
  obtain ⟨RB,hRB⟩ : ∃ v,v = EB + 1:=⟨_,rfl⟩
  try rw [← hRB]
  obtain ⟨RP,hRP⟩ : ∃ v,v = RB + 1:=⟨_,rfl⟩
  try rw [← hRP]
  obtain ⟨BB,hBB⟩ : ∃ v,v = w.heap.size:=⟨_,rfl⟩
  rw [← hBB]
  refine nm_ ?_
  intro w1 hw
  have HU_w1 : Hid (Hx w1 BB (bkC b A1 p1 A2 p2 A3 p3) 39):=hd_ (by rw [hw,hBB];exact hp_)
  have HE_w1 : Hid (Hx w1 EB #[.int .i64 k,.int .i64 key,.int .i64 ch,.int .i64 ot,.int .i64 amt,.int .i64 fee,.bool yes] 64):=hd_ (by rw [hw,hEB];exact hp_)
  have HR_w1 : Hid (Hx w1 RB #[.int .i64 0,.int .i64 0,.int .i64 0,.slice none 0 0,.slice none 0 0,.slice none 0 0] 39):=hd_ (by rw [hw,hRB,hEB];exact hp_)
  have HV_w1 : Hid (Hx w1 RP #[.int .i64 0,.slice none 0 0] 66):=hd_ (by rw [hw,hRP,hRB,hEB];exact hp_)
  have HB_w1 : Hid (Below w.heap.size w w1):=hd_ (by rw [hw];exact bl_)
  have HGU : Hid (w.heap.size ≤ BB):=hd_ (by omega)
  have HGE : Hid (w.heap.size ≤ EB):=hd_ (by omega)
  have HGR : Hid (w.heap.size ≤ RB):=hd_ (by omega)
  have HGV : Hid (w.heap.size ≤ RP):=hd_ (by omega)
  have HNUE : Hid (EB ≠ BB):=hd_ (by omega)
  have HNUR : Hid (RB ≠ BB):=hd_ (by omega)
  have HNUV : Hid (RP ≠ BB):=hd_ (by omega)
  have HNEU : Hid (BB ≠ EB):=hd_ (by omega)
  have HNER : Hid (RB ≠ EB):=hd_ (by omega)
  have HNEV : Hid (RP ≠ EB):=hd_ (by omega)
  have HNRU : Hid (BB ≠ RB):=hd_ (by omega)
  have HNRE : Hid (EB ≠ RB):=hd_ (by omega)
  have HNRV : Hid (RP ≠ RB):=hd_ (by omega)
  have HNVU : Hid (BB ≠ RP):=hd_ (by omega)
  have HNVE : Hid (EB ≠ RP):=hd_ (by omega)
  have HNVR : Hid (RB ≠ RP):=hd_ (by omega)
  have hRPl : Hid (RP < w1.heap.size∧w.heap.size ≤ w1.heap.size):=hd_ ⟨(gz_ HV_w1.out).1,HB_w1.out.size⟩
  clear hw hBB hEB hRB hRP
  obtain ⟨U0,U1,U2,U3,U4,U5,-,Uz⟩:=box6_ HU_w1.out
  obtain ⟨E0,E1,E2,E3,E4,E5,E6,-,Ez⟩:=box7_ HE_w1.out
  obtain ⟨R0,R1,R2,R3,R4,R5,-,Rz⟩:=box6_ HR_w1.out
  obtain ⟨V0,V1,-,Vz⟩:=box2_ HV_w1.out
  refine (zjq b.t b.n b.w b.cs b.hs b.os _ _ _ _ _ _ _ hlc hlh hlo ((HRd.out.below HB_w1.out).more HB_w1.out.size)).mono ?_
  rintro e' w2 ⟨rfl,hb⟩
  rw [HOK.out]
  have HU_w2:=hd_ (zqe hb (gz_ HU_w1.out).1 HU_w1.out)
  have HE_w2:=hd_ (zqe hb (gz_ HE_w1.out).1 HE_w1.out)
  have HR_w2:=hd_ (zqe hb (gz_ HR_w1.out).1 HR_w1.out)
  have HV_w2:=hd_ (zqe hb (gz_ HV_w1.out).1 HV_w1.out)
  have HB_w2:=hd_ (HB_w1.out.trans (hb.mono HB_w1.out.size))
  clear hb
  clear U0 U1 U2 U3 U4 U5 E0 E1 E2 E3 E4 E5 E6 R0 R1 R2 R3 R4 R5 V0 V1 Uz Ez Rz Vz
  obtain ⟨U0,U1,U2,U3,U4,U5,-,Uz⟩:=box6_ HU_w2.out
  obtain ⟨E0,E1,E2,E3,E4,E5,E6,-,Ez⟩:=box7_ HE_w2.out
  obtain ⟨R0,R1,R2,R3,R4,R5,-,Rz⟩:=box6_ HR_w2.out
  obtain ⟨V0,V1,-,Vz⟩:=box2_ HV_w2.out
  go_wp2_with fail
  refine (zwo ⟨k,key,ch,ot,amt,fee,yes⟩ _).mono ?_
  rintro e' w3 ⟨rfl,hb⟩
  rw [HEV.out]
  have HU_w3:=hd_ (zqe hb (gz_ HU_w2.out).1 HU_w2.out)
  have HE_w3:=hd_ (zqe hb (gz_ HE_w2.out).1 HE_w2.out)
  have HR_w3:=hd_ (zqe hb (gz_ HR_w2.out).1 HR_w2.out)
  have HV_w3:=hd_ (zqe hb (gz_ HV_w2.out).1 HV_w2.out)
  have HB_w3:=hd_ (HB_w2.out.trans (hb.mono HB_w2.out.size))
  clear hb
  clear U0 U1 U2 U3 U4 U5 E0 E1 E2 E3 E4 E5 E6 R0 R1 R2 R3 R4 R5 V0 V1 Uz Ez Rz Vz
  obtain ⟨U0,U1,U2,U3,U4,U5,-,Uz⟩:=box6_ HU_w3.out
  obtain ⟨E0,E1,E2,E3,E4,E5,E6,-,Ez⟩:=box7_ HE_w3.out
  obtain ⟨R0,R1,R2,R3,R4,R5,-,Rz⟩:=box6_ HR_w3.out
  obtain ⟨V0,V1,-,Vz⟩:=box2_ HV_w3.out
  have fR:=zqo HR_w3.out
  have fV:=zqo HV_w3.out
  have hn1 : ¬ RB = RP:=HNVR.out
  have hn2 : ¬ RP = RB:=HNRV.out
  go_wp2_with fail
  clear hn1 hn2
  refine nm_ ?_
  intro wz hw
  have hz1 : Hid (Hx wz RB #[.int .i64 0,.int .i64 0,.int .i64 0,.slice none 0 0,.slice none 0 0,.slice none 0 0] 39):=hd_ (by rw [hw];exact zqb HNVR.out (zqb HNVR.out (zqa (zqa (zqa (zqa (zqa (zqa (HR_w3.out)))))))))
  have hz2 : Hid (Hx wz RP #[.int .i64 0,.slice none 0 0] 66):=hd_ (by rw [hw];exact zqa (zqa (zqb HNRV.out (zqb HNRV.out (zqb HNRV.out (zqb HNRV.out (zqb HNRV.out (zqb HNRV.out (HV_w3.out)))))))))
  have hz3 : Hid (Below w.heap.size w wz):=hd_ (by rw [hw];exact Below.setCell (Below.setCell (Below.setCell (Below.setCell (Below.setCell (Below.setCell (Below.setCell (Below.setCell (HB_w3.out) HGR.out _) HGR.out _) HGR.out _) HGR.out _) HGR.out _) HGR.out _) HGV.out _) HGV.out _)
  clear hw fR fV
  clear U0 U1 U2 U3 U4 U5 E0 E1 E2 E3 E4 E5 E6 R0 R1 R2 R3 R4 R5 V0 V1 Uz Ez Rz Vz
  have R0:=zqf hz1.out 0
  have R1:=zqf hz1.out 1
  have R2:=zqf hz1.out 2
  have R3:=zqf hz1.out 3
  have R4:=zqf hz1.out 4
  have R5:=zqf hz1.out 5
  have V0:=zqf hz2.out 0
  have V1:=zqf hz2.out 1
  simp only [List.getElem?_toArray,List.getElem?_cons_zero,List.getElem?_cons_succ] at R0 R1 R2 R3 R4 R5 V0 V1
  refine bodyPost_ret (v:=.tuple #[.agg #[.int .i64 0,.int .i64 0,.int .i64 0,.slice none 0 0,.slice none 0 0,.slice none 0 0],.agg #[.int .i64 0,.slice none 0 0],.int .i64 1]) (by simp [results,Tryz.results44,go_sem, *]) rfl ?_
  rw [HO.out]
  exact ⟨bk0,[],0,none,none,none,none,0,0,0,0,rfl,OwB.nil_ _ _ _ _ _,Ow.nil_,hz3.out,rfl,rfl,rfl⟩
set_option maxRecDepth 100000 in
set_option maxHeartbeats 4000000 in
theorem i_A7_ov (b : Bk) (k key ch ot amt fee : Int) (yes : Bool) (A1 A2 A3 : Option Addr) (p1 p2 p3 : Nat) (w : World) (hlc : b.cs.length ≤ 1048576) (hlh : b.hs.length ≤ 1048576) (hlo : b.os.length ≤ 1048576) (hr : RdBook w w.heap.size A1 b.cs A2 b.hs A3 b.os) (hyes : (b.ok && evB ⟨k,key,ch,ot,amt,fee,yes⟩) = true) (hov : ovB b ⟨k,key,ch,ot,amt,fee,yes⟩ = true) :
  Calls Tryz.prog 44 #[.agg #[.int .i64 b.t,.int .i64 b.n,.int .i64 b.w,.slice A1 b.cs.length p1,.slice A2 b.hs.length p2,.slice A3 b.os.length p3],.agg #[.int .i64 k,.int .i64 key,.int .i64 ch,.int .i64 ot,.int .i64 amt,.int .i64 fee,.bool yes]] w (ApplyP w (applyS b ⟨k,key,ch,ot,amt,fee,yes⟩) b.n):=by
 have HRd:=hd_ hr
 clear hr
 have HO:=hd_ (ov_yes hyes hov)
 have HOV:=hd_ hov
 obtain ⟨hok,hev⟩:=(Bool.and_eq_true _ _).mp hyes
 have HOK : Hid (bookB b.t b.n b.w b.cs b.hs b.os = true):=hd_ hok
 have HEV : Hid (evB ⟨k,key,ch,ot,amt,fee,yes⟩ = true):=hd_ hev
 have hF:=zxp hok
 have HF:=hd_ hF
 obtain ⟨hma,hmf⟩:=zyo hev
 have HAmt : Hid (amtB amt = true):=hd_ hma
 have HFee : Hid (amtB fee = true):=hd_ hmf
 clear hyes hok hev hF hma hmf hov
 go_enter Tryz.func44,Tryz.ntmps44
 go_wp2_with fail
 obtain ⟨EB,hEB⟩ : ∃ v,v = w.heap.size + 1:=⟨_,rfl⟩
 rw [← hEB]
 obtain ⟨RB,hRB⟩ : ∃ v,v = EB + 1:=⟨_,rfl⟩
 try rw [← hRB]
 obtain ⟨RP,hRP⟩ : ∃ v,v = RB + 1:=⟨_,rfl⟩
 try rw [← hRP]
 obtain ⟨BB,hBB⟩ : ∃ v,v = w.heap.size:=⟨_,rfl⟩
 rw [← hBB]
 refine nm_ ?_
 intro w1 hw
 have HU_w1 : Hid (Hx w1 BB (bkC b A1 p1 A2 p2 A3 p3) 39):=hd_ (by rw [hw,hBB];exact hp_)
 have HE_w1 : Hid (Hx w1 EB #[.int .i64 k,.int .i64 key,.int .i64 ch,.int .i64 ot,.int .i64 amt,.int .i64 fee,.bool yes] 64):=hd_ (by rw [hw,hEB];exact hp_)
 have HR_w1 : Hid (Hx w1 RB #[.int .i64 0,.int .i64 0,.int .i64 0,.slice none 0 0,.slice none 0 0,.slice none 0 0] 39):=hd_ (by rw [hw,hRB,hEB];exact hp_)
 have HV_w1 : Hid (Hx w1 RP #[.int .i64 0,.slice none 0 0] 66):=hd_ (by rw [hw,hRP,hRB,hEB];exact hp_)
 have HB_w1 : Hid (Below w.heap.size w w1):=hd_ (by rw [hw];exact bl_)
 have HGU : Hid (w.heap.size ≤ BB):=hd_ (by omega)
 have HGE : Hid (w.heap.size ≤ EB):=hd_ (by omega)
 have HGR : Hid (w.heap.size ≤ RB):=hd_ (by omega)
 have HGV : Hid (w.heap.size ≤ RP):=hd_ (by omega)
 have HNUE : Hid (EB ≠ BB):=hd_ (by omega)
 have HNUR : Hid (RB ≠ BB):=hd_ (by omega)
 have HNUV : Hid (RP ≠ BB):=hd_ (by omega)
 have HNEU : Hid (BB ≠ EB):=hd_ (by omega)
 have HNER : Hid (RB ≠ EB):=hd_ (by omega)
 have HNEV : Hid (RP ≠ EB):=hd_ (by omega)
 have HNRU : Hid (BB ≠ RB):=hd_ (by omega)
 have HNRE : Hid (EB ≠ RB):=hd_ (by omega)
 have HNRV : Hid (RP ≠ RB):=hd_ (by omega)
 have HNVU : Hid (BB ≠ RP):=hd_ (by omega)
 have HNVE : Hid (EB ≠ RP):=hd_ (by omega)
 have HNVR : Hid (RB ≠ RP):=hd_ (by omega)
 have hRPl : Hid (RP < w1.heap.size∧w.heap.size ≤ w1.heap.size):=hd_ ⟨(gz_ HV_w1.out).1,HB_w1.out.size⟩
 clear hw hBB hEB hRB hRP
 obtain ⟨U0,U1,U2,U3,U4,U5,-,Uz⟩:=box6_ HU_w1.out
 obtain ⟨E0,E1,E2,E3,E4,E5,E6,-,Ez⟩:=box7_ HE_w1.out
 obtain ⟨R0,R1,R2,R3,R4,R5,-,Rz⟩:=box6_ HR_w1.out
 obtain ⟨V0,V1,-,Vz⟩:=box2_ HV_w1.out
 refine (zjq b.t b.n b.w b.cs b.hs b.os _ _ _ _ _ _ _ hlc hlh hlo ((HRd.out.below HB_w1.out).more HB_w1.out.size)).mono ?_
 rintro e' w2 ⟨rfl,hb⟩
 rw [HOK.out]
 have HU_w2:=hd_ (zqe hb (gz_ HU_w1.out).1 HU_w1.out)
 have HE_w2:=hd_ (zqe hb (gz_ HE_w1.out).1 HE_w1.out)
 have HR_w2:=hd_ (zqe hb (gz_ HR_w1.out).1 HR_w1.out)
 have HV_w2:=hd_ (zqe hb (gz_ HV_w1.out).1 HV_w1.out)
 have HB_w2:=hd_ (HB_w1.out.trans (hb.mono HB_w1.out.size))
 clear hb
 clear U0 U1 U2 U3 U4 U5 E0 E1 E2 E3 E4 E5 E6 R0 R1 R2 R3 R4 R5 V0 V1 Uz Ez Rz Vz
 obtain ⟨U0,U1,U2,U3,U4,U5,-,Uz⟩:=box6_ HU_w2.out
 obtain ⟨E0,E1,E2,E3,E4,E5,E6,-,Ez⟩:=box7_ HE_w2.out
 obtain ⟨R0,R1,R2,R3,R4,R5,-,Rz⟩:=box6_ HR_w2.out
 obtain ⟨V0,V1,-,Vz⟩:=box2_ HV_w2.out
 go_wp2_with fail
 refine (zwo ⟨k,key,ch,ot,amt,fee,yes⟩ _).mono ?_
 rintro e' w3 ⟨rfl,hb⟩
 rw [HEV.out]
 have HU_w3:=hd_ (zqe hb (gz_ HU_w2.out).1 HU_w2.out)
 have HE_w3:=hd_ (zqe hb (gz_ HE_w2.out).1 HE_w2.out)
 have HR_w3:=hd_ (zqe hb (gz_ HR_w2.out).1 HR_w2.out)
 have HV_w3:=hd_ (zqe hb (gz_ HV_w2.out).1 HV_w2.out)
 have HB_w3:=hd_ (HB_w2.out.trans (hb.mono HB_w2.out.size))
 clear hb
 clear U0 U1 U2 U3 U4 U5 E0 E1 E2 E3 E4 E5 E6 R0 R1 R2 R3 R4 R5 V0 V1 Uz Ez Rz Vz
 obtain ⟨U0,U1,U2,U3,U4,U5,-,Uz⟩:=box6_ HU_w3.out
 obtain ⟨E0,E1,E2,E3,E4,E5,E6,-,Ez⟩:=box7_ HE_w3.out
 obtain ⟨R0,R1,R2,R3,R4,R5,-,Rz⟩:=box6_ HR_w3.out
 obtain ⟨V0,V1,-,Vz⟩:=box2_ HV_w3.out
 go_wp2_with fail
 refine (zwp b ⟨k,key,ch,ot,amt,fee,yes⟩ _ _ _ _ _ _ _ HF.out HAmt.out HFee.out ((HRd.out.below HB_w3.out).more HB_w3.out.size)).mono ?_
 rintro e' w4 ⟨rfl,hb⟩
 rw [HOV.out]
 have HU_w4:=hd_ (zqe hb (gz_ HU_w3.out).1 HU_w3.out)
 have HE_w4:=hd_ (zqe hb (gz_ HE_w3.out).1 HE_w3.out)
 have HR_w4:=hd_ (zqe hb (gz_ HR_w3.out).1 HR_w3.out)
 have HV_w4:=hd_ (zqe hb (gz_ HV_w3.out).1 HV_w3.out)
 have HB_w4:=hd_ (HB_w3.out.trans (hb.mono HB_w3.out.size))
 clear hb
 clear U0 U1 U2 U3 U4 U5 E0 E1 E2 E3 E4 E5 E6 R0 R1 R2 R3 R4 R5 V0 V1 Uz Ez Rz Vz
 obtain ⟨U0,U1,U2,U3,U4,U5,-,Uz⟩:=box6_ HU_w4.out
 obtain ⟨E0,E1,E2,E3,E4,E5,E6,-,Ez⟩:=box7_ HE_w4.out
 obtain ⟨R0,R1,R2,R3,R4,R5,-,Rz⟩:=box6_ HR_w4.out
 obtain ⟨V0,V1,-,Vz⟩:=box2_ HV_w4.out
 have fR:=zqo HR_w4.out
 have fV:=zqo HV_w4.out
 have hn1 : ¬ RB = RP:=HNVR.out
 have hn2 : ¬ RP = RB:=HNRV.out
 go_wp2_with fail
 clear hn1 hn2
 refine nm_ ?_
 intro wz hw
 have hz1 : Hid (Hx wz RB #[.int .i64 0,.int .i64 0,.int .i64 0,.slice none 0 0,.slice none 0 0,.slice none 0 0] 39):=hd_ (by rw [hw];exact zqb HNVR.out (zqb HNVR.out (zqa (zqa (zqa (zqa (zqa (zqa (HR_w4.out)))))))))
 have hz2 : Hid (Hx wz RP #[.int .i64 0,.slice none 0 0] 66):=hd_ (by rw [hw];exact zqa (zqa (zqb HNRV.out (zqb HNRV.out (zqb HNRV.out (zqb HNRV.out (zqb HNRV.out (zqb HNRV.out (HV_w4.out)))))))))
 have hz3 : Hid (Below w.heap.size w wz):=hd_ (by rw [hw];exact Below.setCell (Below.setCell (Below.setCell (Below.setCell (Below.setCell (Below.setCell (Below.setCell (Below.setCell (HB_w4.out) HGR.out _) HGR.out _) HGR.out _) HGR.out _) HGR.out _) HGR.out _) HGV.out _) HGV.out _)
 clear hw fR fV
 clear U0 U1 U2 U3 U4 U5 E0 E1 E2 E3 E4 E5 E6 R0 R1 R2 R3 R4 R5 V0 V1 Uz Ez Rz Vz
 have R0:=zqf hz1.out 0
 have R1:=zqf hz1.out 1
 have R2:=zqf hz1.out 2
 have R3:=zqf hz1.out 3
 have R4:=zqf hz1.out 4
 have R5:=zqf hz1.out 5
 have V0:=zqf hz2.out 0
 have V1:=zqf hz2.out 1
 simp only [List.getElem?_toArray,List.getElem?_cons_zero,List.getElem?_cons_succ] at R0 R1 R2 R3 R4 R5 V0 V1
 refine bodyPost_ret (v:=.tuple #[.agg #[.int .i64 0,.int .i64 0,.int .i64 0,.slice none 0 0,.slice none 0 0,.slice none 0 0],.agg #[.int .i64 0,.slice none 0 0],.int .i64 2]) (by simp [results,Tryz.results44,go_sem, *]) rfl ?_
 rw [HO.out]
 exact ⟨bk0,[],0,none,none,none,none,0,0,0,0,rfl,OwB.nil_ _ _ _ _ _,Ow.nil_,hz3.out,rfl,rfl,rfl⟩
set_option maxRecDepth 100000 in
set_option maxHeartbeats 4000000 in
theorem i_A7_yes (b : Bk) (k key ch ot amt fee : Int) (yes : Bool) (A1 A2 A3 : Option Addr) (p1 p2 p3 : Nat) (w : World) (hlc : b.cs.length ≤ 1048576) (hlh : b.hs.length ≤ 1048576) (hlo : b.os.length ≤ 1048576) (hr : RdBook w w.heap.size A1 b.cs A2 b.hs A3 b.os) (hyes : (b.ok && evB ⟨k,key,ch,ot,amt,fee,yes⟩) = true) (hov : ovB b ⟨k,key,ch,ot,amt,fee,yes⟩ = false) (hk7 : k = 7) :
  Calls Tryz.prog 44 #[.agg #[.int .i64 b.t,.int .i64 b.n,.int .i64 b.w,.slice A1 b.cs.length p1,.slice A2 b.hs.length p2,.slice A3 b.os.length p3],.agg #[.int .i64 k,.int .i64 key,.int .i64 ch,.int .i64 ot,.int .i64 amt,.int .i64 fee,.bool yes]] w (ApplyP w (applyS b ⟨k,key,ch,ot,amt,fee,yes⟩) b.n):=by
 have HRd:=hd_ hr
 clear hr
 have HK7:=hd_ hk7
 clear hk7
 obtain ⟨hok,hev⟩:=(Bool.and_eq_true _ _).mp hyes
 have HOK : Hid (bookB b.t b.n b.w b.cs b.hs b.os = true):=hd_ hok
 have HEV : Hid (evB ⟨k,key,ch,ot,amt,fee,yes⟩ = true):=hd_ hev
 have hF:=zxp hok
 have HF:=hd_ hF
 obtain ⟨hma,hmf⟩:=zyo hev
 have HAmt : Hid (amtB amt = true):=hd_ hma
 have HFee : Hid (amtB fee = true):=hd_ hmf
 have HOV:=hd_ hov
 obtain ⟨hnn,o1,o2,o3,o8⟩:=ov_no hov
 have HO:=hd_ (zwa hyes hnn)
 simp only at o1 o2 o3 o8
 have O1:=hd_ o1
 have O2:=hd_ o2
 have O3:=hd_ o3
 have O8:=hd_ o8
 have HNN:=hd_ hnn
 have HOKb : Hid (b.ok = true):=hd_ hok
 obtain ⟨hna,hnb⟩:=hF.n
 obtain ⟨hwa,hwb⟩:=hF.w
 have hcl:=hF.cl
 have hkd:=zgd hev
 simp only at hkd
 have HKD:=hd_ hkd
 clear hyes hok hev hF hma hmf hkd hov hnn o1 o2 o3 o8
 go_enter Tryz.func44,Tryz.ntmps44
 go_wp2_with fail
 obtain ⟨EB,hEB⟩ : ∃ v,v = w.heap.size + 1:=⟨_,rfl⟩
 rw [← hEB]
 obtain ⟨RB,hRB⟩ : ∃ v,v = EB + 1:=⟨_,rfl⟩
 try rw [← hRB]
 obtain ⟨RP,hRP⟩ : ∃ v,v = RB + 1:=⟨_,rfl⟩
 try rw [← hRP]
 obtain ⟨BB,hBB⟩ : ∃ v,v = w.heap.size:=⟨_,rfl⟩
 rw [← hBB]
 refine nm_ ?_
 intro w1 hw
 have HU_w1 : Hid (Hx w1 BB (bkC b A1 p1 A2 p2 A3 p3) 39):=hd_ (by rw [hw,hBB];exact hp_)
 have HE_w1 : Hid (Hx w1 EB #[.int .i64 k,.int .i64 key,.int .i64 ch,.int .i64 ot,.int .i64 amt,.int .i64 fee,.bool yes] 64):=hd_ (by rw [hw,hEB];exact hp_)
 have HR_w1 : Hid (Hx w1 RB #[.int .i64 0,.int .i64 0,.int .i64 0,.slice none 0 0,.slice none 0 0,.slice none 0 0] 39):=hd_ (by rw [hw,hRB,hEB];exact hp_)
 have HV_w1 : Hid (Hx w1 RP #[.int .i64 0,.slice none 0 0] 66):=hd_ (by rw [hw,hRP,hRB,hEB];exact hp_)
 have HB_w1 : Hid (Below w.heap.size w w1):=hd_ (by rw [hw];exact bl_)
 have HGU : Hid (w.heap.size ≤ BB):=hd_ (by omega)
 have HGE : Hid (w.heap.size ≤ EB):=hd_ (by omega)
 have HGR : Hid (w.heap.size ≤ RB):=hd_ (by omega)
 have HGV : Hid (w.heap.size ≤ RP):=hd_ (by omega)
 have HNUE : Hid (EB ≠ BB):=hd_ (by omega)
 have HNUR : Hid (RB ≠ BB):=hd_ (by omega)
 have HNUV : Hid (RP ≠ BB):=hd_ (by omega)
 have HNEU : Hid (BB ≠ EB):=hd_ (by omega)
 have HNER : Hid (RB ≠ EB):=hd_ (by omega)
 have HNEV : Hid (RP ≠ EB):=hd_ (by omega)
 have HNRU : Hid (BB ≠ RB):=hd_ (by omega)
 have HNRE : Hid (EB ≠ RB):=hd_ (by omega)
 have HNRV : Hid (RP ≠ RB):=hd_ (by omega)
 have HNVU : Hid (BB ≠ RP):=hd_ (by omega)
 have HNVE : Hid (EB ≠ RP):=hd_ (by omega)
 have HNVR : Hid (RB ≠ RP):=hd_ (by omega)
 have hRPl : Hid (RP < w1.heap.size∧w.heap.size ≤ w1.heap.size):=hd_ ⟨(gz_ HV_w1.out).1,HB_w1.out.size⟩
 clear hw hBB hEB hRB hRP
 obtain ⟨U0,U1,U2,U3,U4,U5,-,Uz⟩:=box6_ HU_w1.out
 obtain ⟨E0,E1,E2,E3,E4,E5,E6,-,Ez⟩:=box7_ HE_w1.out
 obtain ⟨R0,R1,R2,R3,R4,R5,-,Rz⟩:=box6_ HR_w1.out
 obtain ⟨V0,V1,-,Vz⟩:=box2_ HV_w1.out
 refine (zjq b.t b.n b.w b.cs b.hs b.os _ _ _ _ _ _ _ hlc hlh hlo ((HRd.out.below HB_w1.out).more HB_w1.out.size)).mono ?_
 rintro e' w2 ⟨rfl,hb⟩
 rw [HOK.out]
 have HU_w2:=hd_ (zqe hb (gz_ HU_w1.out).1 HU_w1.out)
 have HE_w2:=hd_ (zqe hb (gz_ HE_w1.out).1 HE_w1.out)
 have HR_w2:=hd_ (zqe hb (gz_ HR_w1.out).1 HR_w1.out)
 have HV_w2:=hd_ (zqe hb (gz_ HV_w1.out).1 HV_w1.out)
 have HB_w2:=hd_ (HB_w1.out.trans (hb.mono HB_w1.out.size))
 clear hb
 clear U0 U1 U2 U3 U4 U5 E0 E1 E2 E3 E4 E5 E6 R0 R1 R2 R3 R4 R5 V0 V1 Uz Ez Rz Vz
 obtain ⟨U0,U1,U2,U3,U4,U5,-,Uz⟩:=box6_ HU_w2.out
 obtain ⟨E0,E1,E2,E3,E4,E5,E6,-,Ez⟩:=box7_ HE_w2.out
 obtain ⟨R0,R1,R2,R3,R4,R5,-,Rz⟩:=box6_ HR_w2.out
 obtain ⟨V0,V1,-,Vz⟩:=box2_ HV_w2.out
 go_wp2_with fail
 refine (zwo ⟨k,key,ch,ot,amt,fee,yes⟩ _).mono ?_
 rintro e' w3 ⟨rfl,hb⟩
 rw [HEV.out]
 have HU_w3:=hd_ (zqe hb (gz_ HU_w2.out).1 HU_w2.out)
 have HE_w3:=hd_ (zqe hb (gz_ HE_w2.out).1 HE_w2.out)
 have HR_w3:=hd_ (zqe hb (gz_ HR_w2.out).1 HR_w2.out)
 have HV_w3:=hd_ (zqe hb (gz_ HV_w2.out).1 HV_w2.out)
 have HB_w3:=hd_ (HB_w2.out.trans (hb.mono HB_w2.out.size))
 clear hb
 clear U0 U1 U2 U3 U4 U5 E0 E1 E2 E3 E4 E5 E6 R0 R1 R2 R3 R4 R5 V0 V1 Uz Ez Rz Vz
 obtain ⟨U0,U1,U2,U3,U4,U5,-,Uz⟩:=box6_ HU_w3.out
 obtain ⟨E0,E1,E2,E3,E4,E5,E6,-,Ez⟩:=box7_ HE_w3.out
 obtain ⟨R0,R1,R2,R3,R4,R5,-,Rz⟩:=box6_ HR_w3.out
 obtain ⟨V0,V1,-,Vz⟩:=box2_ HV_w3.out
 go_wp2_with fail
 refine (zwp b ⟨k,key,ch,ot,amt,fee,yes⟩ _ _ _ _ _ _ _ HF.out HAmt.out HFee.out ((HRd.out.below HB_w3.out).more HB_w3.out.size)).mono ?_
 rintro e' w4 ⟨rfl,hb⟩
 rw [HOV.out]
 have HU_w4:=hd_ (zqe hb (gz_ HU_w3.out).1 HU_w3.out)
 have HE_w4:=hd_ (zqe hb (gz_ HE_w3.out).1 HE_w3.out)
 have HR_w4:=hd_ (zqe hb (gz_ HR_w3.out).1 HR_w3.out)
 have HV_w4:=hd_ (zqe hb (gz_ HV_w3.out).1 HV_w3.out)
 have HB_w4:=hd_ (HB_w3.out.trans (hb.mono HB_w3.out.size))
 clear hb
 clear U0 U1 U2 U3 U4 U5 E0 E1 E2 E3 E4 E5 E6 R0 R1 R2 R3 R4 R5 V0 V1 Uz Ez Rz Vz
 obtain ⟨U0,U1,U2,U3,U4,U5,-,Uz⟩:=box6_ HU_w4.out
 obtain ⟨E0,E1,E2,E3,E4,E5,E6,-,Ez⟩:=box7_ HE_w4.out
 obtain ⟨R0,R1,R2,R3,R4,R5,-,Rz⟩:=box6_ HR_w4.out
 obtain ⟨V0,V1,-,Vz⟩:=box2_ HV_w4.out
 go_wp2_with fail
 refine (zhm b _ _ _ _ _ _ _ hlc hlh hlo ((HRd.out.below HB_w4.out).more HB_w4.out.size)).mono ?_
 rintro e' w5 ⟨C1,C2,C3,r1,r2,r3,rfl,hC,hb⟩
 have HC:=hd_ hC
 have hbz:=hb.size
 clear hC
 have HU_w5:=hd_ (zqe hb (gz_ HU_w4.out).1 HU_w4.out)
 have HE_w5:=hd_ (zqe hb (gz_ HE_w4.out).1 HE_w4.out)
 have HR_w5:=hd_ (zqe hb (gz_ HR_w4.out).1 HR_w4.out)
 have HV_w5:=hd_ (zqe hb (gz_ HV_w4.out).1 HV_w4.out)
 have HB_w5:=hd_ (HB_w4.out.trans (hb.mono HB_w4.out.size))
 clear hb
 clear U0 U1 U2 U3 U4 U5 E0 E1 E2 E3 E4 E5 E6 R0 R1 R2 R3 R4 R5 V0 V1 Uz Ez Rz Vz
 obtain ⟨U0,U1,U2,U3,U4,U5,-,Uz⟩:=box6_ HU_w5.out
 obtain ⟨E0,E1,E2,E3,E4,E5,E6,-,Ez⟩:=box7_ HE_w5.out
 obtain ⟨R0,R1,R2,R3,R4,R5,-,Rz⟩:=box6_ HR_w5.out
 obtain ⟨V0,V1,-,Vz⟩:=box2_ HV_w5.out
 go_upto_region 6 with fail
 obtain ⟨X,hX⟩ : ∃ v,v = w5.heap.size:=⟨_,rfl⟩
 rw [← hX]
 refine nm_ ?_
 intro w5 hw
 obtain ⟨L,hL⟩ : ∃ L : List Line,L = []:=⟨_,rfl⟩
 have HBS:=hd_ HB_w5.out.size
 have HW_w5 : Hid (Wk 136 w w5 w.heap.size X b L 0 C1 C2 C3 none r1 r2 r3 0):=hd_ (by rw [hw,hL];exact ⟨zqm hX,(HC.out.more HB_w4.out.size).alloc _,Ow.nil_,HB_w5.out.alloc HBS.out _,Fr.of_below (HB_w5.out.alloc HBS.out _),by rw [hX];exact HBS.out⟩)
 have HU_w5 : Hid (Hx w5 BB (bkC b A1 p1 A2 p2 A3 p3) 39):=hd_ (by rw [hw];exact zqg (gz_ HU_w5.out).1 HU_w5.out)
 have HXU : Hid (BB ≠ X):=hd_ (by have:=(gz_ HU_w5.out).1;omega)
 have HE_w5 : Hid (Hx w5 EB #[.int .i64 k,.int .i64 key,.int .i64 ch,.int .i64 ot,.int .i64 amt,.int .i64 fee,.bool yes] 64):=hd_ (by rw [hw];exact zqg (gz_ HE_w5.out).1 HE_w5.out)
 have HXE : Hid (EB ≠ X):=hd_ (by have:=(gz_ HE_w5.out).1;omega)
 have HR_w5 : Hid (Hx w5 RB #[.int .i64 0,.int .i64 0,.int .i64 0,.slice none 0 0,.slice none 0 0,.slice none 0 0] 39):=hd_ (by rw [hw];exact zqg (gz_ HR_w5.out).1 HR_w5.out)
 have HXR : Hid (RB ≠ X):=hd_ (by have:=(gz_ HR_w5.out).1;omega)
 have HV_w5 : Hid (Hx w5 RP #[.int .i64 0,.slice none 0 0] 66):=hd_ (by rw [hw];exact zqg (gz_ HV_w5.out).1 HV_w5.out)
 have HXV : Hid (RP ≠ X):=hd_ (by have:=(gz_ HV_w5.out).1;omega)
 have HL:=hd_ hL
 clear hw hX hL hbz
 clear U0 U1 U2 U3 U4 U5 E0 E1 E2 E3 E4 E5 E6 R0 R1 R2 R3 R4 R5 V0 V1 Uz Ez Rz Vz
 obtain ⟨a0,a1,a2,a3,a4,a5,a6,a7,af,az⟩:=HW_w5.out.open_
 obtain ⟨U0,U1,U2,U3,U4,U5,-,-⟩:=box6_ HU_w5.out
 obtain ⟨E0,E1,E2,E3,E4,E5,E6,-,-⟩:=box7_ HE_w5.out
 obtain ⟨R0,R1,R2,R3,R4,R5,-,-⟩:=box6_ HR_w5.out
 obtain ⟨V0,V1,-,-⟩:=box2_ HV_w5.out
 go_upto_block 0 with (fail)
 go_cut [8] from 29 to 101 (fun v8 wx => Hid (AppEnd 136 w w.heap.size X RB RP (stepS b ⟨k,key,ch,ot,amt,fee,yes⟩) wx)∧Hid (Hx wx BB (bkC b A1 p1 A2 p2 A3 p3) 39))
 case first =>
  clear a0 a1 a2 a3 a4 a5 a6 a7 af az U0 U1 U2 U3 U4 U5 E0 E1 E2 E3 E4 E5 E6 R0 R1 R2 R3 R4 R5 V0 V1
  have HW0:=HW_w5
  rw [HL.out] at HW0
  obtain rfl:=HK7.out
  ·
   obtain ⟨a0,a1,a2,a3,a4,a5,a6,a7,af,az⟩:=HW_w5.out.open_
   obtain ⟨U0,U1,U2,U3,U4,U5,-,-⟩:=box6_ HU_w5.out
   obtain ⟨E0,E1,E2,E3,E4,E5,E6,-,-⟩:=box7_ HE_w5.out
   obtain ⟨R0,R1,R2,R3,R4,R5,-,-⟩:=box6_ HR_w5.out
   obtain ⟨V0,V1,-,-⟩:=box2_ HV_w5.out
   have HK : Hid (stepS b ⟨7,key,ch,ot,amt,fee,yes⟩ = settleS b key false):=hd_ rfl
   go_wp2_with fail
   clear a0 a1 a2 a3 a4 a5 a6 a7 af az U0 U1 U2 U3 U4 U5 E0 E1 E2 E3 E4 E5 E6 R0 R1 R2 R3 R4 R5 V0 V1
   refine (i_settle w w5 w.heap.size X b _ _ _ _ _ _ _ _ ⟨7,key,ch,ot,amt,fee,yes⟩ HF.out (ev_key7 HEV.out (.inr (.inl rfl))) HW0.out).mono ?_
   intro e' w9 hact
   obtain ⟨rfl,hend⟩:=AppEnd.of_acts HW0.out (by decide) (by decide) HR_w5.out HV_w5.out hact
   have HE9:=hd_ hend
   have HU9:=hd_ (zpn hact HU_w5.out (by decide))
   clear hact hend
   go_wp2_with fail
   go_meet
   case rel => exact ⟨hd_ (by rw [HK.out];exact HE9.out),HU9⟩
 case rest =>
  obtain ⟨hcut,HU_wc⟩:=hcut
  obtain ⟨hcut,HR_wc0,HV_wc0⟩:=hcut.out
  have HR_wc:=hd_ HR_wc0
  have HV_wc:=hd_ HV_wc0
  have hGood:=zhv b ⟨k,key,ch,ot,amt,fee,yes⟩
  have HGood:=hd_ hGood
  clear HR_wc0 HV_wc0 hGood
  obtain ⟨o,ho⟩ : ∃ o,stepS b ⟨k,key,ch,ot,amt,fee,yes⟩ = o:=⟨_,rfl⟩
  rw [ho] at HO HGood hcut
  clear ho
  rcases hcut with ⟨hc0,b',D1,D2,D3,D4,s1,s2,s3,s4,hob,hwk⟩ | ⟨hc0,b',L',D1,D2,D3,D4,s1,s2,s3,s4,hwk⟩
  ·
   have hn9 : b'.n = b.n:=by
    rcases HGood.out with ⟨h9,_⟩ | ⟨_,h9⟩
    ·
     exact absurd hc0 h9
    ·
     rw [hob] at h9
     simp only at h9
     split at h9 <;> omega
   obtain ⟨l,hl⟩ : ∃ l,o.l = l:=⟨_,rfl⟩
   rw [hl] at hwk hob
   have HOL:=hd_ hl
   have HOB:=hd_ hob
   have HC0:=hd_ hc0
   have HN9:=hd_ hn9
   have hna9 : 1 ≤ b'.n∧b'.n < 1125899906842624:=by have:=HNN.out;omega
   obtain ⟨n1,n2⟩:=hna9
   clear hl hob hc0 hn9
   cases l with
   | nil =>
    have HW_wc : Hid (Wk 136 w wc w.heap.size X ⟨b'.t,b'.n,b'.w,b'.cs,b'.hs,b'.os⟩ ([] : List Line) 0 D1 D2 D3 D4 s1 s2 s3 s4):=hd_ hwk
    clear hwk
    obtain ⟨a0,a1,a2,a3,a4,a5,a6,a7,af,az⟩:=HW_wc.out.open_
    obtain ⟨R0,R1,R2,R3,R4,R5,-,-⟩:=box6_ HR_wc.out
    obtain ⟨V0,V1,-,-⟩:=box2_ HV_wc.out
    obtain ⟨U0,U1,U2,U3,U4,U5,-,-⟩:=box6_ HU_wc.out
    simp only [List.length_nil] at a6
    go_upto_region 31 with fail
    refine nm_ ?_
    intro w21 hw
    obtain ⟨PB,hC⟩ : ∃ C,C = wc.heap.size:=⟨_,rfl⟩
    try rw [← hC]
    have HW_w21 : Hid (Wk 136 w w21 w.heap.size X ⟨b'.t,b'.n,b'.w,b'.cs,b'.hs,b'.os⟩ ([] : List Line) 0 D1 D2 D3 D4 s1 s2 s3 s4):=hd_ (by rw [hw];exact HW_wc.out.alloc _)
    have HR_w21 : Hid (Hx w21 RB #[.int .i64 0,.int .i64 0,.int .i64 0,.slice none 0 0,.slice none 0 0,.slice none 0 0] 39):=hd_ (by rw [hw];exact zqg (gz_ HR_wc.out).1 HR_wc.out)
    have HV_w21 : Hid (Hx w21 RP #[.int .i64 0,.slice none 0 0] 66):=hd_ (by rw [hw];exact zqg (gz_ HV_wc.out).1 HV_wc.out)
    have HU_w21 : Hid (Hx w21 BB (bkC b A1 p1 A2 p2 A3 p3) 39):=hd_ (by rw [hw];exact zqg (gz_ HU_wc.out).1 HU_wc.out)
    clear a0 a1 a2 a3 a4 a5 a6 a7 af az R0 R1 R2 R3 R4 R5 V0 V1 U0 U1 U2 U3 U4 U5
    have HQ_w21 : Hid (Hx w21 PB #[.int .i64 0,.slice none 0 0] 66):=hd_ (by rw [hw,hC];exact zqm rfl)
    have HXQ : Hid (PB ≠ X):=hd_ (by have:=HW_wc.out.lt;omega)
    have HGQ : Hid (w.heap.size ≤ PB):=hd_ (by rw [hC];exact HW_wc.out.ble)
    have HNQR : Hid (RB ≠ PB):=hd_ (by have:=(gz_ HR_wc.out).1;omega)
    have HNRQ : Hid (PB ≠ RB):=hd_ (fun e9 => HNQR.out e9.symm)
    have HNQV : Hid (RP ≠ PB):=hd_ (by have:=(gz_ HV_wc.out).1;omega)
    have HNVQ : Hid (PB ≠ RP):=hd_ (fun e9 => HNQV.out e9.symm)
    have HNQU : Hid (BB ≠ PB):=hd_ (by have:=(gz_ HU_wc.out).1;omega)
    have HNUQ : Hid (PB ≠ BB):=hd_ (fun e9 => HNQU.out e9.symm)
    clear hw hC
    obtain ⟨a0,a1,a2,a3,a4,a5,a6,a7,af,az⟩:=HW_w21.out.open_
    obtain ⟨R0,R1,R2,R3,R4,R5,-,-⟩:=box6_ HR_w21.out
    obtain ⟨V0,V1,-,-⟩:=box2_ HV_w21.out
    obtain ⟨U0,U1,U2,U3,U4,U5,-,-⟩:=box6_ HU_w21.out
    obtain ⟨Q0,Q1,-,-⟩:=box2_ HQ_w21.out
    simp only [List.length_nil] at a6
    go_wp2_with fail
    refine zqw (fun w' => kqiiissss w' X b'.t b'.n b'.w D1 b'.cs.length s1 D2 b'.hs.length s2 D3 b'.os.length s3 D4 (([] : List Line).length) s4 (kqis_ w' PB 0 none 0 0)) [yF 0 135,yF 1 136,yF 2 137,yF 3 138,yF 4 139,yN 5,yN 6,yF 7 6] (by kernel_rfl) (by kernel_rfl) (by kernel_rfl) ⟨a0,a1,a2,a3,a4,a5,a6,Q0,Q1⟩ (fun hHeld => ?_)
    obtain ⟨w22,hwd⟩ : ∃ wd,w21.drew = wd:=⟨_,rfl⟩
    have HW_w22 : Hid (Wk 136 w w22 w.heap.size X ⟨b'.t,b'.n,b'.w,b'.cs,b'.hs,b'.os⟩ ([] : List Line) 0 D1 D2 D3 D4 s1 s2 s3 s4):=hd_ (by rw [← hwd];exact HW_w21.out.drew)
    have HR_w22 : Hid (Hx w22 RB #[.int .i64 0,.int .i64 0,.int .i64 0,.slice none 0 0,.slice none 0 0,.slice none 0 0] 39):=hd_ (by rw [← hwd];exact zqk HR_w21.out)
    have HV_w22 : Hid (Hx w22 RP #[.int .i64 0,.slice none 0 0] 66):=hd_ (by rw [← hwd];exact zqk HV_w21.out)
    have HU_w22 : Hid (Hx w22 BB (bkC b A1 p1 A2 p2 A3 p3) 39):=hd_ (by rw [← hwd];exact zqk HU_w21.out)
    have HQ_w22 : Hid (Hx w22 PB #[.int .i64 0,.slice none 0 0] 66):=hd_ (by rw [← hwd];exact zqk HQ_w21.out)
    clear a0 a1 a2 a3 a4 a5 a6 a7 af az R0 R1 R2 R3 R4 R5 V0 V1 U0 U1 U2 U3 U4 U5 Q0 Q1
    rw [hwd] at hHeld ⊢
    clear hwd
    obtain ⟨a0,a1,a2,a3,a4,a5,a6,a7,af,az⟩:=HW_w22.out.open_
    obtain ⟨R0,R1,R2,R3,R4,R5,-,-⟩:=box6_ HR_w22.out
    obtain ⟨V0,V1,-,-⟩:=box2_ HV_w22.out
    obtain ⟨U0,U1,U2,U3,U4,U5,-,-⟩:=box6_ HU_w22.out
    obtain ⟨Q0,Q1,-,-⟩:=box2_ HQ_w22.out
    refine tk_ ?_
    have cf9:=zqo HR_w22.out
    refine Sq.step rfl (by rfl) (fun K hK => ?_)
    go_simp
    first | refine zjc (fun w23 hw => ?_) | refine zka (fun w23 hw => ?_) | refine zjs (fun w23 hw => ?_)
    have hg9 : w22.grownBy w23 (some RB):=by rw [hw];exact zqh (zqh (zqh (zqh (zqh (zqh (World.grownBy.refl w22 (some RB)) _ _) _ _) _ _) _ _) _ _) _ _
    have HW_w23 : Hid (Wk 136 w w23 w.heap.size X ⟨b'.t,b'.n,b'.w,b'.cs,b'.hs,b'.os⟩ ([] : List Line) 0 D1 D2 D3 D4 s1 s2 s3 s4):=hd_ (HW_w22.out.aside2 HR_w22.out HGR.out HGR.out (by decide) (by decide) (by decide) (by decide) (by decide) hg9)
    have HV_w23 : Hid (Hx w23 RP #[.int .i64 0,.slice none 0 0] 66):=hd_ (zqd hg9 (fun e9 => HNRV.out (Option.some.inj e9)) HV_w22.out)
    have HU_w23 : Hid (Hx w23 BB (bkC b A1 p1 A2 p2 A3 p3) 39):=hd_ (zqd hg9 (fun e9 => HNRU.out (Option.some.inj e9)) HU_w22.out)
    have HQ_w23 : Hid (Hx w23 PB #[.int .i64 0,.slice none 0 0] 66):=hd_ (zqd hg9 (fun e9 => HNRQ.out (Option.some.inj e9)) HQ_w22.out)
    have HR_w23 : Hid (Hx w23 RB (bkC b' D1 s1 D2 s2 D3 s3) 39):=hd_ (by rw [hw];exact zqa (zqa (zqa (zqa (zqa (zqa (HR_w22.out)))))))
    clear hw hg9 cf9 a0 a1 a2 a3 a4 a5 a6 a7 af az R0 R1 R2 R3 R4 R5 V0 V1 U0 U1 U2 U3 U4 U5 Q0 Q1
    obtain ⟨a0,a1,a2,a3,a4,a5,a6,a7,af,az⟩:=HW_w23.out.open_
    obtain ⟨R0,R1,R2,R3,R4,R5,-,-⟩:=box6_ HR_w23.out
    obtain ⟨V0,V1,-,-⟩:=box2_ HV_w23.out
    obtain ⟨U0,U1,U2,U3,U4,U5,-,-⟩:=box6_ HU_w23.out
    obtain ⟨Q0,Q1,-,-⟩:=box2_ HQ_w23.out
    go_simp
    refine hK.out _ _ ⟨a0,a1,a2,a3,a4,a5,a6,Q0,Q1⟩ (fun hHeld => ?_)
    clear hK K
    refine tk_ ?_
    have cf9:=zqo HV_w23.out
    refine Sq.step rfl (by rfl) (fun K hK => ?_)
    go_simp
    first | refine zjc (fun w24 hw => ?_) | refine zka (fun w24 hw => ?_) | refine zjs (fun w24 hw => ?_)
    have hg9 : w23.grownBy w24 (some RP):=by rw [hw];exact zqh (zqh (World.grownBy.refl w23 (some RP)) _ _) _ _
    have HW_w24 : Hid (Wk 136 w w24 w.heap.size X ⟨b'.t,b'.n,b'.w,b'.cs,b'.hs,b'.os⟩ ([] : List Line) 0 D1 D2 D3 D4 s1 s2 s3 s4):=hd_ (HW_w23.out.aside2 HV_w23.out HGV.out HGV.out (by decide) (by decide) (by decide) (by decide) (by decide) hg9)
    have HR_w24 : Hid (Hx w24 RB (bkC b' D1 s1 D2 s2 D3 s3) 39):=hd_ (zqd hg9 (fun e9 => HNVR.out (Option.some.inj e9)) HR_w23.out)
    have HU_w24 : Hid (Hx w24 BB (bkC b A1 p1 A2 p2 A3 p3) 39):=hd_ (zqd hg9 (fun e9 => HNVU.out (Option.some.inj e9)) HU_w23.out)
    have HQ_w24 : Hid (Hx w24 PB #[.int .i64 0,.slice none 0 0] 66):=hd_ (zqd hg9 (fun e9 => HNVQ.out (Option.some.inj e9)) HQ_w23.out)
    have HV_w24 : Hid (Hx w24 RP #[.int .i64 0,.slice none 0 0] 66):=hd_ (by rw [hw];exact zqa (zqa (HV_w23.out)))
    clear hw hg9 cf9 a0 a1 a2 a3 a4 a5 a6 a7 af az R0 R1 R2 R3 R4 R5 V0 V1 U0 U1 U2 U3 U4 U5 Q0 Q1
    obtain ⟨a0,a1,a2,a3,a4,a5,a6,a7,af,az⟩:=HW_w24.out.open_
    obtain ⟨R0,R1,R2,R3,R4,R5,-,-⟩:=box6_ HR_w24.out
    obtain ⟨V0,V1,-,-⟩:=box2_ HV_w24.out
    obtain ⟨U0,U1,U2,U3,U4,U5,-,-⟩:=box6_ HU_w24.out
    obtain ⟨Q0,Q1,-,-⟩:=box2_ HQ_w24.out
    go_simp
    refine hK.out _ _ ⟨a0,a1,a2,a3,a4,a5,a6,Q0,Q1⟩ (fun hHeld => ?_)
    clear hK K
    refine tk_ ?_
    refine Sq.done (NoPanic.normal ?_)
    go_wp2_with fail
    refine bodyPost_ret (v:=.tuple #[.agg #[.int .i64 b'.t,.int .i64 b'.n,.int .i64 b'.w,.slice D1 b'.cs.length s1,.slice D2 b'.hs.length s2,.slice D3 b'.os.length s3],.agg #[.int .i64 0,.slice none 0 0],.int .i64 0]) (by simp [results,Tryz.results44,go_sem, *]) rfl ?_
    rw [HO.out]
    have hob2 : b' = o.b:=by rw [HOB.out];rfl
    have hol2 : ([] : List Line) = o.l:=HOL.out.symm
    exact ⟨b',[],0,D1,D2,D3,none,s1,s2,s3,0,by rw [HC0.out];rfl,HW_w24.out.o,Ow.nil_,HW_w24.out.b,hob2,hol2,by rw [if_pos hol2.symm]⟩
   | cons l0 ls =>
    obtain ⟨l,hl⟩ : ∃ l,l0 :: ls = l:=⟨_,rfl⟩
    have hlen : 0 < l.length:=by rw [← hl];simp
    have hne : l ≠ []:=by rw [← hl];simp
    rw [hl] at HOL HOB hwk
    have HNE:=hd_ hne
    clear hl hne
    have HW_wc : Hid (Wk 136 w wc w.heap.size X ⟨b'.t,b'.n,b'.w,b'.cs,b'.hs,b'.os⟩ l 0 D1 D2 D3 D4 s1 s2 s3 s4):=hd_ hwk
    clear hwk
    obtain ⟨a0,a1,a2,a3,a4,a5,a6,a7,af,az⟩:=HW_wc.out.open_
    obtain ⟨R0,R1,R2,R3,R4,R5,-,-⟩:=box6_ HR_wc.out
    obtain ⟨V0,V1,-,-⟩:=box2_ HV_wc.out
    obtain ⟨U0,U1,U2,U3,U4,U5,-,-⟩:=box6_ HU_wc.out
    go_upto_region 31 with fail
    refine nm_ ?_
    intro w21 hw
    obtain ⟨PB,hC⟩ : ∃ C,C = wc.heap.size:=⟨_,rfl⟩
    try rw [← hC]
    have HW_w21 : Hid (Wk 136 w w21 w.heap.size X ⟨b'.t,b'.n,b'.w,b'.cs,b'.hs,b'.os⟩ l 0 D1 D2 D3 D4 s1 s2 s3 s4):=hd_ (by rw [hw];exact HW_wc.out.alloc _)
    have HR_w21 : Hid (Hx w21 RB #[.int .i64 0,.int .i64 0,.int .i64 0,.slice none 0 0,.slice none 0 0,.slice none 0 0] 39):=hd_ (by rw [hw];exact zqg (gz_ HR_wc.out).1 HR_wc.out)
    have HV_w21 : Hid (Hx w21 RP #[.int .i64 0,.slice none 0 0] 66):=hd_ (by rw [hw];exact zqg (gz_ HV_wc.out).1 HV_wc.out)
    have HU_w21 : Hid (Hx w21 BB (bkC b A1 p1 A2 p2 A3 p3) 39):=hd_ (by rw [hw];exact zqg (gz_ HU_wc.out).1 HU_wc.out)
    clear a0 a1 a2 a3 a4 a5 a6 a7 af az R0 R1 R2 R3 R4 R5 V0 V1 U0 U1 U2 U3 U4 U5
    have HQ_w21 : Hid (Hx w21 PB #[.int .i64 0,.slice none 0 0] 66):=hd_ (by rw [hw,hC];exact zqm rfl)
    have HXQ : Hid (PB ≠ X):=hd_ (by have:=HW_wc.out.lt;omega)
    have HGQ : Hid (w.heap.size ≤ PB):=hd_ (by rw [hC];exact HW_wc.out.ble)
    have HNQR : Hid (RB ≠ PB):=hd_ (by have:=(gz_ HR_wc.out).1;omega)
    have HNRQ : Hid (PB ≠ RB):=hd_ (fun e9 => HNQR.out e9.symm)
    have HNQV : Hid (RP ≠ PB):=hd_ (by have:=(gz_ HV_wc.out).1;omega)
    have HNVQ : Hid (PB ≠ RP):=hd_ (fun e9 => HNQV.out e9.symm)
    have HNQU : Hid (BB ≠ PB):=hd_ (by have:=(gz_ HU_wc.out).1;omega)
    have HNUQ : Hid (PB ≠ BB):=hd_ (fun e9 => HNQU.out e9.symm)
    clear hw hC
    obtain ⟨a0,a1,a2,a3,a4,a5,a6,a7,af,az⟩:=HW_w21.out.open_
    obtain ⟨R0,R1,R2,R3,R4,R5,-,-⟩:=box6_ HR_w21.out
    obtain ⟨V0,V1,-,-⟩:=box2_ HV_w21.out
    obtain ⟨U0,U1,U2,U3,U4,U5,-,-⟩:=box6_ HU_w21.out
    obtain ⟨Q0,Q1,-,-⟩:=box2_ HQ_w21.out
    have tl : decide ((0 : Int) < (l.length : Int)) = true:=decide_eq_true (by omega)
    have tl2 : decide (0 < l.length) = true:=decide_eq_true hlen
    go_wp2_with fail
    clear tl tl2
    refine zxb (fun w' => kqiiissss w' X b'.t b'.n b'.w D1 b'.cs.length s1 D2 b'.hs.length s2 D3 b'.os.length s3 D4 l.length s4 (kqiiisss w' RB 0 0 0 none 0 0 none 0 0 none 0 0 (kqis w' RP 0 none 0 0 (kqiiisss w' BB b.t b.n b.w A1 b.cs.length p1 A2 b.hs.length p2 A3 b.os.length p3 (kqis_ w' PB 0 none 0 0))))) [yF 0 119,yF 1 120,yF 2 121,yF 3 122,yF 4 123,yF 5 124,yF 6 125] rfl (by kernel_rfl) (by kernel_rfl) (by kernel_rfl) (by kernel_rfl) (by kernel_rfl) (by kernel_rfl) ⟨a0,a1,a2,a3,a4,a5,a6,R0,R1,R2,R3,R4,R5,V0,V1,U0,U1,U2,U3,U4,U5,Q0,Q1⟩ (fun hHeld => ?_)
    obtain ⟨w22,hwd⟩ : ∃ wd,w21.drew = wd:=⟨_,rfl⟩
    have HW_w22 : Hid (Wk 136 w w22 w.heap.size X ⟨b'.t,b'.n,b'.w,b'.cs,b'.hs,b'.os⟩ l 0 D1 D2 D3 D4 s1 s2 s3 s4):=hd_ (by rw [← hwd];exact HW_w21.out.drew)
    have HR_w22 : Hid (Hx w22 RB #[.int .i64 0,.int .i64 0,.int .i64 0,.slice none 0 0,.slice none 0 0,.slice none 0 0] 39):=hd_ (by rw [← hwd];exact zqk HR_w21.out)
    have HV_w22 : Hid (Hx w22 RP #[.int .i64 0,.slice none 0 0] 66):=hd_ (by rw [← hwd];exact zqk HV_w21.out)
    have HU_w22 : Hid (Hx w22 BB (bkC b A1 p1 A2 p2 A3 p3) 39):=hd_ (by rw [← hwd];exact zqk HU_w21.out)
    have HQ_w22 : Hid (Hx w22 PB #[.int .i64 0,.slice none 0 0] 66):=hd_ (by rw [← hwd];exact zqk HQ_w21.out)
    clear a0 a1 a2 a3 a4 a5 a6 a7 af az R0 R1 R2 R3 R4 R5 V0 V1 U0 U1 U2 U3 U4 U5 Q0 Q1
    rw [hwd] at hHeld ⊢
    clear hwd
    obtain ⟨a0,a1,a2,a3,a4,a5,a6,a7,af,az⟩:=HW_w22.out.open_
    obtain ⟨R0,R1,R2,R3,R4,R5,-,-⟩:=box6_ HR_w22.out
    obtain ⟨V0,V1,-,-⟩:=box2_ HV_w22.out
    obtain ⟨U0,U1,U2,U3,U4,U5,-,-⟩:=box6_ HU_w22.out
    obtain ⟨Q0,Q1,-,-⟩:=box2_ HQ_w22.out
    refine tk_ ?_
    have cf9:=zqo HQ_w22.out
    refine Sq.done ?_
    intro KK hKK
    go_simp
    refine hKK _ _ (NoPanic.normal ?_)
    first | refine zjc (fun w23 hw => ?_) | refine zka (fun w23 hw => ?_) | refine zjs (fun w23 hw => ?_)
    have hg9 : w22.grownBy w23 (some PB):=by rw [hw];exact zqh (zqh (World.grownBy.refl w22 (some PB)) _ _) _ _
    have HW_w23 : Hid (Wk 136 w w23 w.heap.size X ⟨b'.t,b'.n,b'.w,b'.cs,b'.hs,b'.os⟩ l 0 D1 D2 D3 D4 s1 s2 s3 s4):=hd_ (HW_w22.out.aside2 HQ_w22.out HGQ.out HGQ.out (by decide) (by decide) (by decide) (by decide) (by decide) hg9)
    have HR_w23 : Hid (Hx w23 RB #[.int .i64 0,.int .i64 0,.int .i64 0,.slice none 0 0,.slice none 0 0,.slice none 0 0] 39):=hd_ (zqd hg9 (fun e9 => HNQR.out (Option.some.inj e9)) HR_w22.out)
    have HV_w23 : Hid (Hx w23 RP #[.int .i64 0,.slice none 0 0] 66):=hd_ (zqd hg9 (fun e9 => HNQV.out (Option.some.inj e9)) HV_w22.out)
    have HU_w23 : Hid (Hx w23 BB (bkC b A1 p1 A2 p2 A3 p3) 39):=hd_ (zqd hg9 (fun e9 => HNQU.out (Option.some.inj e9)) HU_w22.out)
    have HQ_w23 : Hid (Hx w23 PB #[.int .i64 b.n,.slice D4 l.length s4] 66):=hd_ (by rw [hw];exact zqa (zqa (HQ_w22.out)))
    clear hw hg9 a0 a1 a2 a3 a4 a5 a6 a7 af az R0 R1 R2 R3 R4 R5 V0 V1 U0 U1 U2 U3 U4 U5 Q0 Q1
    obtain ⟨a0,a1,a2,a3,a4,a5,a6,a7,af,az⟩:=HW_w23.out.open_
    obtain ⟨R0,R1,R2,R3,R4,R5,-,-⟩:=box6_ HR_w23.out
    obtain ⟨V0,V1,-,-⟩:=box2_ HV_w23.out
    obtain ⟨U0,U1,U2,U3,U4,U5,-,-⟩:=box6_ HU_w23.out
    obtain ⟨Q0,Q1,-,-⟩:=box2_ HQ_w23.out
    clear cf9
    have wsn : IntKind.i64.wrap (b'.n + 1) = b'.n + 1:=IntWalk.i64_in _ ⟨by omega,by omega⟩
    go_wp2_with fail
    refine nm_ ?_
    intro w24 hw
    have HW_w24 : Hid (Wk 136 w w24 w.heap.size X ⟨b'.t,b'.n + 1,b'.w,b'.cs,b'.hs,b'.os⟩ l 0 D1 D2 D3 D4 s1 s2 s3 s4):=hd_ (by rw [hw];exact HW_w23.out.setNext (by decide) (by decide) (by decide) (by decide) _)
    have HR_w24 : Hid (Hx w24 RB #[.int .i64 0,.int .i64 0,.int .i64 0,.slice none 0 0,.slice none 0 0,.slice none 0 0] 39):=hd_ (by rw [hw];exact zqb HXR.out HR_w23.out)
    have HV_w24 : Hid (Hx w24 RP #[.int .i64 0,.slice none 0 0] 66):=hd_ (by rw [hw];exact zqb HXV.out HV_w23.out)
    have HU_w24 : Hid (Hx w24 BB (bkC b A1 p1 A2 p2 A3 p3) 39):=hd_ (by rw [hw];exact zqb HXU.out HU_w23.out)
    have HQ_w24 : Hid (Hx w24 PB #[.int .i64 b.n,.slice D4 l.length s4] 66):=hd_ (by rw [hw];exact zqb HXQ.out HQ_w23.out)
    clear hw
    clear a0 a1 a2 a3 a4 a5 a6 a7 af az R0 R1 R2 R3 R4 R5 V0 V1 U0 U1 U2 U3 U4 U5 Q0 Q1
    obtain ⟨a0,a1,a2,a3,a4,a5,a6,a7,af,az⟩:=HW_w24.out.open_
    obtain ⟨R0,R1,R2,R3,R4,R5,-,-⟩:=box6_ HR_w24.out
    obtain ⟨V0,V1,-,-⟩:=box2_ HV_w24.out
    obtain ⟨U0,U1,U2,U3,U4,U5,-,-⟩:=box6_ HU_w24.out
    obtain ⟨Q0,Q1,-,-⟩:=box2_ HQ_w24.out
    refine zqw (fun w' => kqiiissss w' X b'.t (b'.n + 1) b'.w D1 b'.cs.length s1 D2 b'.hs.length s2 D3 b'.os.length s3 D4 l.length s4 (kqis_ w' PB b.n D4 l.length s4)) [yF 0 135,yF 1 136,yF 2 137,yF 3 138,yF 4 139,yN 5,yN 6,yF 7 6] (by kernel_rfl) (by kernel_rfl) (by kernel_rfl) ⟨a0,a1,a2,a3,a4,a5,a6,Q0,Q1⟩ (fun hHeld => ?_)
    obtain ⟨w25,hwd⟩ : ∃ wd,w24.drew = wd:=⟨_,rfl⟩
    have HW_w25 : Hid (Wk 136 w w25 w.heap.size X ⟨b'.t,b'.n + 1,b'.w,b'.cs,b'.hs,b'.os⟩ l 0 D1 D2 D3 D4 s1 s2 s3 s4):=hd_ (by rw [← hwd];exact HW_w24.out.drew)
    have HR_w25 : Hid (Hx w25 RB #[.int .i64 0,.int .i64 0,.int .i64 0,.slice none 0 0,.slice none 0 0,.slice none 0 0] 39):=hd_ (by rw [← hwd];exact zqk HR_w24.out)
    have HV_w25 : Hid (Hx w25 RP #[.int .i64 0,.slice none 0 0] 66):=hd_ (by rw [← hwd];exact zqk HV_w24.out)
    have HU_w25 : Hid (Hx w25 BB (bkC b A1 p1 A2 p2 A3 p3) 39):=hd_ (by rw [← hwd];exact zqk HU_w24.out)
    have HQ_w25 : Hid (Hx w25 PB #[.int .i64 b.n,.slice D4 l.length s4] 66):=hd_ (by rw [← hwd];exact zqk HQ_w24.out)
    clear a0 a1 a2 a3 a4 a5 a6 a7 af az R0 R1 R2 R3 R4 R5 V0 V1 U0 U1 U2 U3 U4 U5 Q0 Q1
    rw [hwd] at hHeld ⊢
    clear hwd
    obtain ⟨a0,a1,a2,a3,a4,a5,a6,a7,af,az⟩:=HW_w25.out.open_
    obtain ⟨R0,R1,R2,R3,R4,R5,-,-⟩:=box6_ HR_w25.out
    obtain ⟨V0,V1,-,-⟩:=box2_ HV_w25.out
    obtain ⟨U0,U1,U2,U3,U4,U5,-,-⟩:=box6_ HU_w25.out
    obtain ⟨Q0,Q1,-,-⟩:=box2_ HQ_w25.out
    refine tk_ ?_
    have cf9:=zqo HR_w25.out
    refine Sq.step rfl (by rfl) (fun K hK => ?_)
    go_simp
    first | refine zjc (fun w26 hw => ?_) | refine zka (fun w26 hw => ?_) | refine zjs (fun w26 hw => ?_)
    have hg9 : w25.grownBy w26 (some RB):=by rw [hw];exact zqh (zqh (zqh (zqh (zqh (zqh (World.grownBy.refl w25 (some RB)) _ _) _ _) _ _) _ _) _ _) _ _
    have HW_w26 : Hid (Wk 136 w w26 w.heap.size X ⟨b'.t,b'.n + 1,b'.w,b'.cs,b'.hs,b'.os⟩ l 0 D1 D2 D3 D4 s1 s2 s3 s4):=hd_ (HW_w25.out.aside2 HR_w25.out HGR.out HGR.out (by decide) (by decide) (by decide) (by decide) (by decide) hg9)
    have HV_w26 : Hid (Hx w26 RP #[.int .i64 0,.slice none 0 0] 66):=hd_ (zqd hg9 (fun e9 => HNRV.out (Option.some.inj e9)) HV_w25.out)
    have HU_w26 : Hid (Hx w26 BB (bkC b A1 p1 A2 p2 A3 p3) 39):=hd_ (zqd hg9 (fun e9 => HNRU.out (Option.some.inj e9)) HU_w25.out)
    have HQ_w26 : Hid (Hx w26 PB #[.int .i64 b.n,.slice D4 l.length s4] 66):=hd_ (zqd hg9 (fun e9 => HNRQ.out (Option.some.inj e9)) HQ_w25.out)
    have HR_w26 : Hid (Hx w26 RB #[.int .i64 b'.t,.int .i64 (b'.n + 1),.int .i64 b'.w,.slice D1 b'.cs.length s1,.slice D2 b'.hs.length s2,.slice D3 b'.os.length s3] 39):=hd_ (by rw [hw];exact zqa (zqa (zqa (zqa (zqa (zqa (HR_w25.out)))))))
    clear hw hg9 cf9 a0 a1 a2 a3 a4 a5 a6 a7 af az R0 R1 R2 R3 R4 R5 V0 V1 U0 U1 U2 U3 U4 U5 Q0 Q1
    obtain ⟨a0,a1,a2,a3,a4,a5,a6,a7,af,az⟩:=HW_w26.out.open_
    obtain ⟨R0,R1,R2,R3,R4,R5,-,-⟩:=box6_ HR_w26.out
    obtain ⟨V0,V1,-,-⟩:=box2_ HV_w26.out
    obtain ⟨U0,U1,U2,U3,U4,U5,-,-⟩:=box6_ HU_w26.out
    obtain ⟨Q0,Q1,-,-⟩:=box2_ HQ_w26.out
    go_simp
    refine hK.out _ _ ⟨a0,a1,a2,a3,a4,a5,a6,Q0,Q1⟩ (fun hHeld => ?_)
    clear hK K
    refine tk_ ?_
    have cf9:=zqo HV_w26.out
    refine Sq.step rfl (by rfl) (fun K hK => ?_)
    go_simp
    first | refine zjc (fun w27 hw => ?_) | refine zka (fun w27 hw => ?_) | refine zjs (fun w27 hw => ?_)
    have hg9 : w26.grownBy w27 (some RP):=by rw [hw];exact zqh (zqh (World.grownBy.refl w26 (some RP)) _ _) _ _
    have HW_w27 : Hid (Wk 136 w w27 w.heap.size X ⟨b'.t,b'.n + 1,b'.w,b'.cs,b'.hs,b'.os⟩ l 0 D1 D2 D3 D4 s1 s2 s3 s4):=hd_ (HW_w26.out.aside2 HV_w26.out HGV.out HGV.out (by decide) (by decide) (by decide) (by decide) (by decide) hg9)
    have HR_w27 : Hid (Hx w27 RB #[.int .i64 b'.t,.int .i64 (b'.n + 1),.int .i64 b'.w,.slice D1 b'.cs.length s1,.slice D2 b'.hs.length s2,.slice D3 b'.os.length s3] 39):=hd_ (zqd hg9 (fun e9 => HNVR.out (Option.some.inj e9)) HR_w26.out)
    have HU_w27 : Hid (Hx w27 BB (bkC b A1 p1 A2 p2 A3 p3) 39):=hd_ (zqd hg9 (fun e9 => HNVU.out (Option.some.inj e9)) HU_w26.out)
    have HQ_w27 : Hid (Hx w27 PB #[.int .i64 b.n,.slice D4 l.length s4] 66):=hd_ (zqd hg9 (fun e9 => HNVQ.out (Option.some.inj e9)) HQ_w26.out)
    have HV_w27 : Hid (Hx w27 RP #[.int .i64 b.n,.slice D4 l.length s4] 66):=hd_ (by rw [hw];exact zqa (zqa (HV_w26.out)))
    clear hw hg9 cf9 a0 a1 a2 a3 a4 a5 a6 a7 af az R0 R1 R2 R3 R4 R5 V0 V1 U0 U1 U2 U3 U4 U5 Q0 Q1
    obtain ⟨a0,a1,a2,a3,a4,a5,a6,a7,af,az⟩:=HW_w27.out.open_
    obtain ⟨R0,R1,R2,R3,R4,R5,-,-⟩:=box6_ HR_w27.out
    obtain ⟨V0,V1,-,-⟩:=box2_ HV_w27.out
    obtain ⟨U0,U1,U2,U3,U4,U5,-,-⟩:=box6_ HU_w27.out
    obtain ⟨Q0,Q1,-,-⟩:=box2_ HQ_w27.out
    go_simp
    refine hK.out _ _ ⟨a0,a1,a2,a3,a4,a5,a6,Q0,Q1⟩ (fun hHeld => ?_)
    clear hK K
    refine tk_ ?_
    refine Sq.done (NoPanic.normal ?_)
    go_wp2_with fail
    refine bodyPost_ret (v:=.tuple #[.agg #[.int .i64 b'.t,.int .i64 (b'.n + 1),.int .i64 b'.w,.slice D1 b'.cs.length s1,.slice D2 b'.hs.length s2,.slice D3 b'.os.length s3],.agg #[.int .i64 b.n,.slice D4 l.length s4],.int .i64 0]) (by simp [results,Tryz.results44,go_sem, *]) rfl ?_
    rw [HO.out]
    have hob2 : (⟨b'.t,b'.n + 1,b'.w,b'.cs,b'.hs,b'.os⟩ : Bk) = o.b:=by rw [HOB.out,if_neg HNE.out]
    have hol2 : l = o.l:=HOL.out.symm
    exact ⟨⟨b'.t,b'.n + 1,b'.w,b'.cs,b'.hs,b'.os⟩,l,b.n,D1,D2,D3,D4,s1,s2,s3,s4,by rw [HC0.out],HW_w27.out.o,HW_w27.out.l,HW_w27.out.b,hob2,hol2,by rw [← hol2,if_neg HNE.out]⟩
  ·
   have HC0:=hd_ hc0
   have hbad : o = bad o.code:=by
    rcases HGood.out with ⟨_,h9⟩ | ⟨h9,_⟩
    ·
     exact h9
    ·
     exact absurd h9 hc0
   have HO2:=hd_ (HO.out.trans hbad)
   clear hbad
   have tn : (o.code != 0) = true:=by rw [bne_iff_ne];exact HC0.out
   clear HO
   have HO:=HO2
   clear hc0
   obtain ⟨oc,hoc⟩ : ∃ c,o.code = c:=⟨_,rfl⟩
   rw [hoc] at HO tn hwk
   clear hoc HO2
   have HW_wc : Hid (Wk 136 w wc w.heap.size X ⟨b'.t,b'.n,b'.w,b'.cs,b'.hs,b'.os⟩ L' oc D1 D2 D3 D4 s1 s2 s3 s4):=hd_ hwk
   clear hwk
   obtain ⟨a0,a1,a2,a3,a4,a5,a6,a7,af,az⟩:=HW_wc.out.open_
   obtain ⟨R0,R1,R2,R3,R4,R5,-,-⟩:=box6_ HR_wc.out
   obtain ⟨V0,V1,-,-⟩:=box2_ HV_wc.out
   obtain ⟨U0,U1,U2,U3,U4,U5,-,-⟩:=box6_ HU_wc.out
   go_wp2_with fail
   refine zqw (fun w' => kqiiissssi_ w' X b'.t b'.n b'.w D1 b'.cs.length s1 D2 b'.hs.length s2 D3 b'.os.length s3 D4 L'.length s4 oc) [yF 0 107,yF 1 108,yF 2 109,yF 3 110,yF 4 111,yF 5 112,yN 6,yN 7,yF 8 6] (by kernel_rfl) (by kernel_rfl) (by kernel_rfl) ⟨a0,a1,a2,a3,a4,a5,a6,a7⟩ (fun hHeld => ?_)
   obtain ⟨w21,hwd⟩ : ∃ wd,wc.drew = wd:=⟨_,rfl⟩
   have HW_w21 : Hid (Wk 136 w w21 w.heap.size X ⟨b'.t,b'.n,b'.w,b'.cs,b'.hs,b'.os⟩ L' oc D1 D2 D3 D4 s1 s2 s3 s4):=hd_ (by rw [← hwd];exact HW_wc.out.drew)
   have HR_w21 : Hid (Hx w21 RB #[.int .i64 0,.int .i64 0,.int .i64 0,.slice none 0 0,.slice none 0 0,.slice none 0 0] 39):=hd_ (by rw [← hwd];exact zqk HR_wc.out)
   have HV_w21 : Hid (Hx w21 RP #[.int .i64 0,.slice none 0 0] 66):=hd_ (by rw [← hwd];exact zqk HV_wc.out)
   have HU_w21 : Hid (Hx w21 BB (bkC b A1 p1 A2 p2 A3 p3) 39):=hd_ (by rw [← hwd];exact zqk HU_wc.out)
   clear a0 a1 a2 a3 a4 a5 a6 a7 af az R0 R1 R2 R3 R4 R5 V0 V1 U0 U1 U2 U3 U4 U5
   rw [hwd] at hHeld ⊢
   clear hwd
   obtain ⟨a0,a1,a2,a3,a4,a5,a6,a7,af,az⟩:=HW_w21.out.open_
   obtain ⟨R0,R1,R2,R3,R4,R5,-,-⟩:=box6_ HR_w21.out
   obtain ⟨V0,V1,-,-⟩:=box2_ HV_w21.out
   obtain ⟨U0,U1,U2,U3,U4,U5,-,-⟩:=box6_ HU_w21.out
   refine tk_ ?_
   have cf9:=zqo HR_w21.out
   refine Sq.step rfl (by rfl) (fun K hK => ?_)
   go_simp
   first | refine zjc (fun w22 hw => ?_) | refine zka (fun w22 hw => ?_) | refine zjs (fun w22 hw => ?_)
   have hg9 : w21.grownBy w22 (some RB):=by rw [hw];exact zqh (zqh (zqh (zqh (zqh (zqh (World.grownBy.refl w21 (some RB)) _ _) _ _) _ _) _ _) _ _) _ _
   have HW_w22 : Hid (Wk 136 w w22 w.heap.size X ⟨b'.t,b'.n,b'.w,b'.cs,b'.hs,b'.os⟩ L' oc D1 D2 D3 D4 s1 s2 s3 s4):=hd_ (HW_w21.out.aside2 HR_w21.out HGR.out HGR.out (by decide) (by decide) (by decide) (by decide) (by decide) hg9)
   have HV_w22 : Hid (Hx w22 RP #[.int .i64 0,.slice none 0 0] 66):=hd_ (zqd hg9 (fun e9 => HNRV.out (Option.some.inj e9)) HV_w21.out)
   have HU_w22 : Hid (Hx w22 BB (bkC b A1 p1 A2 p2 A3 p3) 39):=hd_ (zqd hg9 (fun e9 => HNRU.out (Option.some.inj e9)) HU_w21.out)
   have HR_w22 : Hid (Hx w22 RB #[.int .i64 0,.int .i64 0,.int .i64 0,.slice none 0 0,.slice none 0 0,.slice none 0 0] 39):=hd_ (by rw [hw];exact zqa (zqa (zqa (zqa (zqa (zqa (HR_w21.out)))))))
   clear hw hg9 cf9 a0 a1 a2 a3 a4 a5 a6 a7 af az R0 R1 R2 R3 R4 R5 V0 V1 U0 U1 U2 U3 U4 U5
   obtain ⟨a0,a1,a2,a3,a4,a5,a6,a7,af,az⟩:=HW_w22.out.open_
   obtain ⟨R0,R1,R2,R3,R4,R5,-,-⟩:=box6_ HR_w22.out
   obtain ⟨V0,V1,-,-⟩:=box2_ HV_w22.out
   obtain ⟨U0,U1,U2,U3,U4,U5,-,-⟩:=box6_ HU_w22.out
   go_simp
   refine hK.out _ _ ⟨a0,a1,a2,a3,a4,a5,a6,a7⟩ (fun hHeld => ?_)
   clear hK K
   refine tk_ ?_
   have cf9:=zqo HV_w22.out
   refine Sq.step rfl (by rfl) (fun K hK => ?_)
   go_simp
   first | refine zjc (fun w23 hw => ?_) | refine zka (fun w23 hw => ?_) | refine zjs (fun w23 hw => ?_)
   have hg9 : w22.grownBy w23 (some RP):=by rw [hw];exact zqh (zqh (World.grownBy.refl w22 (some RP)) _ _) _ _
   have HW_w23 : Hid (Wk 136 w w23 w.heap.size X ⟨b'.t,b'.n,b'.w,b'.cs,b'.hs,b'.os⟩ L' oc D1 D2 D3 D4 s1 s2 s3 s4):=hd_ (HW_w22.out.aside2 HV_w22.out HGV.out HGV.out (by decide) (by decide) (by decide) (by decide) (by decide) hg9)
   have HR_w23 : Hid (Hx w23 RB #[.int .i64 0,.int .i64 0,.int .i64 0,.slice none 0 0,.slice none 0 0,.slice none 0 0] 39):=hd_ (zqd hg9 (fun e9 => HNVR.out (Option.some.inj e9)) HR_w22.out)
   have HU_w23 : Hid (Hx w23 BB (bkC b A1 p1 A2 p2 A3 p3) 39):=hd_ (zqd hg9 (fun e9 => HNVU.out (Option.some.inj e9)) HU_w22.out)
   have HV_w23 : Hid (Hx w23 RP #[.int .i64 0,.slice none 0 0] 66):=hd_ (by rw [hw];exact zqa (zqa (HV_w22.out)))
   clear hw hg9 cf9 a0 a1 a2 a3 a4 a5 a6 a7 af az R0 R1 R2 R3 R4 R5 V0 V1 U0 U1 U2 U3 U4 U5
   obtain ⟨a0,a1,a2,a3,a4,a5,a6,a7,af,az⟩:=HW_w23.out.open_
   obtain ⟨R0,R1,R2,R3,R4,R5,-,-⟩:=box6_ HR_w23.out
   obtain ⟨V0,V1,-,-⟩:=box2_ HV_w23.out
   obtain ⟨U0,U1,U2,U3,U4,U5,-,-⟩:=box6_ HU_w23.out
   go_simp
   refine hK.out _ _ ⟨a0,a1,a2,a3,a4,a5,a6,a7⟩ (fun hHeld => ?_)
   clear hK K
   refine tk_ ?_
   refine Sq.done (NoPanic.normal ?_)
   go_wp2_with fail
   refine bodyPost_ret (v:=.tuple #[.agg #[.int .i64 0,.int .i64 0,.int .i64 0,.slice none 0 0,.slice none 0 0,.slice none 0 0],.agg #[.int .i64 0,.slice none 0 0],.int .i64 oc]) (by simp [results,Tryz.results44,go_sem, *]) rfl ?_
   rw [HO.out]
   exact ⟨bk0,[],0,none,none,none,none,0,0,0,0,rfl,OwB.nil_ _ _ _ _ _,Ow.nil_,HW_w23.out.b,rfl,rfl,rfl⟩
theorem i_Apply7 (b : Bk) (e : Event) (A1 A2 A3 : Option Addr) (p1 p2 p3 : Nat) (w : World) (hlc : b.cs.length ≤ 1048576) (hlh : b.hs.length ≤ 1048576) (hlo : b.os.length ≤ 1048576) (hr : RdBook w w.heap.size A1 b.cs A2 b.hs A3 b.os) (hk7 : e.Kind = 7) :
  Calls Tryz.prog 44 #[.agg #[.int .i64 b.t,.int .i64 b.n,.int .i64 b.w,.slice A1 b.cs.length p1,.slice A2 b.hs.length p2,.slice A3 b.os.length p3],.agg #[.int .i64 e.Kind,.int .i64 e.Key,.int .i64 e.Ch,.int .i64 e.To,.int .i64 e.Amt,.int .i64 e.Fee,.bool e.Yes]] w (ApplyP w (applyS b e) b.n):=by
 obtain ⟨k,key,ch,ot,amt,fee,yes⟩:=e
 cases hv : b.ok && evB ⟨k,key,ch,ot,amt,fee,yes⟩
 ·
  exact i_A7_no b k key ch ot amt fee yes A1 A2 A3 p1 p2 p3 w hlc hlh hlo hr hv
 ·
  cases ho : ovB b ⟨k,key,ch,ot,amt,fee,yes⟩
  ·
   exact i_A7_yes b k key ch ot amt fee yes A1 A2 A3 p1 p2 p3 w hlc hlh hlo hr hv ho hk7
  ·
   exact i_A7_ov b k key ch ot amt fee yes A1 A2 A3 p1 p2 p3 w hlc hlh hlo hr hv ho
end Go.Proofs.YtdbmkfmenfcbiaaGreat
