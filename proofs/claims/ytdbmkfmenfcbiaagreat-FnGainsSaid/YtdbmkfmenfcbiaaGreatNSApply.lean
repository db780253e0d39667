/- An event is applied: the reference's walk. -/
import Derived.Test.YtdbmkfmenfcbiaaGreatRows
import Derived.Test.YtdbmkfmenfcbiaaGreatNM4
import Derived.Test.YtdbmkfmenfcbiaaGreatNBookOs
import Derived.Test.YtdbmkfmenfcbiaaGreatNM2
import Derived.Deep.CutRange
namespace Go.Proofs.YtdbmkfmenfcbiaaGreat
open Go.RowKit Go.Deep
set_option maxRecDepth 100000 in
set_option maxHeartbeats 4000000 in
theorem s_Apply_no (b : Bk) (k key ch ot amt fee : Int) (yes : Bool) (A1 A2 A3 : Option Addr) (p1 p2 p3 : Nat) (w : World) (hlc : b.cs.length ≤ 1048576) (hlh : b.hs.length ≤ 1048576) (hlo : b.os.length ≤ 1048576) (hr : RdBook w w.heap.size A1 b.cs A2 b.hs A3 b.os) (hno : (b.ok && evB ⟨k,key,ch,ot,amt,fee,yes⟩) = false) :
  Calls Tryz.prog 29 #[.agg #[.int .i64 b.t,.int .i64 b.n,.int .i64 b.w,.slice A1 b.cs.length p1,.slice A2 b.hs.length p2,.slice A3 b.os.length p3],.agg #[.int .i64 k,.int .i64 key,.int .i64 ch,.int .i64 ot,.int .i64 amt,.int .i64 fee,.bool yes]] w (ApplyP w (applyS b ⟨k,key,ch,ot,amt,fee,yes⟩) b.n):=by
 have HRd:=hd_ hr
 clear hr
 have HO:=hd_ (zvx hno)
 cases hok : b.ok
 ·
  have HOK : Hid (bookB b.t b.n b.w b.cs b.hs b.os = false):=hd_ hok
  clear hno hok
  go_enter Tryz.func29,Tryz.ntmps29
  go_wp2_with fail
  obtain ⟨EB,hEB⟩ : ∃ v,v = w.heap.size + 1:=⟨_,rfl⟩
  rw [← hEB]
  obtain ⟨RB,hRB⟩ : ∃ v,v = EB + 1:=⟨_,rfl⟩
  try rw [← hRB]
  obtain ⟨RP,hRP⟩ : ∃ v,v = RB + 1:=⟨_,rfl⟩
  try rw [← hRP]
  obtain ⟨BB,hBB⟩ : ∃ v,v = w.heap.size:=⟨_,rfl⟩
  rw [← hBB]
  refine zju (fun w1 hw => ?_)
  have HU1 : Hid (Hx w1 BB (bkC b A1 p1 A2 p2 A3 p3) 39):=hd_ (by rw [hw,hBB];exact hp_)
  have HE1 : Hid (Hx w1 EB (qaiiiiiib k key ch ot amt fee yes) 64):=hd_ (by rw [hw,hEB];exact hp_)
  have HR1 : Hid (Hx w1 RB (qaiiisss 0 0 0 none 0 0 none 0 0 none 0 0) 39):=hd_ (by rw [hw,hRB,hEB];exact hp_)
  have HV1 : Hid (Hx w1 RP #[.int .i64 0,.slice none 0 0] 66):=hd_ (by rw [hw,hRP,hRB,hEB];exact hp_)
  have HB1 : Hid (Below w.heap.size w w1):=hd_ (by rw [hw];exact bl_)
  have HGU : Hid (w.heap.size ≤ BB):=hd_ (by omega)
  have HGE : Hid (w.heap.size ≤ EB):=hd_ (by omega)
  have HGR : Hid (w.heap.size ≤ RB):=hd_ (by omega)
  have HGV : Hid (w.heap.size ≤ RP):=hd_ (by omega)
  have HNUE : Hid (EB ≠ BB):=hd_ (by omega)
  have HNUR : Hid (RB ≠ BB):=hd_ (by omega)
  have HNUV : Hid (RP ≠ BB):=hd_ (by omega)
  have HNEU : Hid (BB ≠ EB):=hd_ (by omega)
  have HNER : Hid (RB ≠ EB):=hd_ (by omega)
  have HNEV : Hid (RP ≠ EB):=hd_ (by omega)
  have HNRU : Hid (BB ≠ RB):=hd_ (by omega)
  have HNRE : Hid (EB ≠ RB):=hd_ (by omega)
  have HNRV : Hid (RP ≠ RB):=hd_ (by omega)
  have HNVU : Hid (BB ≠ RP):=hd_ (by omega)
  have HNVE : Hid (EB ≠ RP):=hd_ (by omega)
  have HNVR : Hid (RB ≠ RP):=hd_ (by omega)
  have hRPl : Hid (RP < w1.heap.size∧w.heap.size ≤ w1.heap.size):=hd_ ⟨(gz_ HV1).1,HB1.out.size⟩
  clear hw hBB hEB hRB hRP
  obtain ⟨U,-,Uz⟩:=bc6_ HU1
  obtain ⟨E,-,Ez⟩:=bc7_ HE1
  obtain ⟨R0,R1,R2,R3,R4,R5,-,Rz⟩:=box6_ HR1
  obtain ⟨V0,V1,-,Vz⟩:=box2_ HV1
  refine (zpm b.t b.n b.w b.cs b.hs b.os _ _ _ _ _ _ _ hlc hlh hlo ((HRd.out.below HB1).more HB1.out.size)).mono ?_
  rintro e' w2 ⟨rfl,hb⟩
  rw [HOK.out]
  have HU2:=hb_ hb HU1
  have HE2:=hb_ hb HE1
  have HR2:=hb_ hb HR1
  have HV2:=hb_ hb HV1
  have HB2:=hd_ (HB1.out.trans (hb.mono HB1.out.size))
  clear hb
  clear U E R0 R1 R2 R3 R4 R5 V0 V1 Uz Ez Rz Vz
  obtain ⟨U,-,Uz⟩:=bc6_ HU2
  obtain ⟨E,-,Ez⟩:=bc7_ HE2
  obtain ⟨R0,R1,R2,R3,R4,R5,-,Rz⟩:=box6_ HR2
  obtain ⟨V0,V1,-,Vz⟩:=box2_ HV2
  have fR:=zqm HR2
  have fV:=zqm HV2
  have hn1 : ¬ RB = RP:=HNVR.out
  have hn2 : ¬ RP = RB:=HNRV.out
  go_wp2_with fail
  clear hn1 hn2
  refine nm_ ?_
  intro wz hw
  have hz1 : Hid (Hx wz RB (qaiiisss 0 0 0 none 0 0 none 0 0 none 0 0) 39):=hd_ (by rw [hw];exact zqb HNVR (zqb HNVR (zqa (zqa (zqa (zqa (zqa (zqa (HR2.out)))))))))
  have hz2 : Hid (Hx wz RP #[.int .i64 0,.slice none 0 0] 66):=hd_ (by rw [hw];exact zqa (zqa (zqb HNRV (zqb HNRV (zqb HNRV (zqb HNRV (zqb HNRV (zqb HNRV (HV2.out)))))))))
  have hz3 : Hid (Below w.heap.size w wz):=hd_ (by rw [hw];exact Below.setCell (Below.setCell (Below.setCell (Below.setCell (Below.setCell (Below.setCell (Below.setCell (Below.setCell (HB2.out) HGR.out _) HGR.out _) HGR.out _) HGR.out _) HGR.out _) HGR.out _) HGV.out _) HGV.out _)
  clear hw fR fV
  clear U E R0 R1 R2 R3 R4 R5 V0 V1 Uz Ez Rz Vz
  have R0:=zqc hz1.out 0
  have R1:=zqc hz1.out 1
  have R2:=zqc hz1.out 2
  have R3:=zqc hz1.out 3
  have R4:=zqc hz1.out 4
  have R5:=zqc hz1.out 5
  have V0:=zqc hz2.out 0
  have V1:=zqc hz2.out 1
  simp only [List.getElem?_toArray,List.getElem?_cons_zero,List.getElem?_cons_succ] at R0 R1 R2 R3 R4 R5 V0 V1
  refine bodyPost_ret (v:=.tuple #[.agg #[.int .i64 0,.int .i64 0,.int .i64 0,.slice none 0 0,.slice none 0 0,.slice none 0 0],.agg #[.int .i64 0,.slice none 0 0],.int .i64 1]) (by simp [results,Tryz.results29,go_sem, *]) rfl ?_
  rw [HO.out]
  exact ⟨bk0,[],0,none,none,none,none,0,0,0,0,rfl,OwB.nil_ _ _ _ _ _,Ow.nil_,hz3.out,rfl,rfl,rfl⟩
 have HOK : Hid (bookB b.t b.n b.w b.cs b.hs b.os = true):=hd_ hok
 have HEV : Hid (evB ⟨k,key,ch,ot,amt,fee,yes⟩ = false):=hd_ (by rw [hok,Bool.true_and] at hno;exact hno)
 clear hno hok
 go_enter Tryz.func29,Tryz.ntmps29
 go_wp2_with fail
 obtain ⟨EB,hEB⟩ : ∃ v,v = w.heap.size + 1:=⟨_,rfl⟩
 rw [← hEB]
 obtain ⟨RB,hRB⟩ : ∃ v,v = EB + 1:=⟨_,rfl⟩
 try rw [← hRB]
 obtain ⟨RP,hRP⟩ : ∃ v,v = RB + 1:=⟨_,rfl⟩
 try rw [← hRP]
 obtain ⟨BB,hBB⟩ : ∃ v,v = w.heap.size:=⟨_,rfl⟩
 rw [← hBB]
 refine zju (fun w1 hw => ?_)
 have HU1 : Hid (Hx w1 BB (bkC b A1 p1 A2 p2 A3 p3) 39):=hd_ (by rw [hw,hBB];exact hp_)
 have HE1 : Hid (Hx w1 EB (qaiiiiiib k key ch ot amt fee yes) 64):=hd_ (by rw [hw,hEB];exact hp_)
 have HR1 : Hid (Hx w1 RB (qaiiisss 0 0 0 none 0 0 none 0 0 none 0 0) 39):=hd_ (by rw [hw,hRB,hEB];exact hp_)
 have HV1 : Hid (Hx w1 RP #[.int .i64 0,.slice none 0 0] 66):=hd_ (by rw [hw,hRP,hRB,hEB];exact hp_)
 have HB1 : Hid (Below w.heap.size w w1):=hd_ (by rw [hw];exact bl_)
 have HGU : Hid (w.heap.size ≤ BB):=hd_ (by omega)
 have HGE : Hid (w.heap.size ≤ EB):=hd_ (by omega)
 have HGR : Hid (w.heap.size ≤ RB):=hd_ (by omega)
 have HGV : Hid (w.heap.size ≤ RP):=hd_ (by omega)
 have HNUE : Hid (EB ≠ BB):=hd_ (by omega)
 have HNUR : Hid (RB ≠ BB):=hd_ (by omega)
 have HNUV : Hid (RP ≠ BB):=hd_ (by omega)
 have HNEU : Hid (BB ≠ EB):=hd_ (by omega)
 have HNER : Hid (RB ≠ EB):=hd_ (by omega)
 have HNEV : Hid (RP ≠ EB):=hd_ (by omega)
 have HNRU : Hid (BB ≠ RB):=hd_ (by omega)
 have HNRE : Hid (EB ≠ RB):=hd_ (by omega)
 have HNRV : Hid (RP ≠ RB):=hd_ (by omega)
 have HNVU : Hid (BB ≠ RP):=hd_ (by omega)
 have HNVE : Hid (EB ≠ RP):=hd_ (by omega)
 have HNVR : Hid (RB ≠ RP):=hd_ (by omega)
 have hRPl : Hid (RP < w1.heap.size∧w.heap.size ≤ w1.heap.size):=hd_ ⟨(gz_ HV1).1,HB1.out.size⟩
 clear hw hBB hEB hRB hRP
 obtain ⟨U,-,Uz⟩:=bc6_ HU1
 obtain ⟨E,-,Ez⟩:=bc7_ HE1
 obtain ⟨R0,R1,R2,R3,R4,R5,-,Rz⟩:=box6_ HR1
 obtain ⟨V0,V1,-,Vz⟩:=box2_ HV1
 refine (zpm b.t b.n b.w b.cs b.hs b.os _ _ _ _ _ _ _ hlc hlh hlo ((HRd.out.below HB1).more HB1.out.size)).mono ?_
 rintro e' w2 ⟨rfl,hb⟩
 rw [HOK.out]
 have HU2:=hb_ hb HU1
 have HE2:=hb_ hb HE1
 have HR2:=hb_ hb HR1
 have HV2:=hb_ hb HV1
 have HB2:=hd_ (HB1.out.trans (hb.mono HB1.out.size))
 clear hb
 clear U E R0 R1 R2 R3 R4 R5 V0 V1 Uz Ez Rz Vz
 obtain ⟨U,-,Uz⟩:=bc6_ HU2
 obtain ⟨E,-,Ez⟩:=bc7_ HE2
 obtain ⟨R0,R1,R2,R3,R4,R5,-,Rz⟩:=box6_ HR2
 obtain ⟨V0,V1,-,Vz⟩:=box2_ HV2
 go_wp2_with fail
 refine (zsi ⟨k,key,ch,ot,amt,fee,yes⟩ _).mono ?_
 rintro e' w3 ⟨rfl,hb⟩
 rw [HEV.out]
 have HU3:=hb_ hb HU2
 have HE3:=hb_ hb HE2
 have HR3:=hb_ hb HR2
 have HV3:=hb_ hb HV2
 have HB3:=hd_ (HB2.out.trans (hb.mono HB2.out.size))
 clear hb
 clear U E R0 R1 R2 R3 R4 R5 V0 V1 Uz Ez Rz Vz
 obtain ⟨U,-,Uz⟩:=bc6_ HU3
 obtain ⟨E,-,Ez⟩:=bc7_ HE3
 obtain ⟨R0,R1,R2,R3,R4,R5,-,Rz⟩:=box6_ HR3
 obtain ⟨V0,V1,-,Vz⟩:=box2_ HV3
 have fR:=zqm HR3
 have fV:=zqm HV3
 have hn1 : ¬ RB = RP:=HNVR.out
 have hn2 : ¬ RP = RB:=HNRV.out
 go_wp2_with fail
 clear hn1 hn2
 refine nm_ ?_
 intro wz hw
 have hz1 : Hid (Hx wz RB (qaiiisss 0 0 0 none 0 0 none 0 0 none 0 0) 39):=hd_ (by rw [hw];exact zqb HNVR (zqb HNVR (zqa (zqa (zqa (zqa (zqa (zqa (HR3.out)))))))))
 have hz2 : Hid (Hx wz RP #[.int .i64 0,.slice none 0 0] 66):=hd_ (by rw [hw];exact zqa (zqa (zqb HNRV (zqb HNRV (zqb HNRV (zqb HNRV (zqb HNRV (zqb HNRV (HV3.out)))))))))
 have hz3 : Hid (Below w.heap.size w wz):=hd_ (by rw [hw];exact Below.setCell (Below.setCell (Below.setCell (Below.setCell (Below.setCell (Below.setCell (Below.setCell (Below.setCell (HB3.out) HGR.out _) HGR.out _) HGR.out _) HGR.out _) HGR.out _) HGR.out _) HGV.out _) HGV.out _)
 clear hw fR fV
 clear U E R0 R1 R2 R3 R4 R5 V0 V1 Uz Ez Rz Vz
 have R0:=zqc hz1.out 0
 have R1:=zqc hz1.out 1
 have R2:=zqc hz1.out 2
 have R3:=zqc hz1.out 3
 have R4:=zqc hz1.out 4
 have R5:=zqc hz1.out 5
 have V0:=zqc hz2.out 0
 have V1:=zqc hz2.out 1
 simp only [List.getElem?_toArray,List.getElem?_cons_zero,List.getElem?_cons_succ] at R0 R1 R2 R3 R4 R5 V0 V1
 refine bodyPost_ret (v:=.tuple #[.agg #[.int .i64 0,.int .i64 0,.int .i64 0,.slice none 0 0,.slice none 0 0,.slice none 0 0],.agg #[.int .i64 0,.slice none 0 0],.int .i64 1]) (by simp [results,Tryz.results29,go_sem, *]) rfl ?_
 rw [HO.out]
 exact ⟨bk0,[],0,none,none,none,none,0,0,0,0,rfl,OwB.nil_ _ _ _ _ _,Ow.nil_,hz3.out,rfl,rfl,rfl⟩
set_option maxRecDepth 100000 in
set_option maxHeartbeats 4000000 in
theorem s_Apply_yes (b : Bk) (k key ch ot amt fee : Int) (yes : Bool) (A1 A2 A3 : Option Addr) (p1 p2 p3 : Nat) (w : World) (hlc : b.cs.length ≤ 1048576) (hlh : b.hs.length ≤ 1048576) (hlo : b.os.length ≤ 1048576) (hr : RdBook w w.heap.size A1 b.cs A2 b.hs A3 b.os) (hyes : (b.ok && evB ⟨k,key,ch,ot,amt,fee,yes⟩) = true) :
  Calls Tryz.prog 29 #[.agg #[.int .i64 b.t,.int .i64 b.n,.int .i64 b.w,.slice A1 b.cs.length p1,.slice A2 b.hs.length p2,.slice A3 b.os.length p3],.agg #[.int .i64 k,.int .i64 key,.int .i64 ch,.int .i64 ot,.int .i64 amt,.int .i64 fee,.bool yes]] w (ApplyP w (applyS b ⟨k,key,ch,ot,amt,fee,yes⟩) b.n):=by
 have HRd:=hd_ hr
 clear hr
 obtain ⟨hok,hev⟩:=(Bool.and_eq_true _ _).mp hyes
 have HOK : Hid (bookB b.t b.n b.w b.cs b.hs b.os = true):=hd_ hok
 have HEV : Hid (evB ⟨k,key,ch,ot,amt,fee,yes⟩ = true):=hd_ hev
 have hF:=zxw hok
 have HF:=hd_ hF
 have HYES:=hd_ hyes
 obtain ⟨hna,hnb⟩:=hF.n
 obtain ⟨hwa,hwb⟩:=hF.w
 obtain ⟨hma,hmf⟩:=zgf hev
 have HAmt : Hid (amtB amt = true):=hd_ hma
 have HFee : Hid (amtB fee = true):=hd_ hmf
 have hcl:=hF.cl
 have hkd:=ev_kind hev
 simp only at hkd
 have HKD:=hd_ hkd
 clear hyes hok hev hF hma hmf hkd
 go_enter Tryz.func29,Tryz.ntmps29
 go_wp2_with fail
 obtain ⟨EB,hEB⟩ : ∃ v,v = w.heap.size + 1:=⟨_,rfl⟩
 rw [← hEB]
 obtain ⟨RB,hRB⟩ : ∃ v,v = EB + 1:=⟨_,rfl⟩
 try rw [← hRB]
 obtain ⟨RP,hRP⟩ : ∃ v,v = RB + 1:=⟨_,rfl⟩
 try rw [← hRP]
 obtain ⟨BB,hBB⟩ : ∃ v,v = w.heap.size:=⟨_,rfl⟩
 rw [← hBB]
 refine zju (fun w1 hw => ?_)
 have HU1 : Hid (Hx w1 BB (bkC b A1 p1 A2 p2 A3 p3) 39):=hd_ (by rw [hw,hBB];exact hp_)
 have HE1 : Hid (Hx w1 EB (qaiiiiiib k key ch ot amt fee yes) 64):=hd_ (by rw [hw,hEB];exact hp_)
 have HR1 : Hid (Hx w1 RB (qaiiisss 0 0 0 none 0 0 none 0 0 none 0 0) 39):=hd_ (by rw [hw,hRB,hEB];exact hp_)
 have HV1 : Hid (Hx w1 RP #[.int .i64 0,.slice none 0 0] 66):=hd_ (by rw [hw,hRP,hRB,hEB];exact hp_)
 have HB1 : Hid (Below w.heap.size w w1):=hd_ (by rw [hw];exact bl_)
 have HGU : Hid (w.heap.size ≤ BB):=hd_ (by omega)
 have HGE : Hid (w.heap.size ≤ EB):=hd_ (by omega)
 have HGR : Hid (w.heap.size ≤ RB):=hd_ (by omega)
 have HGV : Hid (w.heap.size ≤ RP):=hd_ (by omega)
 have HNUE : Hid (EB ≠ BB):=hd_ (by omega)
 have HNUR : Hid (RB ≠ BB):=hd_ (by omega)
 have HNUV : Hid (RP ≠ BB):=hd_ (by omega)
 have HNEU : Hid (BB ≠ EB):=hd_ (by omega)
 have HNER : Hid (RB ≠ EB):=hd_ (by omega)
 have HNEV : Hid (RP ≠ EB):=hd_ (by omega)
 have HNRU : Hid (BB ≠ RB):=hd_ (by omega)
 have HNRE : Hid (EB ≠ RB):=hd_ (by omega)
 have HNRV : Hid (RP ≠ RB):=hd_ (by omega)
 have HNVU : Hid (BB ≠ RP):=hd_ (by omega)
 have HNVE : Hid (EB ≠ RP):=hd_ (by omega)
 have HNVR : Hid (RB ≠ RP):=hd_ (by omega)
 have hRPl : Hid (RP < w1.heap.size∧w.heap.size ≤ w1.heap.size):=hd_ ⟨(gz_ HV1).1,HB1.out.size⟩
 clear hw hBB hEB hRB hRP
 obtain ⟨U,-,Uz⟩:=bc6_ HU1
 obtain ⟨E,-,Ez⟩:=bc7_ HE1
 obtain ⟨R0,R1,R2,R3,R4,R5,-,Rz⟩:=box6_ HR1
 obtain ⟨V0,V1,-,Vz⟩:=box2_ HV1
 refine (zpm b.t b.n b.w b.cs b.hs b.os _ _ _ _ _ _ _ hlc hlh hlo ((HRd.out.below HB1).more HB1.out.size)).mono ?_
 rintro e' w2 ⟨rfl,hb⟩
 rw [HOK.out]
 have HU2:=hb_ hb HU1
 have HE2:=hb_ hb HE1
 have HR2:=hb_ hb HR1
 have HV2:=hb_ hb HV1
 have HB2:=hd_ (HB1.out.trans (hb.mono HB1.out.size))
 clear hb
 clear U E R0 R1 R2 R3 R4 R5 V0 V1 Uz Ez Rz Vz
 obtain ⟨U,-,Uz⟩:=bc6_ HU2
 obtain ⟨E,-,Ez⟩:=bc7_ HE2
 obtain ⟨R0,R1,R2,R3,R4,R5,-,Rz⟩:=box6_ HR2
 obtain ⟨V0,V1,-,Vz⟩:=box2_ HV2
 go_wp2_with fail
 refine (zsi ⟨k,key,ch,ot,amt,fee,yes⟩ _).mono ?_
 rintro e' w3 ⟨rfl,hb⟩
 rw [HEV.out]
 have HU3:=hb_ hb HU2
 have HE3:=hb_ hb HE2
 have HR3:=hb_ hb HR2
 have HV3:=hb_ hb HV2
 have HB3:=hd_ (HB2.out.trans (hb.mono HB2.out.size))
 clear hb
 clear U E R0 R1 R2 R3 R4 R5 V0 V1 Uz Ez Rz Vz
 obtain ⟨U,-,Uz⟩:=bc6_ HU3
 obtain ⟨E,-,Ez⟩:=bc7_ HE3
 obtain ⟨R0,R1,R2,R3,R4,R5,-,Rz⟩:=box6_ HR3
 obtain ⟨V0,V1,-,Vz⟩:=box2_ HV3
 go_wp2_with fail
 refine (s_l07Copy b _ _ _ _ _ _ _ hlc hlh hlo ((HRd.out.below HB3).more HB3.out.size)).mono ?_
 rintro e' w4 ⟨C1,C2,C3,r1,r2,r3,rfl,hC,hb⟩
 have HC:=hd_ hC
 have hbz:=hb.size
 clear hC
 have HU4:=hb_ hb HU3
 have HE4:=hb_ hb HE3
 have HR4:=hb_ hb HR3
 have HV4:=hb_ hb HV3
 have HB4:=hd_ (HB3.out.trans (hb.mono HB3.out.size))
 clear hb
 clear U E R0 R1 R2 R3 R4 R5 V0 V1 Uz Ez Rz Vz
 obtain ⟨U,-,Uz⟩:=bc6_ HU4
 obtain ⟨E,-,Ez⟩:=bc7_ HE4
 obtain ⟨R0,R1,R2,R3,R4,R5,-,Rz⟩:=box6_ HR4
 obtain ⟨V0,V1,-,Vz⟩:=box2_ HV4
 go_wp2_with fail
 obtain ⟨X,hX⟩ : ∃ v,v = w4.heap.size:=⟨_,rfl⟩
 rw [← hX]
 refine zju (fun w5 hw => ?_)
 obtain ⟨L,hL⟩ : ∃ L : List Line,L = []:=⟨_,rfl⟩
 have HBS:=hd_ HB4.out.size
 have HW5 : Hid (Wk 108 w w5 w.heap.size X b L 0 C1 C2 C3 none r1 r2 r3 0):=hd_ (by rw [hw,hL];exact ⟨zqi hX,(HC.out.more HB3.out.size).alloc _,Ow.nil_,HB4.out.alloc HBS _,Fr.of_below (HB4.out.alloc HBS _),by rw [hX];exact HBS.out⟩)
 have HU5:=ha_ hw HU4
 have HXU : Hid (BB ≠ X):=hd_ (by have:=(gz_ HU4).1;omega)
 have HE5:=ha_ hw HE4
 have HXE : Hid (EB ≠ X):=hd_ (by have:=(gz_ HE4).1;omega)
 have HR5:=ha_ hw HR4
 have HXR : Hid (RB ≠ X):=hd_ (by have:=(gz_ HR4).1;omega)
 have HV5:=ha_ hw HV4
 have HXV : Hid (RP ≠ X):=hd_ (by have:=(gz_ HV4).1;omega)
 have HL:=hd_ hL
 clear hw hX hL hbz
 clear U E R0 R1 R2 R3 R4 R5 V0 V1 Uz Ez Rz Vz
 obtain ⟨a,af,az⟩:=opc_ HW5.out.open_
 have U:=bd6_ HU5
 have E:=bd7_ HE5
 obtain ⟨R0,R1,R2,R3,R4,R5,-,-⟩:=box6_ HR5
 obtain ⟨V0,V1,-,-⟩:=box2_ HV5
 cases t2 : (b.n == 1125899906842624)
 rotate_left
 ·
  have HO:=hd_ (zww (e:=⟨k,key,ch,ot,amt,fee,yes⟩) HYES (eq_of_beq t2))
  refine (zqy _ _ w.heap.size X b L C1 C2 C3 none r1 r2 r3 0 2 (by decide) HW5).mono ?_
  rintro e' w10 ⟨rfl,hh,ho⟩
  have HW10:=hd_ (HW5.out.trans hh)
  have HU10:=hd_ (ho _ _ HXU HU5)
  have HE10:=hd_ (ho _ _ HXE HE5)
  have HR10:=hd_ (ho _ _ HXR HR5)
  have HV10:=hd_ (ho _ _ HXV HV5)
  clear hh ho
  clear a af az U E R0 R1 R2 R3 R4 R5 V0 V1
  obtain ⟨a,af,az⟩:=opc_ HW10.out.open_
  have U:=bd6_ HU10
  have E:=bd7_ HE10
  obtain ⟨R0,R1,R2,R3,R4,R5,-,-⟩:=box6_ HR10
  obtain ⟨V0,V1,-,-⟩:=box2_ HV10
  clear a af az U E R0 R1 R2 R3 R4 R5 V0 V1
  obtain ⟨a,af,az⟩:=opc_ HW10.out.open_
  obtain ⟨R0,R1,R2,R3,R4,R5,-,-⟩:=box6_ HR10
  obtain ⟨V0,V1,-,-⟩:=box2_ HV10
  go_wp2_with fail
  refine zql (fun w' => kqiiissssi_ w' X b.t b.n b.w C1 b.cs.length r1 C2 b.hs.length r2 C3 b.os.length r3 none L.length 0 2) [yF 0 174,yF 1 175,yF 2 176,yF 3 177,yF 4 178,yF 5 179,yN 6,yN 7,yF 8 6] (by kernel_rfl) (by kernel_rfl) (by kernel_rfl) (q78_ a (p87_ a)) (fun hH => ?_)
  obtain ⟨w11,hwd⟩ : ∃ wd,w10.drew = wd:=⟨_,rfl⟩
  have HW11:=wkd_ hwd HW10
  have HR11:=hr_ hwd HR10
  have HV11:=hr_ hwd HV10
  clear a af az R0 R1 R2 R3 R4 R5 V0 V1
  rw [hwd] at hH ⊢
  clear hwd
  obtain ⟨a,af,az⟩:=opc_ HW11.out.open_
  obtain ⟨R0,R1,R2,R3,R4,R5,-,-⟩:=box6_ HR11
  obtain ⟨V0,V1,-,-⟩:=box2_ HV11
  refine tk_ ?_
  have cf9:=zqm HR11
  refine ss_ (fun K hK => ?_)
  go_simp
  refine zxu (fun w12 hw => ?_)
  have hg9 : w11.grownBy w12 (some RB):=by rw [hw];exact zqg (zqg (zqg (zqg (zqg (zqg (World.grownBy.refl w11 (some RB)) _ _) _ _) _ _) _ _) _ _) _ _
  have HW12 : Hid (Wk 108 w w12 w.heap.size X b L 2 C1 C2 C3 none r1 r2 r3 0):=hd_ (HW11.out.aside2 HR11 HGR HGR (by decide) (by decide) (by decide) (by decide) (by decide) hg9)
  have HV12 : Hid (Hx w12 RP #[.int .i64 0,.slice none 0 0] 66):=hd_ (zqe hg9 (sn_ HNRV) HV11)
  have HR12 : Hid (Hx w12 RB (qaiiisss 0 0 0 none 0 0 none 0 0 none 0 0) 39):=hd_ (by rw [hw];exact zqa (zqa (zqa (zqa (zqa (zqa (HR11.out)))))))
  clear hw hg9 cf9 a af az R0 R1 R2 R3 R4 R5 V0 V1
  obtain ⟨a,af,az⟩:=opc_ HW12.out.open_
  obtain ⟨R0,R1,R2,R3,R4,R5,-,-⟩:=box6_ HR12
  obtain ⟨V0,V1,-,-⟩:=box2_ HV12
  go_simp
  refine hK.out _ _ (q78_ a (p87_ a)) (fun hH => ?_)
  clear hK K
  refine tk_ ?_
  have cf9:=zqm HV12
  refine ss_ (fun K hK => ?_)
  go_simp
  refine zxu (fun w13 hw => ?_)
  have hg9 : w12.grownBy w13 (some RP):=by rw [hw];exact zqg (zqg (World.grownBy.refl w12 (some RP)) _ _) _ _
  have HW13 : Hid (Wk 108 w w13 w.heap.size X b L 2 C1 C2 C3 none r1 r2 r3 0):=hd_ (HW12.out.aside2 HV12 HGV HGV (by decide) (by decide) (by decide) (by decide) (by decide) hg9)
  have HR13 : Hid (Hx w13 RB (qaiiisss 0 0 0 none 0 0 none 0 0 none 0 0) 39):=hd_ (zqe hg9 (sn_ HNVR) HR12)
  have HV13 : Hid (Hx w13 RP #[.int .i64 0,.slice none 0 0] 66):=hd_ (by rw [hw];exact zqa (zqa (HV12.out)))
  clear hw hg9 cf9 a af az R0 R1 R2 R3 R4 R5 V0 V1
  obtain ⟨a,af,az⟩:=opc_ HW13.out.open_
  obtain ⟨R0,R1,R2,R3,R4,R5,-,-⟩:=box6_ HR13
  obtain ⟨V0,V1,-,-⟩:=box2_ HV13
  go_simp
  refine hK.out _ _ (q78_ a (p87_ a)) (fun hH => ?_)
  clear hK K
  refine tk_ ?_
  refine Sq.done (NoPanic.normal ?_)
  go_wp2_with fail
  refine bodyPost_ret (v:=.tuple #[.agg #[.int .i64 0,.int .i64 0,.int .i64 0,.slice none 0 0,.slice none 0 0,.slice none 0 0],.agg #[.int .i64 0,.slice none 0 0],.int .i64 2]) (by simp [results,Tryz.results29,go_sem, *]) rfl ?_
  rw [HO.out]
  exact ⟨bk0,[],0,none,none,none,none,0,0,0,0,rfl,OwB.nil_ _ _ _ _ _,Ow.nil_,HW13.out.b,rfl,rfl,rfl⟩
 have HN2 : Hid (b.n ≠ 1125899906842624):=hd_ (beq_eq_false_iff_ne.1 t2)
 have HO:=hd_ (zvy HYES HN2)
 refine (zqp _ _ w.heap.size X b L C1 C2 C3 none r1 r2 r3 0 2 HW5).mono ?_
 rintro e' wz ⟨rfl,rfl⟩
 clear t2
 go_upto_if 36 with fail
 clear a af az U E R0 R1 R2 R3 R4 R5 V0 V1
 go_cut [] from 37 to 168 (fun wx => Hid (AppEnd 108 w w.heap.size X RB RP (stepS b ⟨k,key,ch,ot,amt,fee,yes⟩) wx))
 case first =>
  have HW0:=HW5
  rw [HL.out] at HW0
  rcases HKD with rfl | rfl | rfl | rfl | rfl | rfl | rfl | rfl | rfl | rfl | rfl
  ·
   obtain ⟨a,af,az⟩:=opc_ HW5.out.open_
   have U:=bd6_ HU5
   have E:=bd7_ HE5
   obtain ⟨R0,R1,R2,R3,R4,R5,-,-⟩:=box6_ HR5
   obtain ⟨V0,V1,-,-⟩:=box2_ HV5
   obtain ⟨mA,mB⟩:=zja.1 HAmt
   go_wp2_with fail
   cases ts : amtB (b.w + amt)
   ·
    have HTS:=hd_ ts
    have HK : Hid (stepS b ⟨1,key,ch,ot,amt,fee,yes⟩ = bad 2):=hd_ (by show depB b _ = _;unfold depB;rw [if_pos (by have:=mt zja.2 (by rw [HTS.out];decide);simp only;omega)])
    refine (zka _ _ _ (by rw [HTS.out,Bool.and_false])).mono ?_
    rintro e' wz ⟨rfl,rfl⟩
    go_wp2_with fail
    refine (zqy _ _ w.heap.size X b L C1 C2 C3 none r1 r2 r3 0 2 (by decide) HW5).mono ?_
    rintro e' w10 ⟨rfl,hh,ho⟩
    have HW10:=hd_ (HW5.out.trans hh)
    have HU10:=hd_ (ho _ _ HXU HU5)
    have HE10:=hd_ (ho _ _ HXE HE5)
    have HR10:=hd_ (ho _ _ HXR HR5)
    have HV10:=hd_ (ho _ _ HXV HV5)
    clear hh ho
    clear a af az U E R0 R1 R2 R3 R4 R5 V0 V1
    obtain ⟨a,af,az⟩:=opc_ HW10.out.open_
    have U:=bd6_ HU10
    have E:=bd7_ HE10
    obtain ⟨R0,R1,R2,R3,R4,R5,-,-⟩:=box6_ HR10
    obtain ⟨V0,V1,-,-⟩:=box2_ HV10
    go_wp2_with fail
    go_meet
    case rel => exact hd_ (by rw [HK.out];exact ⟨.inr ⟨by decide,_,_,_,_,_,_,_,_,_,_,HW10.out⟩,HR10.out,HV10.out⟩)
   have HTS:=zja.1 ts
   have HK : Hid (stepS b ⟨1,key,ch,ot,amt,fee,yes⟩ = done ⟨b.t,b.n,b.w + amt,b.cs,b.hs,b.os⟩ (nz [⟨1,0,amt⟩,⟨2,0,-amt⟩])):=hd_ (by show depB b _ = _;unfold depB;rw [if_neg (by simp only;omega)])
   refine (zjv _ _ _ (zja.2 ⟨hwa,hwb⟩) HAmt ts).mono ?_
   rintro e' wz ⟨rfl,rfl⟩
   go_wp2_with fail
   refine (zqp _ _ w.heap.size X b L C1 C2 C3 none r1 r2 r3 0 2 HW5).mono ?_
   rintro e' wz ⟨rfl,rfl⟩
   clear ts
   go_wp2_with fail
   refine nm_ ?_
   intro w10 hw
   have HW10 : Hid (Wk 108 w w10 w.heap.size X ⟨b.t,b.n,b.w + amt,b.cs,b.hs,b.os⟩ L 0 C1 C2 C3 none r1 r2 r3 0):=hd_ (by rw [hw];exact HW5.out.setWallet (by decide) (by decide) (by decide) (by decide) _)
   have HU10:=hf_ hw HXU HU5
   have HE10:=hf_ hw HXE HE5
   have HR10:=hf_ hw HXR HR5
   have HV10:=hf_ hw HXV HV5
   clear hw
   clear a af az U E R0 R1 R2 R3 R4 R5 V0 V1
   obtain ⟨a,af,az⟩:=opc_ HW10.out.open_
   have U:=bd6_ HU10
   have E:=bd7_ HE10
   obtain ⟨R0,R1,R2,R3,R4,R5,-,-⟩:=box6_ HR10
   obtain ⟨V0,V1,-,-⟩:=box2_ HV10
   refine (zxo _ _ w.heap.size X ⟨b.t,b.n,b.w + amt,b.cs,b.hs,b.os⟩ L 0 C1 C2 C3 none r1 r2 r3 0 1 0 amt (by rw [HL.out];decide) HW10).mono ?_
   rintro e' w11 ⟨⟨Cw110,Cw111,Cw112,Cw113,rw110,rw111,rw112,rw113,rfl,hh⟩,ho⟩
   have HU11:=hd_ (ho _ _ HXU HU10)
   have HE11:=hd_ (ho _ _ HXE HE10)
   have HR11:=hd_ (ho _ _ HXR HR10)
   have HV11:=hd_ (ho _ _ HXV HV10)
   obtain ⟨M0,hL9⟩ : ∃ v,lineTo L 1 0 amt = v:=⟨_,rfl⟩
   rw [hL9] at hh
   have hlM0 : M0.length ≤ L.length + 1:=by rw [← hL9];exact zqu _ _ _ _
   have HM0:=hd_ hL9
   have HW11:=hd_ (HW10.out.trans hh)
   clear hh ho hL9
   clear a af az U E R0 R1 R2 R3 R4 R5 V0 V1
   obtain ⟨a,af,az⟩:=opc_ HW11.out.open_
   have U:=bd6_ HU11
   have E:=bd7_ HE11
   obtain ⟨R0,R1,R2,R3,R4,R5,-,-⟩:=box6_ HR11
   obtain ⟨V0,V1,-,-⟩:=box2_ HV11
   go_wp2_with fail
   refine (zxo _ _ w.heap.size X ⟨b.t,b.n,b.w + amt,b.cs,b.hs,b.os⟩ M0 0 Cw110 Cw111 Cw112 Cw113 rw110 rw111 rw112 rw113 2 0 (-amt) (by rw [HL.out] at hlM0;simp at hlM0;omega) HW11).mono ?_
   rintro e' w12 ⟨⟨Cw120,Cw121,Cw122,Cw123,rw120,rw121,rw122,rw123,rfl,hh⟩,ho⟩
   have HU12:=hd_ (ho _ _ HXU HU11)
   have HE12:=hd_ (ho _ _ HXE HE11)
   have HR12:=hd_ (ho _ _ HXR HR11)
   have HV12:=hd_ (ho _ _ HXV HV11)
   obtain ⟨M1,hL9⟩ : ∃ v,lineTo M0 2 0 (-amt) = v:=⟨_,rfl⟩
   rw [hL9] at hh
   have hlM1 : M1.length ≤ M0.length + 1:=by rw [← hL9];exact zqu _ _ _ _
   have HM1:=hd_ hL9
   have HW12:=hd_ (HW11.out.trans hh)
   clear hh ho hL9
   clear a af az U E R0 R1 R2 R3 R4 R5 V0 V1
   obtain ⟨a,af,az⟩:=opc_ HW12.out.open_
   have U:=bd6_ HU12
   have E:=bd7_ HE12
   obtain ⟨R0,R1,R2,R3,R4,R5,-,-⟩:=box6_ HR12
   obtain ⟨V0,V1,-,-⟩:=box2_ HV12
   have HZ : nz [⟨1,0,amt⟩,⟨2,0,-amt⟩] = M1:=by rw [← HM1.out,← HM0.out,HL.out];exact (line2 (by decide)).symm
   rw [HZ] at HK
   go_wp2_with fail
   go_meet
   case rel => exact hd_ (by rw [HK.out];exact ⟨.inl ⟨rfl,_,_,_,_,_,_,_,_,_,rfl,HW12.out⟩,HR12.out,HV12.out⟩)
  ·
   obtain ⟨a,af,az⟩:=opc_ HW5.out.open_
   have U:=bd6_ HU5
   have E:=bd7_ HE5
   obtain ⟨R0,R1,R2,R3,R4,R5,-,-⟩:=box6_ HR5
   obtain ⟨V0,V1,-,-⟩:=box2_ HV5
   have HK : Hid (stepS b ⟨2,key,ch,ot,amt,fee,yes⟩ = openB b ⟨2,key,ch,ot,amt,fee,yes⟩):=hd_ rfl
   go_wp2_with fail
   clear a af az U E R0 R1 R2 R3 R4 R5 V0 V1
   refine (s_l07Open w w5 w.heap.size X b _ _ _ _ _ _ _ _ ⟨2,key,ch,ot,amt,fee,yes⟩ hcl (zja.2 ⟨hwa,hwb⟩) HAmt HFee HW0).mono ?_
   intro e' w9 hact
   obtain ⟨rfl,hend⟩:=AppEnd.of_acts HW0 (by decide) (by decide) HR5 HV5 hact
   have HE9:=hd_ hend
   clear hact hend
   go_wp2_with fail
   go_meet
   case rel => exact hd_ (by rw [HK.out];exact HE9)
  ·
   obtain ⟨a,af,az⟩:=opc_ HW5.out.open_
   have U:=bd6_ HU5
   have E:=bd7_ HE5
   obtain ⟨R0,R1,R2,R3,R4,R5,-,-⟩:=box6_ HR5
   obtain ⟨V0,V1,-,-⟩:=box2_ HV5
   have HK : Hid (stepS b ⟨3,key,ch,ot,amt,fee,yes⟩ = closeA b ⟨3,key,ch,ot,amt,fee,yes⟩):=hd_ rfl
   obtain ⟨mA,mB⟩:=zja.1 HFee
   go_wp2_with fail
   refine (zjk b.t b.n b.w b.cs b.hs b.os _ _ _ _ _ _ ch _ hlc ((HRd.out.below HW5.out.b).more HW5.out.ble)).mono ?_
   rintro e' w10 ⟨rfl,hb⟩
   have HW10:=hd_ (HW5.out.below hb)
   have HU10:=hb_ hb HU5
   have HE10:=hb_ hb HE5
   have HR10:=hb_ hb HR5
   have HV10:=hb_ hb HV5
   clear hb
   clear a af az U E R0 R1 R2 R3 R4 R5 V0 V1
   obtain ⟨a,af,az⟩:=opc_ HW10.out.open_
   have U:=bd6_ HU10
   have E:=bd7_ HE10
   obtain ⟨R0,R1,R2,R3,R4,R5,-,-⟩:=box6_ HR10
   obtain ⟨V0,V1,-,-⟩:=box2_ HV10
   cases t3 : decide (chanIx b.cs ch ≥ 0)
   ·
    have H3:=hd_ (of_decide_eq_false t3)
    have HW9:=HW10
    rw [HL.out] at HW9
    go_wp2_with fail
    clear a af az U E R0 R1 R2 R3 R4 R5 V0 V1
    refine (zml w w10 w.heap.size X b _ _ _ _ _ _ _ _ ⟨3,key,ch,ot,amt,fee,yes⟩ HF HFee HW9).mono ?_
    intro e' w9 hact
    obtain ⟨rfl,hend⟩:=AppEnd.of_acts HW9 (by decide) (by decide) HR10 HV10 hact
    have HE9:=hd_ hend
    clear hact hend
    have HK2 : Hid (closeA b ⟨3,key,ch,ot,amt,fee,yes⟩ = closeB b ⟨3,key,ch,ot,amt,fee,yes⟩):=hd_ (by unfold closeA;rw [if_neg (fun h9 => by have h8:=h9.1;have h7:=H3.out;(try simp only at h8);omega)])
    go_wp2_with fail
    go_meet
    case rel => exact hd_ (by rw [HK.out,HK2.out];exact HE9)
   have hix:=of_decide_eq_true t3
   obtain ⟨i,hi⟩:=Int.eq_ofNat_of_zero_le hix
   have hlt:=zxm hi
   have hof : chanOf b.cs ch = b.cs[i]:=by unfold chanOf;rw [hi,Int.toNat_natCast,List.getD_eq_getElem?_getD,List.getElem?_eq_getElem hlt];rfl
   have hch:=HF.out.ch i hlt
   simp only [chB,Bool.and_eq_true] at hch
   obtain ⟨mC,mD⟩:=zja.1 hch.1.1.1.1.1.1.2
   obtain ⟨bb,off,hA1,hbB,c0,c1,c2,c3,c4,c5,c6⟩:=Chan.rd HRd.out.c hlt
   subst hA1
   have HC2:=hd_ c2
   clear c0 c1 c2 c3 c4 c5 c6 hch
   have HOF:=hd_ hof
   have HIXi:=hd_ hi
   have HIX:=hd_ hix
   rw [hi] at t3 ⊢
   have ix0 : (0 : Int) ≤ (i : Int):=by omega
   have ix1 : (i : Int) < (b.cs.length : Int):=by omega
   clear hix hi hof
   obtain ⟨loc,hlo9⟩ : ∃ v,b.cs[i].Local = v:=⟨_,rfl⟩
   rw [hlo9] at mC mD HC2
   have HLO:=hd_ hlo9
   clear hlo9
   have hw1 : IntKind.i64.wrap (b.w + loc) = b.w + loc:=IntWalk.i64_in _ (by omega)
   have hw2 : IntKind.i64.wrap (b.w + loc - fee) = b.w + loc - fee:=IntWalk.i64_in _ (by omega)
   cases tq : decide (b.w + loc - fee > 1125899906842624)
   ·
    go_wp2_with fail
    have xl : w10.cell? ⟨bb,off + i * 7 + 2,none⟩ = some (.int .i64 loc):=(HW10.out.b.cell (p:=⟨bb,off + i * 7 + 2,none⟩) hbB).trans HC2
    refine zql (fun w' => kqiiissss w' X b.t b.n b.w C1 b.cs.length r1 C2 b.hs.length r2 C3 b.os.length r3 none L.length 0 (kqiiisss w' BB b.t b.n b.w (some ⟨bb,off,none⟩) b.cs.length p1 A2 b.hs.length p2 A3 b.os.length p3 (kqiiiiiib w' EB 3 key ch ot amt fee yes (kqiiisss w' RB 0 0 0 none 0 0 none 0 0 none 0 0 (kqis w' RP 0 none 0 0 (kqio_ w' bb (off + i * 7 + 2) loc)))))) [yF 0 81,yF 1 82,yF 2 83,yF 3 84,yF 4 85,yF 5 86,yF 6 87,yF 7 88,yF 8 89,yF 9 90,yF 10 91,yF 11 92,yF 12 93,yF 13 94,yT 14 95] (by kernel_rfl) (by kernel_rfl) (by kernel_rfl) (q78_ a (q6_ U (q7_ E ⟨R0,R1,R2,R3,R4,R5,V0,V1,xl⟩))) (fun hH => ?_)
    obtain ⟨w11,hwd⟩ : ∃ wd,w10.drew = wd:=⟨_,rfl⟩
    have HW11:=wkd_ hwd HW10
    have HU11:=hr_ hwd HU10
    have HE11:=hr_ hwd HE10
    have HR11:=hr_ hwd HR10
    have HV11:=hr_ hwd HV10
    clear a af az U E R0 R1 R2 R3 R4 R5 V0 V1
    rw [hwd] at hH ⊢
    clear hwd
    obtain ⟨a,af,az⟩:=opc_ HW11.out.open_
    have U:=bd6_ HU11
    have E:=bd7_ HE11
    obtain ⟨R0,R1,R2,R3,R4,R5,-,-⟩:=box6_ HR11
    obtain ⟨V0,V1,-,-⟩:=box2_ HV11
    refine tk_ ?_
    clear xl
    have xl : w11.cell? ⟨bb,off + i * 7 + 2,none⟩ = some (.int .i64 loc):=(HW11.out.b.cell (p:=⟨bb,off + i * 7 + 2,none⟩) hbB).trans HC2
    refine ss_ (fun K hK => ?_)
    go_simp
    refine (zqp _ _ w.heap.size X b L C1 C2 C3 none r1 r2 r3 0 2 HW11).mono ?_
    rintro e' wz ⟨rfl,rfl⟩
    go_simp
    refine hK.out _ _ (q78_ a (q6_ U (q7_ E ⟨R0,R1,R2,R3,R4,R5,V0,V1,xl⟩))) (fun hH => ?_)
    clear hK K
    refine tk_ ?_
    refine Sq.done (NoPanic.normal ?_)
    have H9:=hd_ (of_decide_eq_false tq)
    clear tq xl hw1 hw2
    have HW9:=HW11
    rw [HL.out] at HW9
    go_wp2_with fail
    clear a af az U E R0 R1 R2 R3 R4 R5 V0 V1
    refine (zml w w11 w.heap.size X b _ _ _ _ _ _ _ _ ⟨3,key,ch,ot,amt,fee,yes⟩ HF HFee HW9).mono ?_
    intro e' w9 hact
    obtain ⟨rfl,hend⟩:=AppEnd.of_acts HW9 (by decide) (by decide) HR11 HV11 hact
    have HE9:=hd_ hend
    clear hact hend
    have HK2 : Hid (closeA b ⟨3,key,ch,ot,amt,fee,yes⟩ = closeB b ⟨3,key,ch,ot,amt,fee,yes⟩):=hd_ (by unfold closeA;rw [if_neg (fun h9 => by have h8:=h9.2;have h7:=H9.out;(try simp only at h8);rw [HOF.out,HLO.out] at h8;omega)])
    go_wp2_with fail
    go_meet
    case rel => exact hd_ (by rw [HK.out,HK2.out];exact HE9)
   go_wp2_with fail
   have xl : w10.cell? ⟨bb,off + i * 7 + 2,none⟩ = some (.int .i64 loc):=(HW10.out.b.cell (p:=⟨bb,off + i * 7 + 2,none⟩) hbB).trans HC2
   refine zql (fun w' => kqiiissss w' X b.t b.n b.w C1 b.cs.length r1 C2 b.hs.length r2 C3 b.os.length r3 none L.length 0 (kqiiisss w' BB b.t b.n b.w (some ⟨bb,off,none⟩) b.cs.length p1 A2 b.hs.length p2 A3 b.os.length p3 (kqiiiiiib w' EB 3 key ch ot amt fee yes (kqiiisss w' RB 0 0 0 none 0 0 none 0 0 none 0 0 (kqis w' RP 0 none 0 0 (kqio_ w' bb (off + i * 7 + 2) loc)))))) [yF 0 81,yF 1 82,yF 2 83,yF 3 84,yF 4 85,yF 5 86,yF 6 87,yF 7 88,yF 8 89,yF 9 90,yF 10 91,yF 11 92,yF 12 93,yF 13 94,yT 14 95] (by kernel_rfl) (by kernel_rfl) (by kernel_rfl) (q78_ a (q6_ U (q7_ E ⟨R0,R1,R2,R3,R4,R5,V0,V1,xl⟩))) (fun hH => ?_)
   obtain ⟨w11,hwd⟩ : ∃ wd,w10.drew = wd:=⟨_,rfl⟩
   have HW11:=wkd_ hwd HW10
   have HU11:=hr_ hwd HU10
   have HE11:=hr_ hwd HE10
   have HR11:=hr_ hwd HR10
   have HV11:=hr_ hwd HV10
   clear a af az U E R0 R1 R2 R3 R4 R5 V0 V1
   rw [hwd] at hH ⊢
   clear hwd
   obtain ⟨a,af,az⟩:=opc_ HW11.out.open_
   have U:=bd6_ HU11
   have E:=bd7_ HE11
   obtain ⟨R0,R1,R2,R3,R4,R5,-,-⟩:=box6_ HR11
   obtain ⟨V0,V1,-,-⟩:=box2_ HV11
   refine tk_ ?_
   clear xl
   have xl : w11.cell? ⟨bb,off + i * 7 + 2,none⟩ = some (.int .i64 loc):=(HW11.out.b.cell (p:=⟨bb,off + i * 7 + 2,none⟩) hbB).trans HC2
   refine ss_ (fun K hK => ?_)
   go_simp
   refine (zqy _ _ w.heap.size X b L C1 C2 C3 none r1 r2 r3 0 2 (by decide) HW11).mono ?_
   rintro e' w12 ⟨rfl,hh,ho⟩
   have HW12:=hd_ (HW11.out.trans hh)
   have HU12:=hd_ (ho _ _ HXU HU11)
   have HE12:=hd_ (ho _ _ HXE HE11)
   have HR12:=hd_ (ho _ _ HXR HR11)
   have HV12:=hd_ (ho _ _ HXV HV11)
   clear hh ho
   clear a af az U E R0 R1 R2 R3 R4 R5 V0 V1
   obtain ⟨a,af,az⟩:=opc_ HW12.out.open_
   have U:=bd6_ HU12
   have E:=bd7_ HE12
   obtain ⟨R0,R1,R2,R3,R4,R5,-,-⟩:=box6_ HR12
   obtain ⟨V0,V1,-,-⟩:=box2_ HV12
   clear xl
   have xl : w12.cell? ⟨bb,off + i * 7 + 2,none⟩ = some (.int .i64 loc):=(HW12.out.b.cell (p:=⟨bb,off + i * 7 + 2,none⟩) hbB).trans HC2
   go_simp
   refine hK.out _ _ (q78_ a (q6_ U (q7_ E ⟨R0,R1,R2,R3,R4,R5,V0,V1,xl⟩))) (fun hH => ?_)
   clear hK K
   refine tk_ ?_
   refine Sq.done (NoPanic.normal ?_)
   have H9:=hd_ (of_decide_eq_true tq)
   clear tq xl hw1 hw2
   have HK2 : Hid (closeA b ⟨3,key,ch,ot,amt,fee,yes⟩ = bad 2):=hd_ (by unfold closeA;rw [if_pos ⟨HIX.out,by simp only;rw [HOF.out,HLO.out];exact H9.out⟩])
   go_wp2_with fail
   go_meet
   case rel => exact hd_ (by rw [HK.out,HK2.out];exact ⟨.inr ⟨by decide,_,_,_,_,_,_,_,_,_,_,HW12.out⟩,HR12.out,HV12.out⟩)
  ·
   obtain ⟨a,af,az⟩:=opc_ HW5.out.open_
   have U:=bd6_ HU5
   have E:=bd7_ HE5
   obtain ⟨R0,R1,R2,R3,R4,R5,-,-⟩:=box6_ HR5
   obtain ⟨V0,V1,-,-⟩:=box2_ HV5
   go_wp2_with fail
   refine (zjk b.t b.n b.w b.cs b.hs b.os _ _ _ _ _ _ ch _ hlc ((HRd.out.below HW5.out.b).more HW5.out.ble)).mono ?_
   rintro e' w10 ⟨rfl,hb⟩
   have HW10:=hd_ (HW5.out.below hb)
   have HU10:=hb_ hb HU5
   have HE10:=hb_ hb HE5
   have HR10:=hb_ hb HR5
   have HV10:=hb_ hb HV5
   clear hb
   clear a af az U E R0 R1 R2 R3 R4 R5 V0 V1
   obtain ⟨a,af,az⟩:=opc_ HW10.out.open_
   have U:=bd6_ HU10
   have E:=bd7_ HE10
   obtain ⟨R0,R1,R2,R3,R4,R5,-,-⟩:=box6_ HR10
   obtain ⟨V0,V1,-,-⟩:=box2_ HV10
   cases t3 : decide (chanIx b.cs ch < 0)
   rotate_left
   ·
    have HK : Hid (stepS b ⟨4,key,ch,ot,amt,fee,yes⟩ = bad 6):=hd_ (by show priceB b _ = _;unfold priceB;rw [if_pos (of_decide_eq_true t3)])
    go_wp2_with fail
    refine (zqy _ _ w.heap.size X b L C1 C2 C3 none r1 r2 r3 0 6 (by decide) HW10).mono ?_
    rintro e' w11 ⟨rfl,hh,ho⟩
    have HW11:=hd_ (HW10.out.trans hh)
    have HU11:=hd_ (ho _ _ HXU HU10)
    have HE11:=hd_ (ho _ _ HXE HE10)
    have HR11:=hd_ (ho _ _ HXR HR10)
    have HV11:=hd_ (ho _ _ HXV HV10)
    clear hh ho
    clear a af az U E R0 R1 R2 R3 R4 R5 V0 V1
    obtain ⟨a,af,az⟩:=opc_ HW11.out.open_
    have U:=bd6_ HU11
    have E:=bd7_ HE11
    obtain ⟨R0,R1,R2,R3,R4,R5,-,-⟩:=box6_ HR11
    obtain ⟨V0,V1,-,-⟩:=box2_ HV11
    go_wp2_with fail
    go_meet
    case rel => exact hd_ (by rw [HK.out];exact ⟨.inr ⟨by decide,_,_,_,_,_,_,_,_,_,_,HW11.out⟩,HR11.out,HV11.out⟩)
   have hix:=of_decide_eq_false t3
   obtain ⟨i,hi⟩:=Int.eq_ofNat_of_zero_le (show 0 ≤ chanIx b.cs ch by omega)
   have hlt:=zxm hi
   have HIXi:=hd_ hi
   have HK : Hid (stepS b ⟨4,key,ch,ot,amt,fee,yes⟩ = done ⟨b.t,b.n,b.w,setCh b.cs ch (fun c => { c with Base:=amt,Ppm:=fee }),b.hs,b.os⟩ []):=hd_ (by show priceB b _ = _;unfold priceB;rw [if_neg (by simpa using hix)])
   clear hix
   go_wp2_with fail
   refine (zqp _ _ w.heap.size X b L C1 C2 C3 none r1 r2 r3 0 6 HW10).mono ?_
   rintro e' wz ⟨rfl,rfl⟩
   try rw [hi] at t3
   try rw [hi]
   have ix0 : (0 : Int) ≤ (i : Int):=by omega
   have ix1 : (i : Int) < (b.cs.length : Int):=by omega
   clear t3 hi
   obtain ⟨g,hA,hBg⟩:=HW10.out.o.c.headW (by rw [List.length_map];omega)
   subst hA
   obtain ⟨c,hc⟩ : ∃ c,b.cs[i] = c:=⟨_,rfl⟩
   have hci : b.cs[i]? = some c:=by rw [List.getElem?_eq_getElem hlt,hc]
   obtain ⟨y0,y1,y2,y3,y4,y5,y6⟩:=c
   have HCI:=hd_ hci
   have HCC:=hd_ hc
   clear hci hc
   have yf:=fun j => HW10.out.o.c.frozenAt j
   go_wp2_with fail
   refine zqs (fun w' => kqiiissss w' X b.t b.n b.w (some ⟨g,0,none⟩) b.cs.length r1 C2 b.hs.length r2 C3 b.os.length r3 none L.length 0 (kqiiisss w' BB b.t b.n b.w A1 b.cs.length p1 A2 b.hs.length p2 A3 b.os.length p3 (kqiiiiiib w' EB 4 key ch ot amt fee yes (kqiiisss w' RB 0 0 0 none 0 0 none 0 0 none 0 0 (kqis_ w' RP 0 none 0 0))))) [yF 0 115,yF 1 116,yF 2 117,yF 3 118,yF 4 119,yF 5 120,yF 6 121,yF 7 122,yF 8 123,yF 9 124] rfl (by kernel_rfl) (by kernel_rfl) (by kernel_rfl) (by kernel_rfl) (by kernel_rfl) (by kernel_rfl) (q78_ a (q6_ U (q7_ E ⟨R0,R1,R2,R3,R4,R5,V0,V1⟩))) (fun hH => ?_)
   obtain ⟨w11,hwd⟩ : ∃ wd,w10.drew = wd:=⟨_,rfl⟩
   have HW11:=wkd_ hwd HW10
   have HU11:=hr_ hwd HU10
   have HE11:=hr_ hwd HE10
   have HR11:=hr_ hwd HR10
   have HV11:=hr_ hwd HV10
   clear a af az U E R0 R1 R2 R3 R4 R5 V0 V1
   rw [hwd] at hH ⊢
   clear hwd
   obtain ⟨a,af,az⟩:=opc_ HW11.out.open_
   have U:=bd6_ HU11
   have E:=bd7_ HE11
   obtain ⟨R0,R1,R2,R3,R4,R5,-,-⟩:=box6_ HR11
   obtain ⟨V0,V1,-,-⟩:=box2_ HV11
   refine tk_ ?_
   clear yf
   have yf:=fun j => HW11.out.o.c.frozenAt j
   have HRow : Hid ((b.cs.map Chan.cells)[i]? = some (Chan.cells ⟨y0,y1,y2,y3,y4,y5,y6⟩)):=hd_ (by rw [List.getElem?_map,HCI.out];rfl)
   have yc : w11.cell? ⟨g,i * 7 + 4,none⟩ = some (.int .i64 y4):=HW11.out.o.c.cellAt HRow (j:=4) (by decide)
   refine Sq.done ?_
   intro KK hKK
   go_simp
   refine hKK _ _ (NoPanic.normal ?_)
   clear yc
   refine nm_ ?_
   intro w12 hw
   have HW12 : Hid (Wk 108 w w12 w.heap.size X ⟨b.t,b.n,b.w,(b.cs.set i ⟨y0,y1,y2,y3,amt,y5,y6⟩),b.hs,b.os⟩ L 0 (some ⟨g,0,none⟩) C2 C3 none r1 r2 r3 0):=hd_ (by rw [hw];exact HW11.out.putCellC (c':=⟨y0,y1,y2,y3,amt,y5,y6⟩) (by decide) HCI (by decide) rfl)
   have HU12:=hf_ hw (fun e9 => HW11.out.o.c.ne_ HU11 (by decide) (by rw [e9];rfl)) HU11
   have HE12:=hf_ hw (fun e9 => HW11.out.o.c.ne_ HE11 (by decide) (by rw [e9];rfl)) HE11
   have HR12:=hf_ hw (fun e9 => HW11.out.o.c.ne_ HR11 (by decide) (by rw [e9];rfl)) HR11
   have HV12:=hf_ hw (fun e9 => HW11.out.o.c.ne_ HV11 (by decide) (by rw [e9];rfl)) HV11
   clear hw
   clear a af az U E R0 R1 R2 R3 R4 R5 V0 V1
   obtain ⟨a,af,az⟩:=opc_ HW12.out.open_
   have U:=bd6_ HU12
   have E:=bd7_ HE12
   obtain ⟨R0,R1,R2,R3,R4,R5,-,-⟩:=box6_ HR12
   obtain ⟨V0,V1,-,-⟩:=box2_ HV12
   have hl9 : (b.cs.set i ⟨y0,y1,y2,y3,amt,y5,y6⟩).length = b.cs.length:=List.length_set ..
   have ix2 : (i : Int) < ((b.cs.set i ⟨y0,y1,y2,y3,amt,y5,y6⟩).length : Int):=by rw [hl9];exact ix1
   have HL9:=hd_ hl9
   clear hl9 yf
   have yf:=fun j => HW12.out.o.c.frozenAt j
   go_wp2_with fail
   refine zqs (fun w' => kqiiissss w' X b.t b.n b.w (some ⟨g,0,none⟩) ((b.cs.set i ⟨y0,y1,y2,y3,amt,y5,y6⟩).length) r1 C2 b.hs.length r2 C3 b.os.length r3 none L.length 0 (kqiiisss w' BB b.t b.n b.w A1 b.cs.length p1 A2 b.hs.length p2 A3 b.os.length p3 (kqiiiiiib w' EB 4 key ch ot amt fee yes (kqiiisss w' RB 0 0 0 none 0 0 none 0 0 none 0 0 (kqis_ w' RP 0 none 0 0))))) [yF 0 125,yF 1 126,yF 2 127,yF 3 128,yF 4 129,yF 5 130,yF 6 131,yF 7 132,yF 8 133,yF 9 134] rfl (by kernel_rfl) (by kernel_rfl) (by kernel_rfl) (by kernel_rfl) (by kernel_rfl) (by kernel_rfl) (q78_ a (q6_ U (q7_ E ⟨R0,R1,R2,R3,R4,R5,V0,V1⟩))) (fun hH => ?_)
   obtain ⟨w13,hwd⟩ : ∃ wd,w12.drew = wd:=⟨_,rfl⟩
   have HW13:=wkd_ hwd HW12
   have HU13:=hr_ hwd HU12
   have HE13:=hr_ hwd HE12
   have HR13:=hr_ hwd HR12
   have HV13:=hr_ hwd HV12
   clear a af az U E R0 R1 R2 R3 R4 R5 V0 V1
   rw [hwd] at hH ⊢
   clear hwd
   obtain ⟨a,af,az⟩:=opc_ HW13.out.open_
   have U:=bd6_ HU13
   have E:=bd7_ HE13
   obtain ⟨R0,R1,R2,R3,R4,R5,-,-⟩:=box6_ HR13
   obtain ⟨V0,V1,-,-⟩:=box2_ HV13
   refine tk_ ?_
   clear yf
   have yf:=fun j => HW13.out.o.c.frozenAt j
   have HRow2 : Hid (((b.cs.set i ⟨y0,y1,y2,y3,amt,y5,y6⟩).map Chan.cells)[i]? = some (Chan.cells ⟨y0,y1,y2,y3,amt,y5,y6⟩)):=hd_ (by rw [List.getElem?_map,List.getElem?_set_self hlt];rfl)
   have yc : w13.cell? ⟨g,i * 7 + 5,none⟩ = some (.int .i64 y5):=HW13.out.o.c.cellAt HRow2 (j:=5) (by decide)
   refine Sq.done ?_
   intro KK hKK
   go_simp
   refine hKK _ _ (NoPanic.normal ?_)
   clear yc
   refine nm_ ?_
   intro w14 hw
   have HW14 : Hid (Wk 108 w w14 w.heap.size X ⟨b.t,b.n,b.w,((b.cs.set i ⟨y0,y1,y2,y3,amt,y5,y6⟩).set i ⟨y0,y1,y2,y3,amt,fee,y6⟩),b.hs,b.os⟩ L 0 (some ⟨g,0,none⟩) C2 C3 none r1 r2 r3 0):=hd_ (by rw [hw];exact HW13.out.putCellC (c:=⟨y0,y1,y2,y3,amt,y5,y6⟩) (c':=⟨y0,y1,y2,y3,amt,fee,y6⟩) (by decide) (by simp only;rw [List.getElem?_set_self hlt]) (by decide) rfl)
   have HU14:=hf_ hw (fun e9 => HW13.out.o.c.ne_ HU13 (by decide) (by rw [e9];rfl)) HU13
   have HE14:=hf_ hw (fun e9 => HW13.out.o.c.ne_ HE13 (by decide) (by rw [e9];rfl)) HE13
   have HR14:=hf_ hw (fun e9 => HW13.out.o.c.ne_ HR13 (by decide) (by rw [e9];rfl)) HR13
   have HV14:=hf_ hw (fun e9 => HW13.out.o.c.ne_ HV13 (by decide) (by rw [e9];rfl)) HV13
   clear hw
   clear a af az U E R0 R1 R2 R3 R4 R5 V0 V1
   obtain ⟨a,af,az⟩:=opc_ HW14.out.open_
   have U:=bd6_ HU14
   have E:=bd7_ HE14
   obtain ⟨R0,R1,R2,R3,R4,R5,-,-⟩:=box6_ HR14
   obtain ⟨V0,V1,-,-⟩:=box2_ HV14
   have HZ : setCh b.cs ch (fun c => { c with Base:=amt,Ppm:=fee }) = (b.cs.set i ⟨y0,y1,y2,y3,amt,y5,y6⟩).set i ⟨y0,y1,y2,y3,amt,fee,y6⟩:=by rw [List.set_set,zkv HIXi hlt,HCC.out]
   rw [HZ,← HL.out] at HK
   go_wp2_with fail
   go_meet
   case rel => exact hd_ (by rw [HK.out];exact ⟨.inl ⟨rfl,_,_,_,_,_,_,_,_,_,by first | rfl | (rw [HL.out];rfl),HW14.out⟩,HR14.out,HV14.out⟩)
  ·
   obtain ⟨a,af,az⟩:=opc_ HW5.out.open_
   have U:=bd6_ HU5
   have E:=bd7_ HE5
   obtain ⟨R0,R1,R2,R3,R4,R5,-,-⟩:=box6_ HR5
   obtain ⟨V0,V1,-,-⟩:=box2_ HV5
   have HK : Hid (stepS b ⟨5,key,ch,ot,amt,fee,yes⟩ = admitS b ⟨5,key,ch,ot,amt,fee,yes⟩ (chanOf b.cs ch) (chanOf b.cs ot)):=hd_ rfl
   go_wp2_with fail
   clear a af az U E R0 R1 R2 R3 R4 R5 V0 V1
   refine (s_l07Admit w w5 w.heap.size X b _ _ _ _ _ _ _ _ ⟨5,key,ch,ot,amt,fee,yes⟩ HF HAmt HW0).mono ?_
   intro e' w9 hact
   obtain ⟨rfl,hend⟩:=AppEnd.of_acts HW0 (by decide) (by decide) HR5 HV5 hact
   have HE9:=hd_ hend
   clear hact hend
   go_wp2_with fail
   go_meet
   case rel => exact hd_ (by rw [HK.out];exact HE9)
  ·
   obtain ⟨a,af,az⟩:=opc_ HW5.out.open_
   have U:=bd6_ HU5
   have E:=bd7_ HE5
   obtain ⟨R0,R1,R2,R3,R4,R5,-,-⟩:=box6_ HR5
   obtain ⟨V0,V1,-,-⟩:=box2_ HV5
   have HK : Hid (stepS b ⟨6,key,ch,ot,amt,fee,yes⟩ = settleS b key true):=hd_ rfl
   go_wp2_with fail
   clear a af az U E R0 R1 R2 R3 R4 R5 V0 V1
   refine (ztf w w5 w.heap.size X b _ _ _ _ _ _ _ _ key true HF HW0).mono ?_
   intro e' w9 hact
   obtain ⟨rfl,hend⟩:=AppEnd.of_acts HW0 (by decide) (by decide) HR5 HV5 hact
   have HE9:=hd_ hend
   clear hact hend
   go_wp2_with fail
   go_meet
   case rel => exact hd_ (by rw [HK.out];exact HE9)
  ·
   obtain ⟨a,af,az⟩:=opc_ HW5.out.open_
   have U:=bd6_ HU5
   have E:=bd7_ HE5
   obtain ⟨R0,R1,R2,R3,R4,R5,-,-⟩:=box6_ HR5
   obtain ⟨V0,V1,-,-⟩:=box2_ HV5
   have HK : Hid (stepS b ⟨7,key,ch,ot,amt,fee,yes⟩ = settleS b key false):=hd_ rfl
   go_wp2_with fail
   clear a af az U E R0 R1 R2 R3 R4 R5 V0 V1
   refine (ztf w w5 w.heap.size X b _ _ _ _ _ _ _ _ key false HF HW0).mono ?_
   intro e' w9 hact
   obtain ⟨rfl,hend⟩:=AppEnd.of_acts HW0 (by decide) (by decide) HR5 HV5 hact
   have HE9:=hd_ hend
   clear hact hend
   go_wp2_with fail
   go_meet
   case rel => exact hd_ (by rw [HK.out];exact HE9)
  ·
   obtain ⟨a,af,az⟩:=opc_ HW5.out.open_
   have U:=bd6_ HU5
   have E:=bd7_ HE5
   obtain ⟨R0,R1,R2,R3,R4,R5,-,-⟩:=box6_ HR5
   obtain ⟨V0,V1,-,-⟩:=box2_ HV5
   have HK : Hid (stepS b ⟨8,key,ch,ot,amt,fee,yes⟩ = tickB b):=hd_ rfl
   go_wp2_with fail
   clear a af az U E R0 R1 R2 R3 R4 R5 V0 V1
   refine (s_l07Tick w w5 w.heap.size X b _ _ _ _ _ _ _ _ HF HW0).mono ?_
   intro e' w9 hact
   obtain ⟨rfl,hend⟩:=AppEnd.of_acts HW0 (by decide) (by decide) HR5 HV5 hact
   have HE9:=hd_ hend
   clear hact hend
   go_wp2_with fail
   go_meet
   case rel => exact hd_ (by rw [HK.out];exact HE9)
  ·
   obtain ⟨a,af,az⟩:=opc_ HW5.out.open_
   have U:=bd6_ HU5
   have E:=bd7_ HE5
   obtain ⟨R0,R1,R2,R3,R4,R5,-,-⟩:=box6_ HR5
   obtain ⟨V0,V1,-,-⟩:=box2_ HV5
   have HK : Hid (stepS b ⟨9,key,ch,ot,amt,fee,yes⟩ = launchS b ⟨9,key,ch,ot,amt,fee,yes⟩):=hd_ rfl
   go_wp2_with fail
   clear a af az U E R0 R1 R2 R3 R4 R5 V0 V1
   refine (s_l07Launch w w5 w.heap.size X b _ _ _ _ _ _ _ _ ⟨9,key,ch,ot,amt,fee,yes⟩ HF HAmt HFee HW0).mono ?_
   intro e' w9 hact
   obtain ⟨rfl,hend⟩:=AppEnd.of_acts HW0 (by decide) (by decide) HR5 HV5 hact
   have HE9:=hd_ hend
   clear hact hend
   go_wp2_with fail
   go_meet
   case rel => exact hd_ (by rw [HK.out];exact HE9)
  ·
   obtain ⟨a,af,az⟩:=opc_ HW5.out.open_
   have U:=bd6_ HU5
   have E:=bd7_ HE5
   obtain ⟨R0,R1,R2,R3,R4,R5,-,-⟩:=box6_ HR5
   obtain ⟨V0,V1,-,-⟩:=box2_ HV5
   have HK : Hid (stepS b ⟨10,key,ch,ot,amt,fee,yes⟩ = landS b key true):=hd_ rfl
   go_wp2_with fail
   clear a af az U E R0 R1 R2 R3 R4 R5 V0 V1
   refine (zsk w w5 w.heap.size X b _ _ _ _ _ _ _ _ key true HF HW0).mono ?_
   intro e' w9 hact
   obtain ⟨rfl,hend⟩:=AppEnd.of_acts HW0 (by decide) (by decide) HR5 HV5 hact
   have HE9:=hd_ hend
   clear hact hend
   go_wp2_with fail
   go_meet
   case rel => exact hd_ (by rw [HK.out];exact HE9)
  obtain ⟨a,af,az⟩:=opc_ HW5.out.open_
  have U:=bd6_ HU5
  have E:=bd7_ HE5
  obtain ⟨R0,R1,R2,R3,R4,R5,-,-⟩:=box6_ HR5
  obtain ⟨V0,V1,-,-⟩:=box2_ HV5
  have HK : Hid (stepS b ⟨11,key,ch,ot,amt,fee,yes⟩ = landS b key false):=hd_ rfl
  go_wp2_with fail
  clear a af az U E R0 R1 R2 R3 R4 R5 V0 V1
  refine (zsk w w5 w.heap.size X b _ _ _ _ _ _ _ _ key false HF HW0).mono ?_
  intro e' w9 hact
  obtain ⟨rfl,hend⟩:=AppEnd.of_acts HW0 (by decide) (by decide) HR5 HV5 hact
  have HE9:=hd_ hend
  clear hact hend
  go_wp2_with fail
  go_meet
  case rel => exact hd_ (by rw [HK.out];exact HE9)
 case rest =>
  obtain ⟨hcut,HR_wc0,HV_wc0⟩:=hcut.out
  have HR_wc:=hd_ HR_wc0
  have HV_wc:=hd_ HV_wc0
  have hGood:=zmp b ⟨k,key,ch,ot,amt,fee,yes⟩
  have HGood:=hd_ hGood
  clear HR_wc0 HV_wc0 hGood
  obtain ⟨o,ho⟩ : ∃ o,stepS b ⟨k,key,ch,ot,amt,fee,yes⟩ = o:=⟨_,rfl⟩
  rw [ho] at HO HGood hcut
  clear ho
  rcases hcut with ⟨hc0,b',D1,D2,D3,D4,s1,s2,s3,s4,hob,hwk⟩ | ⟨hc0,b',L',D1,D2,D3,D4,s1,s2,s3,s4,hwk⟩
  rotate_left
  ·
   have HC0:=hd_ hc0
   have hbad : o = bad o.code:=by
    rcases HGood with ⟨_,h9⟩ | ⟨h9,_⟩
    ·
     exact h9
    exact absurd h9 hc0
   have HO2:=hd_ (HO.out.trans hbad)
   clear hbad
   have tn : (o.code != 0) = true:=by rw [bne_iff_ne];exact HC0
   clear HO
   have HO:=HO2
   clear hc0
   obtain ⟨oc,hoc⟩ : ∃ c,o.code = c:=⟨_,rfl⟩
   rw [hoc] at HO tn hwk
   clear hoc HO2
   have HW_wc : Hid (Wk 108 w wc w.heap.size X ⟨b'.t,b'.n,b'.w,b'.cs,b'.hs,b'.os⟩ L' oc D1 D2 D3 D4 s1 s2 s3 s4):=hd_ hwk
   clear hwk
   obtain ⟨a,af,az⟩:=opc_ HW_wc.out.open_
   obtain ⟨R0,R1,R2,R3,R4,R5,-,-⟩:=box6_ HR_wc
   obtain ⟨V0,V1,-,-⟩:=box2_ HV_wc
   go_wp2_with fail
   refine zql (fun w' => kqiiissssi_ w' X b'.t b'.n b'.w D1 b'.cs.length s1 D2 b'.hs.length s2 D3 b'.os.length s3 D4 L'.length s4 oc) [yF 0 174,yF 1 175,yF 2 176,yF 3 177,yF 4 178,yF 5 179,yN 6,yN 7,yF 8 6] (by kernel_rfl) (by kernel_rfl) (by kernel_rfl) (q78_ a (p87_ a)) (fun hH => ?_)
   obtain ⟨w21,hwd⟩ : ∃ wd,wc.drew = wd:=⟨_,rfl⟩
   have HW21:=wkd_ hwd HW_wc
   have HR21:=hr_ hwd HR_wc
   have HV21:=hr_ hwd HV_wc
   clear a af az R0 R1 R2 R3 R4 R5 V0 V1
   rw [hwd] at hH ⊢
   clear hwd
   obtain ⟨a,af,az⟩:=opc_ HW21.out.open_
   obtain ⟨R0,R1,R2,R3,R4,R5,-,-⟩:=box6_ HR21
   obtain ⟨V0,V1,-,-⟩:=box2_ HV21
   refine tk_ ?_
   have cf9:=zqm HR21
   refine ss_ (fun K hK => ?_)
   go_simp
   refine zxu (fun w22 hw => ?_)
   have hg9 : w21.grownBy w22 (some RB):=by rw [hw];exact zqg (zqg (zqg (zqg (zqg (zqg (World.grownBy.refl w21 (some RB)) _ _) _ _) _ _) _ _) _ _) _ _
   have HW22 : Hid (Wk 108 w w22 w.heap.size X ⟨b'.t,b'.n,b'.w,b'.cs,b'.hs,b'.os⟩ L' oc D1 D2 D3 D4 s1 s2 s3 s4):=hd_ (HW21.out.aside2 HR21 HGR HGR (by decide) (by decide) (by decide) (by decide) (by decide) hg9)
   have HV22 : Hid (Hx w22 RP #[.int .i64 0,.slice none 0 0] 66):=hd_ (zqe hg9 (sn_ HNRV) HV21)
   have HR22 : Hid (Hx w22 RB (qaiiisss 0 0 0 none 0 0 none 0 0 none 0 0) 39):=hd_ (by rw [hw];exact zqa (zqa (zqa (zqa (zqa (zqa (HR21.out)))))))
   clear hw hg9 cf9 a af az R0 R1 R2 R3 R4 R5 V0 V1
   obtain ⟨a,af,az⟩:=opc_ HW22.out.open_
   obtain ⟨R0,R1,R2,R3,R4,R5,-,-⟩:=box6_ HR22
   obtain ⟨V0,V1,-,-⟩:=box2_ HV22
   go_simp
   refine hK.out _ _ (q78_ a (p87_ a)) (fun hH => ?_)
   clear hK K
   refine tk_ ?_
   have cf9:=zqm HV22
   refine ss_ (fun K hK => ?_)
   go_simp
   refine zxu (fun w23 hw => ?_)
   have hg9 : w22.grownBy w23 (some RP):=by rw [hw];exact zqg (zqg (World.grownBy.refl w22 (some RP)) _ _) _ _
   have HW23 : Hid (Wk 108 w w23 w.heap.size X ⟨b'.t,b'.n,b'.w,b'.cs,b'.hs,b'.os⟩ L' oc D1 D2 D3 D4 s1 s2 s3 s4):=hd_ (HW22.out.aside2 HV22 HGV HGV (by decide) (by decide) (by decide) (by decide) (by decide) hg9)
   have HR23 : Hid (Hx w23 RB (qaiiisss 0 0 0 none 0 0 none 0 0 none 0 0) 39):=hd_ (zqe hg9 (sn_ HNVR) HR22)
   have HV23 : Hid (Hx w23 RP #[.int .i64 0,.slice none 0 0] 66):=hd_ (by rw [hw];exact zqa (zqa (HV22.out)))
   clear hw hg9 cf9 a af az R0 R1 R2 R3 R4 R5 V0 V1
   obtain ⟨a,af,az⟩:=opc_ HW23.out.open_
   obtain ⟨R0,R1,R2,R3,R4,R5,-,-⟩:=box6_ HR23
   obtain ⟨V0,V1,-,-⟩:=box2_ HV23
   go_simp
   refine hK.out _ _ (q78_ a (p87_ a)) (fun hH => ?_)
   clear hK K
   refine tk_ ?_
   refine Sq.done (NoPanic.normal ?_)
   go_wp2_with fail
   refine bodyPost_ret (v:=.tuple #[.agg #[.int .i64 0,.int .i64 0,.int .i64 0,.slice none 0 0,.slice none 0 0,.slice none 0 0],.agg #[.int .i64 0,.slice none 0 0],.int .i64 oc]) (by simp [results,Tryz.results29,go_sem, *]) rfl ?_
   rw [HO.out]
   exact ⟨bk0,[],0,none,none,none,none,0,0,0,0,rfl,OwB.nil_ _ _ _ _ _,Ow.nil_,HW23.out.b,rfl,rfl,rfl⟩
  have hn9 : b'.n = b.n:=by
   rcases HGood with ⟨h9,_⟩ | ⟨_,h9⟩
   ·
    exact absurd hc0 h9
   rw [hob] at h9
   simp only at h9
   split at h9 <;> omega
  obtain ⟨l,hl⟩ : ∃ l,o.l = l:=⟨_,rfl⟩
  rw [hl] at hwk hob
  have HOL:=hd_ hl
  have HOB:=hd_ hob
  have HC0:=hd_ hc0
  have HN9:=hd_ hn9
  have hna9 : 1 ≤ b'.n∧b'.n ≤ 1125899906842624:=by omega
  obtain ⟨n1,n2⟩:=hna9
  clear hl hob hc0 hn9
  cases l with
  | nil =>
   have HW_wc : Hid (Wk 108 w wc w.heap.size X ⟨b'.t,b'.n,b'.w,b'.cs,b'.hs,b'.os⟩ ([] : List Line) 0 D1 D2 D3 D4 s1 s2 s3 s4):=hd_ hwk
   clear hwk
   obtain ⟨a,af,az⟩:=opc_ HW_wc.out.open_
   obtain ⟨R0,R1,R2,R3,R4,R5,-,-⟩:=box6_ HR_wc
   obtain ⟨V0,V1,-,-⟩:=box2_ HV_wc
   simp only [List.length_nil] at a
   have fR:=zqm HR_wc
   have fV:=zqm HV_wc
   have hn1 : ¬ RB = RP:=HNVR.out
   have hn2 : ¬ RP = RB:=HNRV.out
   go_wp2_with fail
   clear hn1 hn2
   refine nm_ ?_
   intro wz hw
   have hz1 : Hid (Hx wz RB (bkC b' D1 s1 D2 s2 D3 s3) 39):=hd_ (by rw [hw];exact zqb HNVR (zqb HNVR (zqa (zqa (zqa (zqa (zqa (zqa (HR_wc.out)))))))))
   have hz2 : Hid (Hx wz RP #[.int .i64 0,.slice none 0 0] 66):=hd_ (by rw [hw];exact zqa (zqa (zqb HNRV (zqb HNRV (zqb HNRV (zqb HNRV (zqb HNRV (zqb HNRV (HV_wc.out)))))))))
   obtain ⟨wy,hwy⟩ : ∃ v,((((((wc.setCell ⟨RB,0,none⟩ (.int .i64 b'.t)).setCell ⟨RB,1,none⟩ (.int .i64 b'.n)).setCell ⟨RB,2,none⟩ (.int .i64 b'.w)).setCell ⟨RB,3,none⟩ (.slice D1 b'.cs.length s1)).setCell ⟨RB,4,none⟩ (.slice D2 b'.hs.length s2)).setCell ⟨RB,5,none⟩ (.slice D3 b'.os.length s3)) = v:=⟨_,rfl⟩
   have hg8 : wc.grownBy wy (some RB):=by rw [← hwy];exact zqg (zqg (zqg (zqg (zqg (zqg (World.grownBy.refl wc (some RB)) _ _) _ _) _ _) _ _) _ _) _ _
   have HWy:=hd_ (HW_wc.out.aside2 HR_wc HGR HGR (by decide) (by decide) (by decide) (by decide) (by decide) hg8)
   have HVy:=zqe hg8 (sn_ HNRV) HV_wc
   rw [hwy] at hw
   have hg9 : wy.grownBy wz (some RP):=by rw [hw];exact zqg (zqg (World.grownBy.refl wy (some RP)) _ _) _ _
   have HWz:=hd_ (HWy.out.aside2 HVy HGV HGV (by decide) (by decide) (by decide) (by decide) (by decide) hg9)
   clear hw hwy hg8 hg9 fR fV HVy HWy
   clear a af az R0 R1 R2 R3 R4 R5 V0 V1
   have R0:=zqc hz1.out 0
   have R1:=zqc hz1.out 1
   have R2:=zqc hz1.out 2
   have R3:=zqc hz1.out 3
   have R4:=zqc hz1.out 4
   have R5:=zqc hz1.out 5
   have V0:=zqc hz2.out 0
   have V1:=zqc hz2.out 1
   simp only [List.getElem?_toArray,List.getElem?_cons_zero,List.getElem?_cons_succ] at R0 R1 R2 R3 R4 R5 V0 V1
   refine bodyPost_ret (v:=.tuple #[.agg #[.int .i64 b'.t,.int .i64 b'.n,.int .i64 b'.w,.slice D1 b'.cs.length s1,.slice D2 b'.hs.length s2,.slice D3 b'.os.length s3],.agg #[.int .i64 0,.slice none 0 0],.int .i64 0]) (by simp [results,Tryz.results29,go_sem, *]) rfl ?_
   rw [HO.out]
   have hob2 : b' = o.b:=by rw [HOB.out];rfl
   have hol2 : ([] : List Line) = o.l:=HOL.out.symm
   exact ⟨b',[],0,D1,D2,D3,none,s1,s2,s3,0,by rw [HC0.out];rfl,HWz.out.o,Ow.nil_,HWz.out.b,hob2,hol2,by rw [if_pos hol2.symm]⟩
  | cons l0 ls =>
   obtain ⟨l,hl⟩ : ∃ l,l0 :: ls = l:=⟨_,rfl⟩
   have hlen : 0 < l.length:=by rw [← hl];simp
   have hne : l ≠ []:=by rw [← hl];simp
   rw [hl] at HOL HOB hwk
   have HNE:=hd_ hne
   clear hl hne
   have tl : ((l.length : Int) == 0) = false:=by rw [beq_eq_false_iff_ne];omega
   have HW_wc : Hid (Wk 108 w wc w.heap.size X ⟨b'.t,b'.n,b'.w,b'.cs,b'.hs,b'.os⟩ l 0 D1 D2 D3 D4 s1 s2 s3 s4):=hd_ hwk
   clear hwk
   obtain ⟨a,af,az⟩:=opc_ HW_wc.out.open_
   obtain ⟨R0,R1,R2,R3,R4,R5,-,-⟩:=box6_ HR_wc
   obtain ⟨V0,V1,-,-⟩:=box2_ HV_wc
   go_wp2_with fail
   clear tl
   refine zqs (fun w' => kqiiissss w' X b'.t b'.n b'.w D1 b'.cs.length s1 D2 b'.hs.length s2 D3 b'.os.length s3 D4 l.length s4 (kqiiisss w' RB 0 0 0 none 0 0 none 0 0 none 0 0 (kqis_ w' RP 0 none 0 0))) [yF 0 191,yF 1 192,yF 2 193,yF 3 194,yF 4 195,yF 5 196,yF 6 197,yF 7 198,yF 8 199,yF 9 200,yT 10 12] rfl (by kernel_rfl) (by kernel_rfl) (by kernel_rfl) (by kernel_rfl) (by kernel_rfl) (by kernel_rfl) (q78_ a ⟨R0,R1,R2,R3,R4,R5,V0,V1⟩) (fun hH => ?_)
   obtain ⟨w21,hwd⟩ : ∃ wd,wc.drew = wd:=⟨_,rfl⟩
   have HW21:=wkd_ hwd HW_wc
   have HR21:=hr_ hwd HR_wc
   have HV21:=hr_ hwd HV_wc
   clear a af az R0 R1 R2 R3 R4 R5 V0 V1
   rw [hwd] at hH ⊢
   clear hwd
   obtain ⟨a,af,az⟩:=opc_ HW21.out.open_
   obtain ⟨R0,R1,R2,R3,R4,R5,-,-⟩:=box6_ HR21
   obtain ⟨V0,V1,-,-⟩:=box2_ HV21
   refine tk_ ?_
   refine ss_ (fun K hK => ?_)
   go_simp
   refine zxu (fun w22 hw => ?_)
   obtain ⟨PB,hC⟩ : ∃ C,C = w21.heap.size:=⟨_,rfl⟩
   rw [← hC]
   have HW22:=wka_ hw HW21
   have HR22:=ha_ hw HR21
   have HV22:=ha_ hw HV21
   have HQ22 : Hid (Hx w22 PB #[.int .i64 0,.slice none 0 0] 66):=hd_ (by rw [hw,hC];exact zqi rfl)
   have HXQ : Hid (PB ≠ X):=hd_ (by have:=HW21.out.lt;omega)
   have HGQ : Hid (w.heap.size ≤ PB):=hd_ (by rw [hC];exact HW21.out.ble)
   have HNQR : Hid (RB ≠ PB):=hd_ (by have:=(gz_ HR21).1;omega)
   have HNRQ : Hid (PB ≠ RB):=hd_ (fun e9 => HNQR.out e9.symm)
   have HNQV : Hid (RP ≠ PB):=hd_ (by have:=(gz_ HV21).1;omega)
   have HNVQ : Hid (PB ≠ RP):=hd_ (fun e9 => HNQV.out e9.symm)
   clear hw hC a af az R0 R1 R2 R3 R4 R5 V0 V1
   obtain ⟨a,af,az⟩:=opc_ HW22.out.open_
   obtain ⟨R0,R1,R2,R3,R4,R5,-,-⟩:=box6_ HR22
   obtain ⟨V0,V1,-,-⟩:=box2_ HV22
   have Q:=bd2_ HQ22
   go_simp
   refine hK.out _ _ (q78_ a ⟨R0,R1,R2,R3,R4,R5,V0,V1⟩) (fun hH => ?_)
   clear hK K
   refine tk_ ?_
   have cf9:=zqm HQ22
   refine Sq.done ?_
   intro KK hKK
   go_simp
   refine hKK _ _ (NoPanic.normal ?_)
   refine nm_ ?_
   intro w23 hw
   have hg9 : w22.grownBy w23 (some PB):=by rw [hw];exact zqg (zqg (World.grownBy.refl w22 (some PB)) _ _) _ _
   have HW23 : Hid (Wk 108 w w23 w.heap.size X ⟨b'.t,b'.n,b'.w,b'.cs,b'.hs,b'.os⟩ l 0 D1 D2 D3 D4 s1 s2 s3 s4):=hd_ (HW22.out.aside2 HQ22 HGQ HGQ (by decide) (by decide) (by decide) (by decide) (by decide) hg9)
   have HR23 : Hid (Hx w23 RB (qaiiisss 0 0 0 none 0 0 none 0 0 none 0 0) 39):=hd_ (zqe hg9 (sn_ HNQR) HR22)
   have HV23 : Hid (Hx w23 RP #[.int .i64 0,.slice none 0 0] 66):=hd_ (zqe hg9 (sn_ HNQV) HV22)
   have HQ23 : Hid (Hx w23 PB #[.int .i64 b'.n,.slice D4 l.length s4] 66):=hd_ (by rw [hw];exact zqa (zqa (HQ22.out)))
   clear hw hg9 a af az R0 R1 R2 R3 R4 R5 V0 V1 Q
   obtain ⟨a,af,az⟩:=opc_ HW23.out.open_
   obtain ⟨R0,R1,R2,R3,R4,R5,-,-⟩:=box6_ HR23
   obtain ⟨V0,V1,-,-⟩:=box2_ HV23
   have Q:=bd2_ HQ23
   clear cf9
   skip
   go_wp2_with fail
   refine nm_ ?_
   intro w24 hw
   have HW24 : Hid (Wk 108 w w24 w.heap.size X ⟨b'.t,b'.n + 1,b'.w,b'.cs,b'.hs,b'.os⟩ l 0 D1 D2 D3 D4 s1 s2 s3 s4):=hd_ (by rw [hw];exact HW23.out.setNext (by decide) (by decide) (by decide) (by decide) _)
   have HR24:=hf_ hw HXR HR23
   have HV24:=hf_ hw HXV HV23
   have HQ24:=hf_ hw HXQ HQ23
   clear hw
   clear a af az R0 R1 R2 R3 R4 R5 V0 V1 Q
   obtain ⟨a,af,az⟩:=opc_ HW24.out.open_
   obtain ⟨R0,R1,R2,R3,R4,R5,-,-⟩:=box6_ HR24
   obtain ⟨V0,V1,-,-⟩:=box2_ HV24
   have Q:=bd2_ HQ24
   refine zql (fun w' => kqiiissss w' X b'.t (b'.n + 1) b'.w D1 b'.cs.length s1 D2 b'.hs.length s2 D3 b'.os.length s3 D4 l.length s4 (kqis_ w' PB b'.n D4 l.length s4)) [yF 0 210,yF 1 211,yF 2 212,yF 3 213,yF 4 214,yN 5,yN 6,yF 7 6] (by kernel_rfl) (by kernel_rfl) (by kernel_rfl) (q78_ a Q) (fun hH => ?_)
   obtain ⟨w25,hwd⟩ : ∃ wd,w24.drew = wd:=⟨_,rfl⟩
   have HW25:=wkd_ hwd HW24
   have HR25:=hr_ hwd HR24
   have HV25:=hr_ hwd HV24
   have HQ25:=hr_ hwd HQ24
   clear a af az R0 R1 R2 R3 R4 R5 V0 V1 Q
   rw [hwd] at hH ⊢
   clear hwd
   obtain ⟨a,af,az⟩:=opc_ HW25.out.open_
   obtain ⟨R0,R1,R2,R3,R4,R5,-,-⟩:=box6_ HR25
   obtain ⟨V0,V1,-,-⟩:=box2_ HV25
   have Q:=bd2_ HQ25
   refine tk_ ?_
   have cf9:=zqm HR25
   refine ss_ (fun K hK => ?_)
   go_simp
   refine zxu (fun w26 hw => ?_)
   have hg9 : w25.grownBy w26 (some RB):=by rw [hw];exact zqg (zqg (zqg (zqg (zqg (zqg (World.grownBy.refl w25 (some RB)) _ _) _ _) _ _) _ _) _ _) _ _
   have HW26 : Hid (Wk 108 w w26 w.heap.size X ⟨b'.t,b'.n + 1,b'.w,b'.cs,b'.hs,b'.os⟩ l 0 D1 D2 D3 D4 s1 s2 s3 s4):=hd_ (HW25.out.aside2 HR25 HGR HGR (by decide) (by decide) (by decide) (by decide) (by decide) hg9)
   have HV26 : Hid (Hx w26 RP #[.int .i64 0,.slice none 0 0] 66):=hd_ (zqe hg9 (sn_ HNRV) HV25)
   have HQ26 : Hid (Hx w26 PB #[.int .i64 b'.n,.slice D4 l.length s4] 66):=hd_ (zqe hg9 (sn_ HNRQ) HQ25)
   have HR26 : Hid (Hx w26 RB (qaiiisss b'.t (b'.n + 1) b'.w D1 b'.cs.length s1 D2 b'.hs.length s2 D3 b'.os.length s3) 39):=hd_ (by rw [hw];exact zqa (zqa (zqa (zqa (zqa (zqa (HR25.out)))))))
   clear hw hg9 cf9 a af az R0 R1 R2 R3 R4 R5 V0 V1 Q
   obtain ⟨a,af,az⟩:=opc_ HW26.out.open_
   obtain ⟨R0,R1,R2,R3,R4,R5,-,-⟩:=box6_ HR26
   obtain ⟨V0,V1,-,-⟩:=box2_ HV26
   have Q:=bd2_ HQ26
   go_simp
   refine hK.out _ _ (q78_ a Q) (fun hH => ?_)
   clear hK K
   refine tk_ ?_
   have cf9:=zqm HV26
   refine ss_ (fun K hK => ?_)
   go_simp
   refine zxu (fun w27 hw => ?_)
   have hg9 : w26.grownBy w27 (some RP):=by rw [hw];exact zqg (zqg (World.grownBy.refl w26 (some RP)) _ _) _ _
   have HW27 : Hid (Wk 108 w w27 w.heap.size X ⟨b'.t,b'.n + 1,b'.w,b'.cs,b'.hs,b'.os⟩ l 0 D1 D2 D3 D4 s1 s2 s3 s4):=hd_ (HW26.out.aside2 HV26 HGV HGV (by decide) (by decide) (by decide) (by decide) (by decide) hg9)
   have HR27 : Hid (Hx w27 RB (qaiiisss b'.t (b'.n + 1) b'.w D1 b'.cs.length s1 D2 b'.hs.length s2 D3 b'.os.length s3) 39):=hd_ (zqe hg9 (sn_ HNVR) HR26)
   have HQ27 : Hid (Hx w27 PB #[.int .i64 b'.n,.slice D4 l.length s4] 66):=hd_ (zqe hg9 (sn_ HNVQ) HQ26)
   have HV27 : Hid (Hx w27 RP #[.int .i64 b'.n,.slice D4 l.length s4] 66):=hd_ (by rw [hw];exact zqa (zqa (HV26.out)))
   clear hw hg9 cf9 a af az R0 R1 R2 R3 R4 R5 V0 V1 Q
   obtain ⟨a,af,az⟩:=opc_ HW27.out.open_
   obtain ⟨R0,R1,R2,R3,R4,R5,-,-⟩:=box6_ HR27
   obtain ⟨V0,V1,-,-⟩:=box2_ HV27
   have Q:=bd2_ HQ27
   go_simp
   refine hK.out _ _ (q78_ a Q) (fun hH => ?_)
   clear hK K
   refine tk_ ?_
   refine Sq.done (NoPanic.normal ?_)
   go_wp2_with fail
   refine bodyPost_ret (v:=.tuple #[.agg #[.int .i64 b'.t,.int .i64 (b'.n + 1),.int .i64 b'.w,.slice D1 b'.cs.length s1,.slice D2 b'.hs.length s2,.slice D3 b'.os.length s3],.agg #[.int .i64 b'.n,.slice D4 l.length s4],.int .i64 0]) (by simp [results,Tryz.results29,go_sem, *]) rfl ?_
   rw [HO.out]
   have hob2 : (⟨b'.t,b'.n + 1,b'.w,b'.cs,b'.hs,b'.os⟩ : Bk) = o.b:=by rw [HOB.out,if_neg HNE.out]
   have hol2 : l = o.l:=HOL.out.symm
   exact ⟨⟨b'.t,b'.n + 1,b'.w,b'.cs,b'.hs,b'.os⟩,l,b'.n,D1,D2,D3,D4,s1,s2,s3,s4,by rw [HC0.out],HW27.out.o,HW27.out.l,HW27.out.b,hob2,hol2,by rw [← hol2,if_neg HNE.out];exact HN9.out⟩
theorem s_Apply (b : Bk) (e : Event) (A1 A2 A3 : Option Addr) (p1 p2 p3 : Nat) (w : World) (hlc : b.cs.length ≤ 1048576) (hlh : b.hs.length ≤ 1048576) (hlo : b.os.length ≤ 1048576) (hr : RdBook w w.heap.size A1 b.cs A2 b.hs A3 b.os) :
  Calls Tryz.prog 29 #[.agg #[.int .i64 b.t,.int .i64 b.n,.int .i64 b.w,.slice A1 b.cs.length p1,.slice A2 b.hs.length p2,.slice A3 b.os.length p3],.agg #[.int .i64 e.Kind,.int .i64 e.Key,.int .i64 e.Ch,.int .i64 e.To,.int .i64 e.Amt,.int .i64 e.Fee,.bool e.Yes]] w (ApplyP w (applyS b e) b.n):=by
 obtain ⟨k,key,ch,ot,amt,fee,yes⟩:=e
 cases hv : b.ok && evB ⟨k,key,ch,ot,amt,fee,yes⟩
 ·
  exact s_Apply_no b k key ch ot amt fee yes A1 A2 A3 p1 p2 p3 w hlc hlh hlo hr hv
 exact s_Apply_yes b k key ch ot amt fee yes A1 A2 A3 p1 p2 p3 w hlc hlh hlo hr hv
end Go.Proofs.YtdbmkfmenfcbiaaGreat
