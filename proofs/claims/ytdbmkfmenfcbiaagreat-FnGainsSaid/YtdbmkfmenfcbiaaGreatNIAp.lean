/- An event is applied: the program's walk. -/
import Derived.Test.YtdbmkfmenfcbiaaGreatRows
import Derived.Test.YtdbmkfmenfcbiaaGreatNM4
import Derived.Test.YtdbmkfmenfcbiaaGreatNM2
import Derived.Test.YtdbmkfmenfcbiaaGreatNIEv
import Derived.Test.YtdbmkfmenfcbiaaGreatNM5
import Derived.Test.YtdbmkfmenfcbiaaGreatNM3
import Derived.Test.YtdbmkfmenfcbiaaGreatNIOp
import Derived.Test.YtdbmkfmenfcbiaaGreatNISh
import Derived.Test.YtdbmkfmenfcbiaaGreatNISe
import Derived.Test.YtdbmkfmenfcbiaaGreatNILa
import Derived.Test.YtdbmkfmenfcbiaaGreatNITi
import Derived.Test.YtdbmkfmenfcbiaaGreatNIAd
import Derived.Test.YtdbmkfmenfcbiaaGreatNSApply
import Derived.RegionTactic
import Derived.Deep.CutRange
import Derived.Deep.CutBlock
namespace Go.Proofs.YtdbmkfmenfcbiaaGreat
open Go.RowKit Go.Deep
theorem zki {T : TypeId} {w w' : World} {B X k : Nat} {o : Out} {e : Ending} {cs : Array Value} {t : TypeId} (h : Acts T w B X o e w') (hk : w.heap[k]? = some (.cells cs t (0,0))) (ht : t ∉ wkTs T) : w'.heap[k]? = some (.cells cs t (0,0)):=by
 rcases h with ⟨_,_,_,_,_,_,_,_,_,_,_,_,hw⟩ | ⟨_,_,_,_,_,_,_,_,_,_,_,_,hw⟩
 ·
  exact hw.box hk ht
 exact hw.box hk ht
theorem ev_key {e : Event} (h : evB e = true) (hk : e.Kind = 6 ∨ e.Kind = 7 ∨ e.Kind = 10 ∨ e.Kind = 11) : 1 ≤ e.Key:=by
 obtain ⟨k,key,ch,ot,amt,fee,yes⟩:=e
 unfold evB at h
 simp only at h hk ⊢
 (repeat' split at h) <;> first | (cases h;done) | (simp only [Bool.and_eq_true,beq_iff_eq,zjj,zja] at h;omega)
theorem ev_two {e : Event} (h : evB e = true) (hk : e.Kind = 5 ∨ e.Kind = 9) : e.Ch ≠ e.To:=by
 obtain ⟨k,key,ch,ot,amt,fee,yes⟩:=e
 unfold evB at h
 simp only at h hk ⊢
 (repeat' split at h) <;> first | (cases h;done) | (simp only [Bool.and_eq_true,beq_iff_eq,zjj,zja,bne_iff_ne] at h;omega)
set_option maxRecDepth 100000 in
set_option maxHeartbeats 2000000 in
theorem i_ch_miss (w0 w : World) (B X : Nat) (b : Bk) (L : List Line) (code : Int) (A1 A2 A3 A4 : Option Addr) (p1 p2 p3 p4 : Nat) (id : Int) (hcl : b.cs.length ≤ 1048576) (h0 : chanIx b.cs id < 0) (h : Wk 136 w0 w B X b L code A1 A2 A3 A4 p1 p2 p3 p4) :
  Calls Tryz.prog 91 #[.pointer (some ⟨X,0,none⟩),.int .i64 id] w fun e w' => ∃ w2 : World,e = .returned (.pointer (some ⟨w2.heap.size,0,none⟩))∧w' = w2.alloc (.cells #[.int .i64 0,.int .i64 0,.int .i64 0,.int .i64 0,.int .i64 0,.int .i64 0,.int .i64 0] 103 (0,0))∧Wk 136 w w2 B X b L (failF code true 6) A1 A2 A3 A4 p1 p2 p3 p4∧OnlyX X w w2:=by
 have H:=hd_ h.here
 obtain ⟨a,af,az⟩:=opc_ h.open_
 clear h
 obtain ⟨x,hx⟩ : ∃ x,chanIx b.cs id = x:=⟨_,rfl⟩
 rw [hx] at h0
 have HX:=hd_ hx
 clear hx
 go_enter Tryz.func91,Tryz.ntmps91
 go_wp2_with fail
 refine (zkc b.t b.n b.w b.cs b.hs b.os _ _ _ _ _ _ id _ hcl ⟨H.out.o.c.rd,H.out.o.h.rd,H.out.o.o.rd⟩).mono ?_
 rintro e w1 ⟨rfl,hb1⟩
 rw [HX.out]
 have H1:=hd_ (H.out.below hb1)
 have HO1:=hd_ (OnlyX.of_below (X:=X) hb1)
 clear hb1 a af az
 go_wp2_with fail
 refine (zjf _ _ B X b L code A1 A2 A3 A4 p1 p2 p3 p4 true 6 H1).mono ?_
 rintro e w2 ⟨rfl,h2,ho2⟩
 have H2:=hd_ (H1.out.trans h2)
 have HO2:=hd_ (HO1.out.trans ho2)
 clear h2 ho2
 go_wp2_with fail
 go_ret
 exact ⟨w2,rfl,rfl,H2.out,HO2.out⟩
set_option maxRecDepth 100000 in
set_option maxHeartbeats 4000000 in
theorem i_Apply_no (b : Bk) (k key ch ot amt fee : Int) (yes : Bool) (A1 A2 A3 : Option Addr) (p1 p2 p3 : Nat) (w : World) (hlc : b.cs.length ≤ 1048576) (hlh : b.hs.length ≤ 1048576) (hlo : b.os.length ≤ 1048576) (hr : RdBook w w.heap.size A1 b.cs A2 b.hs A3 b.os) (hno : (b.ok && evB ⟨k,key,ch,ot,amt,fee,yes⟩) = false) :
  Calls Tryz.prog 44 #[.agg #[.int .i64 b.t,.int .i64 b.n,.int .i64 b.w,.slice A1 b.cs.length p1,.slice A2 b.hs.length p2,.slice A3 b.os.length p3],.agg #[.int .i64 k,.int .i64 key,.int .i64 ch,.int .i64 ot,.int .i64 amt,.int .i64 fee,.bool yes]] w (ApplyP w (applyS b ⟨k,key,ch,ot,amt,fee,yes⟩) b.n):=by
 have HRd:=hd_ hr
 clear hr
 have HO:=hd_ (zvx hno)
 cases hok : b.ok
 ·
  have HOK : Hid (bookB b.t b.n b.w b.cs b.hs b.os = false):=hd_ hok
  clear hno hok
  go_enter Tryz.func44,Tryz.ntmps44
  go_wp2_with fail
  obtain ⟨EB,hEB⟩ : ∃ v,v = w.heap.size + 1:=⟨_,rfl⟩
  rw [← hEB]
  obtain ⟨RB,hRB⟩ : ∃ v,v = EB + 1:=⟨_,rfl⟩
  try rw [← hRB]
  obtain ⟨RP,hRP⟩ : ∃ v,v = RB + 1:=⟨_,rfl⟩
  try rw [← hRP]
  obtain ⟨BB,hBB⟩ : ∃ v,v = w.heap.size:=⟨_,rfl⟩
  rw [← hBB]
  refine nm_ ?_
  intro w1 hw
  have HU1 : Hid (Hx w1 BB (bkC b A1 p1 A2 p2 A3 p3) 39):=hd_ (by rw [hw,hBB];exact hp_)
  have HE1 : Hid (Hx w1 EB (qaiiiiiib k key ch ot amt fee yes) 64):=hd_ (by rw [hw,hEB];exact hp_)
  have HR1 : Hid (Hx w1 RB (qaiiisss 0 0 0 none 0 0 none 0 0 none 0 0) 39):=hd_ (by rw [hw,hRB,hEB];exact hp_)
  have HV1 : Hid (Hx w1 RP #[.int .i64 0,.slice none 0 0] 66):=hd_ (by rw [hw,hRP,hRB,hEB];exact hp_)
  have HB1 : Hid (Below w.heap.size w w1):=hd_ (by rw [hw];exact bl_)
  have HGU : Hid (w.heap.size ≤ BB):=hd_ (by omega)
  have HGE : Hid (w.heap.size ≤ EB):=hd_ (by omega)
  have HGR : Hid (w.heap.size ≤ RB):=hd_ (by omega)
  have HGV : Hid (w.heap.size ≤ RP):=hd_ (by omega)
  have HNUE : Hid (EB ≠ BB):=hd_ (by omega)
  have HNUR : Hid (RB ≠ BB):=hd_ (by omega)
  have HNUV : Hid (RP ≠ BB):=hd_ (by omega)
  have HNEU : Hid (BB ≠ EB):=hd_ (by omega)
  have HNER : Hid (RB ≠ EB):=hd_ (by omega)
  have HNEV : Hid (RP ≠ EB):=hd_ (by omega)
  have HNRU : Hid (BB ≠ RB):=hd_ (by omega)
  have HNRE : Hid (EB ≠ RB):=hd_ (by omega)
  have HNRV : Hid (RP ≠ RB):=hd_ (by omega)
  have HNVU : Hid (BB ≠ RP):=hd_ (by omega)
  have HNVE : Hid (EB ≠ RP):=hd_ (by omega)
  have HNVR : Hid (RB ≠ RP):=hd_ (by omega)
  have hRPl : Hid (RP < w1.heap.size∧w.heap.size ≤ w1.heap.size):=hd_ ⟨(gz_ HV1).1,HB1.out.size⟩
  clear hw hBB hEB hRB hRP
  obtain ⟨U,-,Uz⟩:=bc6_ HU1
  obtain ⟨E,-,Ez⟩:=bc7_ HE1
  obtain ⟨R0,R1,R2,R3,R4,R5,-,Rz⟩:=box6_ HR1
  obtain ⟨V0,V1,-,Vz⟩:=box2_ HV1
  refine (zwc b.t b.n b.w b.cs b.hs b.os _ _ _ _ _ _ _ hlc hlh hlo ((HRd.out.below HB1).more HB1.out.size)).mono ?_
  rintro e' w2 ⟨rfl,hb⟩
  rw [HOK.out]
  have HU2:=hb_ hb HU1
  have HE2:=hb_ hb HE1
  have HR2:=hb_ hb HR1
  have HV2:=hb_ hb HV1
  have HB2:=hd_ (HB1.out.trans (hb.mono HB1.out.size))
  clear hb
  clear U E R0 R1 R2 R3 R4 R5 V0 V1 Uz Ez Rz Vz
  obtain ⟨U,-,Uz⟩:=bc6_ HU2
  obtain ⟨E,-,Ez⟩:=bc7_ HE2
  obtain ⟨R0,R1,R2,R3,R4,R5,-,Rz⟩:=box6_ HR2
  obtain ⟨V0,V1,-,Vz⟩:=box2_ HV2
  have fR:=zqm HR2
  have fV:=zqm HV2
  have hn1 : ¬ RB = RP:=HNVR.out
  have hn2 : ¬ RP = RB:=HNRV.out
  go_wp2_with fail
  clear hn1 hn2
  refine nm_ ?_
  intro wz hw
  have hz1 : Hid (Hx wz RB (qaiiisss 0 0 0 none 0 0 none 0 0 none 0 0) 39):=hd_ (by rw [hw];exact zqb HNVR (zqb HNVR (zqa (zqa (zqa (zqa (zqa (zqa (HR2.out)))))))))
  have hz2 : Hid (Hx wz RP #[.int .i64 0,.slice none 0 0] 66):=hd_ (by rw [hw];exact zqa (zqa (zqb HNRV (zqb HNRV (zqb HNRV (zqb HNRV (zqb HNRV (zqb HNRV (HV2.out)))))))))
  have hz3 : Hid (Below w.heap.size w wz):=hd_ (by rw [hw];exact Below.setCell (Below.setCell (Below.setCell (Below.setCell (Below.setCell (Below.setCell (Below.setCell (Below.setCell (HB2.out) HGR.out _) HGR.out _) HGR.out _) HGR.out _) HGR.out _) HGR.out _) HGV.out _) HGV.out _)
  clear hw fR fV
  clear U E R0 R1 R2 R3 R4 R5 V0 V1 Uz Ez Rz Vz
  have R0:=zqc hz1.out 0
  have R1:=zqc hz1.out 1
  have R2:=zqc hz1.out 2
  have R3:=zqc hz1.out 3
  have R4:=zqc hz1.out 4
  have R5:=zqc hz1.out 5
  have V0:=zqc hz2.out 0
  have V1:=zqc hz2.out 1
  simp only [List.getElem?_toArray,List.getElem?_cons_zero,List.getElem?_cons_succ] at R0 R1 R2 R3 R4 R5 V0 V1
  refine bodyPost_ret (v:=.tuple #[.agg #[.int .i64 0,.int .i64 0,.int .i64 0,.slice none 0 0,.slice none 0 0,.slice none 0 0],.agg #[.int .i64 0,.slice none 0 0],.int .i64 1]) (by simp [results,Tryz.results44,go_sem, *]) rfl ?_
  rw [HO.out]
  exact ⟨bk0,[],0,none,none,none,none,0,0,0,0,rfl,OwB.nil_ _ _ _ _ _,Ow.nil_,hz3.out,rfl,rfl,rfl⟩
 have HOK : Hid (bookB b.t b.n b.w b.cs b.hs b.os = true):=hd_ hok
 have HEV : Hid (evB ⟨k,key,ch,ot,amt,fee,yes⟩ = false):=hd_ (by rw [hok,Bool.true_and] at hno;exact hno)
 clear hno hok
 go_enter Tryz.func44,Tryz.ntmps44
 go_wp2_with fail
 obtain ⟨EB,hEB⟩ : ∃ v,v = w.heap.size + 1:=⟨_,rfl⟩
 rw [← hEB]
 obtain ⟨RB,hRB⟩ : ∃ v,v = EB + 1:=⟨_,rfl⟩
 try rw [← hRB]
 obtain ⟨RP,hRP⟩ : ∃ v,v = RB + 1:=⟨_,rfl⟩
 try rw [← hRP]
 obtain ⟨BB,hBB⟩ : ∃ v,v = w.heap.size:=⟨_,rfl⟩
 rw [← hBB]
 refine nm_ ?_
 intro w1 hw
 have HU1 : Hid (Hx w1 BB (bkC b A1 p1 A2 p2 A3 p3) 39):=hd_ (by rw [hw,hBB];exact hp_)
 have HE1 : Hid (Hx w1 EB (qaiiiiiib k key ch ot amt fee yes) 64):=hd_ (by rw [hw,hEB];exact hp_)
 have HR1 : Hid (Hx w1 RB (qaiiisss 0 0 0 none 0 0 none 0 0 none 0 0) 39):=hd_ (by rw [hw,hRB,hEB];exact hp_)
 have HV1 : Hid (Hx w1 RP #[.int .i64 0,.slice none 0 0] 66):=hd_ (by rw [hw,hRP,hRB,hEB];exact hp_)
 have HB1 : Hid (Below w.heap.size w w1):=hd_ (by rw [hw];exact bl_)
 have HGU : Hid (w.heap.size ≤ BB):=hd_ (by omega)
 have HGE : Hid (w.heap.size ≤ EB):=hd_ (by omega)
 have HGR : Hid (w.heap.size ≤ RB):=hd_ (by omega)
 have HGV : Hid (w.heap.size ≤ RP):=hd_ (by omega)
 have HNUE : Hid (EB ≠ BB):=hd_ (by omega)
 have HNUR : Hid (RB ≠ BB):=hd_ (by omega)
 have HNUV : Hid (RP ≠ BB):=hd_ (by omega)
 have HNEU : Hid (BB ≠ EB):=hd_ (by omega)
 have HNER : Hid (RB ≠ EB):=hd_ (by omega)
 have HNEV : Hid (RP ≠ EB):=hd_ (by omega)
 have HNRU : Hid (BB ≠ RB):=hd_ (by omega)
 have HNRE : Hid (EB ≠ RB):=hd_ (by omega)
 have HNRV : Hid (RP ≠ RB):=hd_ (by omega)
 have HNVU : Hid (BB ≠ RP):=hd_ (by omega)
 have HNVE : Hid (EB ≠ RP):=hd_ (by omega)
 have HNVR : Hid (RB ≠ RP):=hd_ (by omega)
 have hRPl : Hid (RP < w1.heap.size∧w.heap.size ≤ w1.heap.size):=hd_ ⟨(gz_ HV1).1,HB1.out.size⟩
 clear hw hBB hEB hRB hRP
 obtain ⟨U,-,Uz⟩:=bc6_ HU1
 obtain ⟨E,-,Ez⟩:=bc7_ HE1
 obtain ⟨R0,R1,R2,R3,R4,R5,-,Rz⟩:=box6_ HR1
 obtain ⟨V0,V1,-,Vz⟩:=box2_ HV1
 refine (zwc b.t b.n b.w b.cs b.hs b.os _ _ _ _ _ _ _ hlc hlh hlo ((HRd.out.below HB1).more HB1.out.size)).mono ?_
 rintro e' w2 ⟨rfl,hb⟩
 rw [HOK.out]
 have HU2:=hb_ hb HU1
 have HE2:=hb_ hb HE1
 have HR2:=hb_ hb HR1
 have HV2:=hb_ hb HV1
 have HB2:=hd_ (HB1.out.trans (hb.mono HB1.out.size))
 clear hb
 clear U E R0 R1 R2 R3 R4 R5 V0 V1 Uz Ez Rz Vz
 obtain ⟨U,-,Uz⟩:=bc6_ HU2
 obtain ⟨E,-,Ez⟩:=bc7_ HE2
 obtain ⟨R0,R1,R2,R3,R4,R5,-,Rz⟩:=box6_ HR2
 obtain ⟨V0,V1,-,Vz⟩:=box2_ HV2
 go_wp2_with fail
 refine (zyt ⟨k,key,ch,ot,amt,fee,yes⟩ _).mono ?_
 rintro e' w3 ⟨rfl,hb⟩
 rw [HEV.out]
 have HU3:=hb_ hb HU2
 have HE3:=hb_ hb HE2
 have HR3:=hb_ hb HR2
 have HV3:=hb_ hb HV2
 have HB3:=hd_ (HB2.out.trans (hb.mono HB2.out.size))
 clear hb
 clear U E R0 R1 R2 R3 R4 R5 V0 V1 Uz Ez Rz Vz
 obtain ⟨U,-,Uz⟩:=bc6_ HU3
 obtain ⟨E,-,Ez⟩:=bc7_ HE3
 obtain ⟨R0,R1,R2,R3,R4,R5,-,Rz⟩:=box6_ HR3
 obtain ⟨V0,V1,-,Vz⟩:=box2_ HV3
 have fR:=zqm HR3
 have fV:=zqm HV3
 have hn1 : ¬ RB = RP:=HNVR.out
 have hn2 : ¬ RP = RB:=HNRV.out
 go_wp2_with fail
 clear hn1 hn2
 refine nm_ ?_
 intro wz hw
 have hz1 : Hid (Hx wz RB (qaiiisss 0 0 0 none 0 0 none 0 0 none 0 0) 39):=hd_ (by rw [hw];exact zqb HNVR (zqb HNVR (zqa (zqa (zqa (zqa (zqa (zqa (HR3.out)))))))))
 have hz2 : Hid (Hx wz RP #[.int .i64 0,.slice none 0 0] 66):=hd_ (by rw [hw];exact zqa (zqa (zqb HNRV (zqb HNRV (zqb HNRV (zqb HNRV (zqb HNRV (zqb HNRV (HV3.out)))))))))
 have hz3 : Hid (Below w.heap.size w wz):=hd_ (by rw [hw];exact Below.setCell (Below.setCell (Below.setCell (Below.setCell (Below.setCell (Below.setCell (Below.setCell (Below.setCell (HB3.out) HGR.out _) HGR.out _) HGR.out _) HGR.out _) HGR.out _) HGR.out _) HGV.out _) HGV.out _)
 clear hw fR fV
 clear U E R0 R1 R2 R3 R4 R5 V0 V1 Uz Ez Rz Vz
 have R0:=zqc hz1.out 0
 have R1:=zqc hz1.out 1
 have R2:=zqc hz1.out 2
 have R3:=zqc hz1.out 3
 have R4:=zqc hz1.out 4
 have R5:=zqc hz1.out 5
 have V0:=zqc hz2.out 0
 have V1:=zqc hz2.out 1
 simp only [List.getElem?_toArray,List.getElem?_cons_zero,List.getElem?_cons_succ] at R0 R1 R2 R3 R4 R5 V0 V1
 refine bodyPost_ret (v:=.tuple #[.agg #[.int .i64 0,.int .i64 0,.int .i64 0,.slice none 0 0,.slice none 0 0,.slice none 0 0],.agg #[.int .i64 0,.slice none 0 0],.int .i64 1]) (by simp [results,Tryz.results44,go_sem, *]) rfl ?_
 rw [HO.out]
 exact ⟨bk0,[],0,none,none,none,none,0,0,0,0,rfl,OwB.nil_ _ _ _ _ _,Ow.nil_,hz3.out,rfl,rfl,rfl⟩
set_option maxRecDepth 100000 in
set_option maxHeartbeats 4000000 in
theorem i_Apply_ov (b : Bk) (k key ch ot amt fee : Int) (yes : Bool) (A1 A2 A3 : Option Addr) (p1 p2 p3 : Nat) (w : World) (hlc : b.cs.length ≤ 1048576) (hlh : b.hs.length ≤ 1048576) (hlo : b.os.length ≤ 1048576) (hr : RdBook w w.heap.size A1 b.cs A2 b.hs A3 b.os) (hyes : (b.ok && evB ⟨k,key,ch,ot,amt,fee,yes⟩) = true) (hov : ovB b ⟨k,key,ch,ot,amt,fee,yes⟩ = true) :
  Calls Tryz.prog 44 #[.agg #[.int .i64 b.t,.int .i64 b.n,.int .i64 b.w,.slice A1 b.cs.length p1,.slice A2 b.hs.length p2,.slice A3 b.os.length p3],.agg #[.int .i64 k,.int .i64 key,.int .i64 ch,.int .i64 ot,.int .i64 amt,.int .i64 fee,.bool yes]] w (ApplyP w (applyS b ⟨k,key,ch,ot,amt,fee,yes⟩) b.n):=by
 have HRd:=hd_ hr
 clear hr
 have HO:=hd_ (ov_yes hyes hov)
 have HOV:=hd_ hov
 obtain ⟨hok,hev⟩:=(Bool.and_eq_true _ _).mp hyes
 have HOK : Hid (bookB b.t b.n b.w b.cs b.hs b.os = true):=hd_ hok
 have HEV : Hid (evB ⟨k,key,ch,ot,amt,fee,yes⟩ = true):=hd_ hev
 have hF:=zxw hok
 have HF:=hd_ hF
 obtain ⟨hma,hmf⟩:=zgf hev
 have HAmt : Hid (amtB amt = true):=hd_ hma
 have HFee : Hid (amtB fee = true):=hd_ hmf
 clear hyes hok hev hF hma hmf hov
 go_enter Tryz.func44,Tryz.ntmps44
 go_wp2_with fail
 obtain ⟨EB,hEB⟩ : ∃ v,v = w.heap.size + 1:=⟨_,rfl⟩
 rw [← hEB]
 obtain ⟨RB,hRB⟩ : ∃ v,v = EB + 1:=⟨_,rfl⟩
 try rw [← hRB]
 obtain ⟨RP,hRP⟩ : ∃ v,v = RB + 1:=⟨_,rfl⟩
 try rw [← hRP]
 obtain ⟨BB,hBB⟩ : ∃ v,v = w.heap.size:=⟨_,rfl⟩
 rw [← hBB]
 refine nm_ ?_
 intro w1 hw
 have HU1 : Hid (Hx w1 BB (bkC b A1 p1 A2 p2 A3 p3) 39):=hd_ (by rw [hw,hBB];exact hp_)
 have HE1 : Hid (Hx w1 EB (qaiiiiiib k key ch ot amt fee yes) 64):=hd_ (by rw [hw,hEB];exact hp_)
 have HR1 : Hid (Hx w1 RB (qaiiisss 0 0 0 none 0 0 none 0 0 none 0 0) 39):=hd_ (by rw [hw,hRB,hEB];exact hp_)
 have HV1 : Hid (Hx w1 RP #[.int .i64 0,.slice none 0 0] 66):=hd_ (by rw [hw,hRP,hRB,hEB];exact hp_)
 have HB1 : Hid (Below w.heap.size w w1):=hd_ (by rw [hw];exact bl_)
 have HGR : Hid (w.heap.size ≤ RB):=hd_ (by omega)
 have HGV : Hid (w.heap.size ≤ RP):=hd_ (by omega)
 have HNRV : Hid (RP ≠ RB):=hd_ (by omega)
 have HNVR : Hid (RB ≠ RP):=hd_ (by omega)
 have hRPl : Hid (RP < w1.heap.size∧w.heap.size ≤ w1.heap.size):=hd_ ⟨(gz_ HV1).1,HB1.out.size⟩
 clear hw hBB hEB hRB hRP
 obtain ⟨U,-,Uz⟩:=bc6_ HU1
 obtain ⟨E,-,Ez⟩:=bc7_ HE1
 obtain ⟨R0,R1,R2,R3,R4,R5,-,Rz⟩:=box6_ HR1
 obtain ⟨V0,V1,-,Vz⟩:=box2_ HV1
 refine (zwc b.t b.n b.w b.cs b.hs b.os _ _ _ _ _ _ _ hlc hlh hlo ((HRd.out.below HB1).more HB1.out.size)).mono ?_
 rintro e' w2 ⟨rfl,hb⟩
 rw [HOK.out]
 have HU2:=hb_ hb HU1
 have HE2:=hb_ hb HE1
 have HR2:=hb_ hb HR1
 have HV2:=hb_ hb HV1
 have HB2:=hd_ (HB1.out.trans (hb.mono HB1.out.size))
 clear hb
 clear U E R0 R1 R2 R3 R4 R5 V0 V1 Uz Ez Rz Vz
 obtain ⟨U,-,Uz⟩:=bc6_ HU2
 obtain ⟨E,-,Ez⟩:=bc7_ HE2
 obtain ⟨R0,R1,R2,R3,R4,R5,-,Rz⟩:=box6_ HR2
 obtain ⟨V0,V1,-,Vz⟩:=box2_ HV2
 go_wp2_with fail
 refine (zyt ⟨k,key,ch,ot,amt,fee,yes⟩ _).mono ?_
 rintro e' w3 ⟨rfl,hb⟩
 rw [HEV.out]
 have HU3:=hb_ hb HU2
 have HE3:=hb_ hb HE2
 have HR3:=hb_ hb HR2
 have HV3:=hb_ hb HV2
 have HB3:=hd_ (HB2.out.trans (hb.mono HB2.out.size))
 clear hb
 clear U E R0 R1 R2 R3 R4 R5 V0 V1 Uz Ez Rz Vz
 obtain ⟨U,-,Uz⟩:=bc6_ HU3
 obtain ⟨E,-,Ez⟩:=bc7_ HE3
 obtain ⟨R0,R1,R2,R3,R4,R5,-,Rz⟩:=box6_ HR3
 obtain ⟨V0,V1,-,Vz⟩:=box2_ HV3
 go_wp2_with fail
 refine (zyu b ⟨k,key,ch,ot,amt,fee,yes⟩ _ _ _ _ _ _ _ HF HAmt HFee ((HRd.out.below HB3).more HB3.out.size)).mono ?_
 rintro e' w4 ⟨rfl,hb⟩
 rw [HOV.out]
 have HU4:=hb_ hb HU3
 have HE4:=hb_ hb HE3
 have HR4:=hb_ hb HR3
 have HV4:=hb_ hb HV3
 have HB4:=hd_ (HB3.out.trans (hb.mono HB3.out.size))
 clear hb
 clear U E R0 R1 R2 R3 R4 R5 V0 V1 Uz Ez Rz Vz
 obtain ⟨U,-,Uz⟩:=bc6_ HU4
 obtain ⟨E,-,Ez⟩:=bc7_ HE4
 obtain ⟨R0,R1,R2,R3,R4,R5,-,Rz⟩:=box6_ HR4
 obtain ⟨V0,V1,-,Vz⟩:=box2_ HV4
 have fR:=zqm HR4
 have fV:=zqm HV4
 have hn1 : ¬ RB = RP:=HNVR.out
 have hn2 : ¬ RP = RB:=HNRV.out
 go_wp2_with fail
 clear hn1 hn2
 refine nm_ ?_
 intro wz hw
 have hz1 : Hid (Hx wz RB (qaiiisss 0 0 0 none 0 0 none 0 0 none 0 0) 39):=hd_ (by rw [hw];exact zqb HNVR (zqb HNVR (zqa (zqa (zqa (zqa (zqa (zqa (HR4.out)))))))))
 have hz2 : Hid (Hx wz RP #[.int .i64 0,.slice none 0 0] 66):=hd_ (by rw [hw];exact zqa (zqa (zqb HNRV (zqb HNRV (zqb HNRV (zqb HNRV (zqb HNRV (zqb HNRV (HV4.out)))))))))
 have hz3 : Hid (Below w.heap.size w wz):=hd_ (by rw [hw];exact Below.setCell (Below.setCell (Below.setCell (Below.setCell (Below.setCell (Below.setCell (Below.setCell (Below.setCell (HB4.out) HGR.out _) HGR.out _) HGR.out _) HGR.out _) HGR.out _) HGR.out _) HGV.out _) HGV.out _)
 clear hw fR fV
 clear U E R0 R1 R2 R3 R4 R5 V0 V1 Uz Ez Rz Vz
 have R0:=zqc hz1.out 0
 have R1:=zqc hz1.out 1
 have R2:=zqc hz1.out 2
 have R3:=zqc hz1.out 3
 have R4:=zqc hz1.out 4
 have R5:=zqc hz1.out 5
 have V0:=zqc hz2.out 0
 have V1:=zqc hz2.out 1
 simp only [List.getElem?_toArray,List.getElem?_cons_zero,List.getElem?_cons_succ] at R0 R1 R2 R3 R4 R5 V0 V1
 refine bodyPost_ret (v:=.tuple #[.agg #[.int .i64 0,.int .i64 0,.int .i64 0,.slice none 0 0,.slice none 0 0,.slice none 0 0],.agg #[.int .i64 0,.slice none 0 0],.int .i64 2]) (by simp [results,Tryz.results44,go_sem, *]) rfl ?_
 rw [HO.out]
 exact ⟨bk0,[],0,none,none,none,none,0,0,0,0,rfl,OwB.nil_ _ _ _ _ _,Ow.nil_,hz3.out,rfl,rfl,rfl⟩
set_option maxRecDepth 100000 in
set_option maxHeartbeats 4000000 in
theorem i_Apply_yes (b : Bk) (k key ch ot amt fee : Int) (yes : Bool) (A1 A2 A3 : Option Addr) (p1 p2 p3 : Nat) (w : World) (hlc : b.cs.length ≤ 1048576) (hlh : b.hs.length ≤ 1048576) (hlo : b.os.length ≤ 1048576) (hr : RdBook w w.heap.size A1 b.cs A2 b.hs A3 b.os) (hyes : (b.ok && evB ⟨k,key,ch,ot,amt,fee,yes⟩) = true) (hov : ovB b ⟨k,key,ch,ot,amt,fee,yes⟩ = false) :
  Calls Tryz.prog 44 #[.agg #[.int .i64 b.t,.int .i64 b.n,.int .i64 b.w,.slice A1 b.cs.length p1,.slice A2 b.hs.length p2,.slice A3 b.os.length p3],.agg #[.int .i64 k,.int .i64 key,.int .i64 ch,.int .i64 ot,.int .i64 amt,.int .i64 fee,.bool yes]] w (ApplyP w (applyS b ⟨k,key,ch,ot,amt,fee,yes⟩) b.n):=by
 have HRd:=hd_ hr
 clear hr
 obtain ⟨hok,hev⟩:=(Bool.and_eq_true _ _).mp hyes
 have HOK : Hid (bookB b.t b.n b.w b.cs b.hs b.os = true):=hd_ hok
 have HEV : Hid (evB ⟨k,key,ch,ot,amt,fee,yes⟩ = true):=hd_ hev
 have hF:=zxw hok
 have HF:=hd_ hF
 obtain ⟨hma,hmf⟩:=zgf hev
 have HAmt : Hid (amtB amt = true):=hd_ hma
 have HFee : Hid (amtB fee = true):=hd_ hmf
 have HOV:=hd_ hov
 obtain ⟨hnn,o1,o2,o3,o8⟩:=ov_no hov
 have HO:=hd_ (zvy hyes hnn)
 simp only at o1 o2 o3 o8
 have O1:=hd_ o1
 have O2:=hd_ o2
 have O3:=hd_ o3
 have O8:=hd_ o8
 have HNN:=hd_ hnn
 have HOKb : Hid (b.ok = true):=hd_ hok
 obtain ⟨hna,hnb⟩:=hF.n
 obtain ⟨hwa,hwb⟩:=hF.w
 have hcl:=hF.cl
 have hkd:=ev_kind hev
 simp only at hkd
 have HKD:=hd_ hkd
 clear hyes hok hev hF hma hmf hkd hov hnn o1 o2 o3 o8
 go_enter Tryz.func44,Tryz.ntmps44
 go_wp2_with fail
 obtain ⟨EB,hEB⟩ : ∃ v,v = w.heap.size + 1:=⟨_,rfl⟩
 rw [← hEB]
 obtain ⟨RB,hRB⟩ : ∃ v,v = EB + 1:=⟨_,rfl⟩
 try rw [← hRB]
 obtain ⟨RP,hRP⟩ : ∃ v,v = RB + 1:=⟨_,rfl⟩
 try rw [← hRP]
 obtain ⟨BB,hBB⟩ : ∃ v,v = w.heap.size:=⟨_,rfl⟩
 rw [← hBB]
 refine nm_ ?_
 intro w1 hw
 have HU1 : Hid (Hx w1 BB (bkC b A1 p1 A2 p2 A3 p3) 39):=hd_ (by rw [hw,hBB];exact hp_)
 have HE1 : Hid (Hx w1 EB (qaiiiiiib k key ch ot amt fee yes) 64):=hd_ (by rw [hw,hEB];exact hp_)
 have HR1 : Hid (Hx w1 RB (qaiiisss 0 0 0 none 0 0 none 0 0 none 0 0) 39):=hd_ (by rw [hw,hRB,hEB];exact hp_)
 have HV1 : Hid (Hx w1 RP #[.int .i64 0,.slice none 0 0] 66):=hd_ (by rw [hw,hRP,hRB,hEB];exact hp_)
 have HB1 : Hid (Below w.heap.size w w1):=hd_ (by rw [hw];exact bl_)
 have HGR : Hid (w.heap.size ≤ RB):=hd_ (by omega)
 have HGV : Hid (w.heap.size ≤ RP):=hd_ (by omega)
 have HNRU : Hid (BB ≠ RB):=hd_ (by omega)
 have HNRV : Hid (RP ≠ RB):=hd_ (by omega)
 have HNVU : Hid (BB ≠ RP):=hd_ (by omega)
 have HNVR : Hid (RB ≠ RP):=hd_ (by omega)
 have hRPl : Hid (RP < w1.heap.size∧w.heap.size ≤ w1.heap.size):=hd_ ⟨(gz_ HV1).1,HB1.out.size⟩
 clear hw hBB hEB hRB hRP
 obtain ⟨U,-,Uz⟩:=bc6_ HU1
 obtain ⟨E,-,Ez⟩:=bc7_ HE1
 obtain ⟨R0,R1,R2,R3,R4,R5,-,Rz⟩:=box6_ HR1
 obtain ⟨V0,V1,-,Vz⟩:=box2_ HV1
 refine (zwc b.t b.n b.w b.cs b.hs b.os _ _ _ _ _ _ _ hlc hlh hlo ((HRd.out.below HB1).more HB1.out.size)).mono ?_
 rintro e' w2 ⟨rfl,hb⟩
 rw [HOK.out]
 have HU2:=hb_ hb HU1
 have HE2:=hb_ hb HE1
 have HR2:=hb_ hb HR1
 have HV2:=hb_ hb HV1
 have HB2:=hd_ (HB1.out.trans (hb.mono HB1.out.size))
 clear hb
 clear U E R0 R1 R2 R3 R4 R5 V0 V1 Uz Ez Rz Vz
 obtain ⟨U,-,Uz⟩:=bc6_ HU2
 obtain ⟨E,-,Ez⟩:=bc7_ HE2
 obtain ⟨R0,R1,R2,R3,R4,R5,-,Rz⟩:=box6_ HR2
 obtain ⟨V0,V1,-,Vz⟩:=box2_ HV2
 go_wp2_with fail
 refine (zyt ⟨k,key,ch,ot,amt,fee,yes⟩ _).mono ?_
 rintro e' w3 ⟨rfl,hb⟩
 rw [HEV.out]
 have HU3:=hb_ hb HU2
 have HE3:=hb_ hb HE2
 have HR3:=hb_ hb HR2
 have HV3:=hb_ hb HV2
 have HB3:=hd_ (HB2.out.trans (hb.mono HB2.out.size))
 clear hb
 clear U E R0 R1 R2 R3 R4 R5 V0 V1 Uz Ez Rz Vz
 obtain ⟨U,-,Uz⟩:=bc6_ HU3
 obtain ⟨E,-,Ez⟩:=bc7_ HE3
 obtain ⟨R0,R1,R2,R3,R4,R5,-,Rz⟩:=box6_ HR3
 obtain ⟨V0,V1,-,Vz⟩:=box2_ HV3
 go_wp2_with fail
 refine (zyu b ⟨k,key,ch,ot,amt,fee,yes⟩ _ _ _ _ _ _ _ HF HAmt HFee ((HRd.out.below HB3).more HB3.out.size)).mono ?_
 rintro e' w4 ⟨rfl,hb⟩
 rw [HOV.out]
 have HU4:=hb_ hb HU3
 have HE4:=hb_ hb HE3
 have HR4:=hb_ hb HR3
 have HV4:=hb_ hb HV3
 have HB4:=hd_ (HB3.out.trans (hb.mono HB3.out.size))
 clear hb
 clear U E R0 R1 R2 R3 R4 R5 V0 V1 Uz Ez Rz Vz
 obtain ⟨U,-,Uz⟩:=bc6_ HU4
 obtain ⟨E,-,Ez⟩:=bc7_ HE4
 obtain ⟨R0,R1,R2,R3,R4,R5,-,Rz⟩:=box6_ HR4
 obtain ⟨V0,V1,-,Vz⟩:=box2_ HV4
 go_wp2_with fail
 refine (zmb b _ _ _ _ _ _ _ hlc hlh hlo ((HRd.out.below HB4).more HB4.out.size)).mono ?_
 rintro e' w5 ⟨C1,C2,C3,r1,r2,r3,rfl,hC,hb⟩
 have HC:=hd_ hC
 have hbz:=hb.size
 clear hC
 have HU5:=hb_ hb HU4
 have HE5:=hb_ hb HE4
 have HR5:=hb_ hb HR4
 have HV5:=hb_ hb HV4
 have HB5:=hd_ (HB4.out.trans (hb.mono HB4.out.size))
 clear hb
 clear U E R0 R1 R2 R3 R4 R5 V0 V1 Uz Ez Rz Vz
 obtain ⟨U,-,Uz⟩:=bc6_ HU5
 obtain ⟨E,-,Ez⟩:=bc7_ HE5
 obtain ⟨R0,R1,R2,R3,R4,R5,-,Rz⟩:=box6_ HR5
 obtain ⟨V0,V1,-,Vz⟩:=box2_ HV5
 go_upto_region 6 with fail
 obtain ⟨X,hX⟩ : ∃ v,v = w5.heap.size:=⟨_,rfl⟩
 rw [← hX]
 refine nm_ ?_
 intro w5 hw
 obtain ⟨L,hL⟩ : ∃ L : List Line,L = []:=⟨_,rfl⟩
 have HBS:=hd_ HB5.out.size
 have HW5 : Hid (Wk 136 w w5 w.heap.size X b L 0 C1 C2 C3 none r1 r2 r3 0):=hd_ (by rw [hw,hL];exact ⟨zqi hX,(HC.out.more HB4.out.size).alloc _,Ow.nil_,HB5.out.alloc HBS _,Fr.of_below (HB5.out.alloc HBS _),by rw [hX];exact HBS.out⟩)
 have HU5:=ha_ hw HU5
 have HXU : Hid (BB ≠ X):=hd_ (by have:=(gz_ HU5).1;omega)
 have HE5:=ha_ hw HE5
 have HXE : Hid (EB ≠ X):=hd_ (by have:=(gz_ HE5).1;omega)
 have HR5:=ha_ hw HR5
 have HXR : Hid (RB ≠ X):=hd_ (by have:=(gz_ HR5).1;omega)
 have HV5:=ha_ hw HV5
 have HXV : Hid (RP ≠ X):=hd_ (by have:=(gz_ HV5).1;omega)
 have HL:=hd_ hL
 clear hw hX hL hbz
 clear U E R0 R1 R2 R3 R4 R5 V0 V1 Uz Ez Rz Vz
 obtain ⟨a,af,az⟩:=opc_ HW5.out.open_
 have U:=bd6_ HU5
 have E:=bd7_ HE5
 obtain ⟨R0,R1,R2,R3,R4,R5,-,-⟩:=box6_ HR5
 obtain ⟨V0,V1,-,-⟩:=box2_ HV5
 go_upto_block 0 with (fail)
 go_cut [8] from 29 to 101 (fun v8 wx => Hid (AppEnd 136 w w.heap.size X RB RP (stepS b ⟨k,key,ch,ot,amt,fee,yes⟩) wx)∧Hid (Hx wx BB (bkC b A1 p1 A2 p2 A3 p3) 39))
 case first =>
  clear a af az U E R0 R1 R2 R3 R4 R5 V0 V1
  have HW0:=HW5
  rw [HL.out] at HW0
  rcases HKD with rfl | rfl | rfl | rfl | rfl | rfl | rfl | rfl | rfl | rfl | rfl
  ·
   obtain ⟨a,af,az⟩:=opc_ HW5.out.open_
   have U:=bd6_ HU5
   have E:=bd7_ HE5
   obtain ⟨R0,R1,R2,R3,R4,R5,-,-⟩:=box6_ HR5
   obtain ⟨V0,V1,-,-⟩:=box2_ HV5
   obtain ⟨mA,mB⟩:=zja.1 HAmt
   have o1:=O1.out rfl
   have HK : Hid (stepS b ⟨1,key,ch,ot,amt,fee,yes⟩ = done ⟨b.t,b.n,b.w + amt,b.cs,b.hs,b.os⟩ (nz [⟨1,0,amt⟩,⟨2,0,-amt⟩])):=hd_ (by show depB b _ = _;unfold depB;rw [if_neg (by simp only;omega)])
   have ws : IntKind.i64.wrap (b.w + amt) = b.w + amt:=IntWalk.i64_in _ ⟨by omega,by omega⟩
   go_wp2_with fail
   refine zqs (fun w' => kqiiissss w' X b.t b.n b.w C1 b.cs.length r1 C2 b.hs.length r2 C3 b.os.length r3 none L.length 0 (kqiiisss w' BB b.t b.n b.w A1 b.cs.length p1 A2 b.hs.length p2 A3 b.os.length p3 (kqiiiiiib w' EB 1 key ch ot amt fee yes (kqiiisss w' RB 0 0 0 none 0 0 none 0 0 none 0 0 (kqis_ w' RP 0 none 0 0))))) [yF 0 36,yF 1 37,yF 2 38,yF 3 39,yF 4 40,yF 5 41,yF 6 42,yF 7 43,yF 8 44,yF 9 45,yF 10 46] rfl (by kernel_rfl) (by kernel_rfl) (by kernel_rfl) (by kernel_rfl) (by kernel_rfl) (by kernel_rfl) (q78_ a (q6_ U (q7_ E ⟨R0,R1,R2,R3,R4,R5,V0,V1⟩))) (fun hH => ?_)
   obtain ⟨w10,hwd⟩ : ∃ wd,w5.drew = wd:=⟨_,rfl⟩
   have HW10:=wkd_ hwd HW5
   have HU10:=hr_ hwd HU5
   have HE10:=hr_ hwd HE5
   have HR10:=hr_ hwd HR5
   have HV10:=hr_ hwd HV5
   clear a af az U E R0 R1 R2 R3 R4 R5 V0 V1
   rw [hwd] at hH ⊢
   clear hwd
   obtain ⟨a,af,az⟩:=opc_ HW10.out.open_
   have U:=bd6_ HU10
   have E:=bd7_ HE10
   obtain ⟨R0,R1,R2,R3,R4,R5,-,-⟩:=box6_ HR10
   obtain ⟨V0,V1,-,-⟩:=box2_ HV10
   refine tk_ ?_
   refine Sq.done ?_
   intro KK hKK
   go_simp
   refine hKK _ _ (NoPanic.normal ?_)
   refine nm_ ?_
   intro w11 hw
   have HW11 : Hid (Wk 136 w w11 w.heap.size X ⟨b.t,b.n,b.w + amt,b.cs,b.hs,b.os⟩ L 0 C1 C2 C3 none r1 r2 r3 0):=hd_ (by rw [hw];exact HW10.out.setWallet (by decide) (by decide) (by decide) (by decide) _)
   have HU11:=hf_ hw HXU HU10
   have HE11:=hf_ hw HXE HE10
   have HR11:=hf_ hw HXR HR10
   have HV11:=hf_ hw HXV HV10
   clear hw
   clear a af az U E R0 R1 R2 R3 R4 R5 V0 V1
   obtain ⟨a,af,az⟩:=opc_ HW11.out.open_
   have U:=bd6_ HU11
   have E:=bd7_ HE11
   obtain ⟨R0,R1,R2,R3,R4,R5,-,-⟩:=box6_ HR11
   obtain ⟨V0,V1,-,-⟩:=box2_ HV11
   rw [HL.out] at HW11
   clear a af az U E R0 R1 R2 R3 R4 R5 V0 V1
   obtain ⟨a,af,az⟩:=opc_ HW11.out.open_
   have U:=bd6_ HU11
   have E:=bd7_ HE11
   obtain ⟨R0,R1,R2,R3,R4,R5,-,-⟩:=box6_ HR11
   obtain ⟨V0,V1,-,-⟩:=box2_ HV11
   go_wp2_with fail
   refine (zjg _ _ w.heap.size X ⟨b.t,b.n,b.w + amt,b.cs,b.hs,b.os⟩ [] 0 C1 C2 C3 none r1 r2 r3 0 1 0 amt (by decide) (by (try simp only);omega) (fun y hy => by cases hy) (fun y hy => by cases hy) HW11).mono ?_
   rintro e' w12 ⟨⟨Cw120,Cw121,Cw122,Cw123,rw120,rw121,rw122,rw123,rfl,hh⟩,ho⟩
   have HU12:=hd_ (ho _ _ HXU HU11)
   have HE12:=hd_ (ho _ _ HXE HE11)
   have HR12:=hd_ (ho _ _ HXR HR11)
   have HV12:=hd_ (ho _ _ HXV HV11)
   obtain ⟨M0,hL9⟩ : ∃ v,lineTo [] 1 0 amt = v:=⟨_,rfl⟩
   rw [hL9] at hh
   have HMl0:=hd_ hL9
   have HW12:=hd_ (HW11.out.trans hh)
   clear hh ho hL9
   clear a af az U E R0 R1 R2 R3 R4 R5 V0 V1
   obtain ⟨a,af,az⟩:=opc_ HW12.out.open_
   have U:=bd6_ HU12
   have E:=bd7_ HE12
   obtain ⟨R0,R1,R2,R3,R4,R5,-,-⟩:=box6_ HR12
   obtain ⟨V0,V1,-,-⟩:=box2_ HV12
   have HLM0 : Hid (M0.length ≤ 1):=hd_ (by rw [← HMl0.out];have h9:=zqu [] (1) (0) (amt);have h8 : ([] : List Line).length ≤ 0:=Nat.le_refl _;omega)
   have HQ0 : Hid (∀ y ∈ M0,y = ⟨1,0,amt⟩):=hd_ (fun y hy => by rw [← HMl0.out] at hy;rcases zxk (fun y hy => by cases hy) hy with h9 | h9;cases h9;exact h9)
   go_wp2_with fail
   refine (zjg _ _ w.heap.size X ⟨b.t,b.n,b.w + amt,b.cs,b.hs,b.os⟩ M0 0 Cw120 Cw121 Cw122 Cw123 rw120 rw121 rw122 rw123 2 0 (-amt) (by have:=HLM0.out;omega) (by (try simp only);omega) (fun y hy => by rcases HQ0 y hy with rfl <;> (simp only;omega)) (fun y hy => by rcases HQ0 y hy with rfl <;> (simp only;omega)) HW12).mono ?_
   rintro e' w13 ⟨⟨Cw130,Cw131,Cw132,Cw133,rw130,rw131,rw132,rw133,rfl,hh⟩,ho⟩
   have HU13:=hd_ (ho _ _ HXU HU12)
   have HE13:=hd_ (ho _ _ HXE HE12)
   have HR13:=hd_ (ho _ _ HXR HR12)
   have HV13:=hd_ (ho _ _ HXV HV12)
   obtain ⟨M1,hL9⟩ : ∃ v,lineTo M0 2 0 (-amt) = v:=⟨_,rfl⟩
   rw [hL9] at hh
   have HMl1:=hd_ hL9
   have HW13:=hd_ (HW12.out.trans hh)
   clear hh ho hL9
   clear a af az U E R0 R1 R2 R3 R4 R5 V0 V1
   obtain ⟨a,af,az⟩:=opc_ HW13.out.open_
   have U:=bd6_ HU13
   have E:=bd7_ HE13
   obtain ⟨R0,R1,R2,R3,R4,R5,-,-⟩:=box6_ HR13
   obtain ⟨V0,V1,-,-⟩:=box2_ HV13
   have HZ : nz [⟨1,0,amt⟩,⟨2,0,-amt⟩] = M1:=by rw [← HMl1.out,← HMl0.out];exact (line2 (by decide)).symm
   rw [HZ] at HK
   go_wp2_with fail
   go_meet
   case rel => exact ⟨hd_ (by rw [HK.out];exact ⟨.inl ⟨rfl,_,_,_,_,_,_,_,_,_,rfl,HW13.out⟩,HR13.out,HV13.out⟩),HU13⟩
  ·
   obtain ⟨a,af,az⟩:=opc_ HW5.out.open_
   have U:=bd6_ HU5
   have E:=bd7_ HE5
   obtain ⟨R0,R1,R2,R3,R4,R5,-,-⟩:=box6_ HR5
   obtain ⟨V0,V1,-,-⟩:=box2_ HV5
   have HK : Hid (stepS b ⟨2,key,ch,ot,amt,fee,yes⟩ = openB b ⟨2,key,ch,ot,amt,fee,yes⟩):=hd_ rfl
   go_wp2_with fail
   clear a af az U E R0 R1 R2 R3 R4 R5 V0 V1
   refine (i_open w w5 w.heap.size X b _ _ _ _ _ _ _ _ ⟨2,key,ch,ot,amt,fee,yes⟩ hcl (zja.2 ⟨hwa,hwb⟩) HAmt HFee (O2.out (by trivial)) HW0).mono ?_
   intro e' w9 hact
   obtain ⟨rfl,hend⟩:=AppEnd.of_acts HW0 (by decide) (by decide) HR5 HV5 hact
   have HE9:=hd_ hend
   have HU9:=hd_ (zki hact HU5 (by decide))
   clear hact hend
   go_wp2_with fail
   go_meet
   case rel => exact ⟨hd_ (by rw [HK.out];exact HE9),HU9⟩
  ·
   obtain ⟨a,af,az⟩:=opc_ HW5.out.open_
   have U:=bd6_ HU5
   have E:=bd7_ HE5
   obtain ⟨R0,R1,R2,R3,R4,R5,-,-⟩:=box6_ HR5
   obtain ⟨V0,V1,-,-⟩:=box2_ HV5
   have HK : Hid (stepS b ⟨3,key,ch,ot,amt,fee,yes⟩ = closeB b ⟨3,key,ch,ot,amt,fee,yes⟩):=hd_ (by show closeA b _ = _;exact O3.out rfl)
   go_wp2_with fail
   clear a af az U E R0 R1 R2 R3 R4 R5 V0 V1
   refine (i_shut w w5 w.heap.size X b _ _ _ _ _ _ _ _ ⟨3,key,ch,ot,amt,fee,yes⟩ HOKb HFee HW0).mono ?_
   intro e' w9 hact
   obtain ⟨rfl,hend⟩:=AppEnd.of_acts HW0 (by decide) (by decide) HR5 HV5 hact
   have HE9:=hd_ hend
   have HU9:=hd_ (zki hact HU5 (by decide))
   clear hact hend
   go_wp2_with fail
   go_meet
   case rel => exact ⟨hd_ (by rw [HK.out];exact HE9),HU9⟩
  ·
   obtain ⟨a,af,az⟩:=opc_ HW5.out.open_
   have U:=bd6_ HU5
   have E:=bd7_ HE5
   obtain ⟨R0,R1,R2,R3,R4,R5,-,-⟩:=box6_ HR5
   obtain ⟨V0,V1,-,-⟩:=box2_ HV5
   go_wp2_with fail
   cases t3 : decide (chanIx b.cs ch < 0)
   rotate_left
   ·
    have hix:=of_decide_eq_true t3
    have HK : Hid (stepS b ⟨4,key,ch,ot,amt,fee,yes⟩ = bad 6):=hd_ (by show priceB b _ = _;unfold priceB;rw [if_pos (by simp only;omega)])
    clear t3
    refine (i_ch_miss w w5 w.heap.size X b L 0 _ _ _ _ _ _ _ _ ch (by omega) hix HW5).mono ?_
    rintro e' wz ⟨w6,rfl,rfl,hh,ho⟩
    have HW6:=hd_ (HW5.out.trans hh)
    have HU6:=hd_ (ho _ _ HXU HU5)
    have HE6:=hd_ (ho _ _ HXE HE5)
    have HR6:=hd_ (ho _ _ HXR HR5)
    have HV6:=hd_ (ho _ _ HXV HV5)
    clear hh ho hix
    clear a af az U E R0 R1 R2 R3 R4 R5 V0 V1
    have EE:=hd_ (zqd (o:=.cells #[.int .i64 0,.int .i64 0,.int .i64 0,.int .i64 0,.int .i64 0,.int .i64 0,.int .i64 0] 103 (0,0)) (gz_ HE6).1 HE6)
    obtain ⟨E,-,Ez⟩:=bc7_ HE6
    go_wp2_with fail
    go_region
    all_goals go_wp2_with fail
    all_goals go_meet
    all_goals exact ⟨hd_ (by rw [HK.out];exact ⟨.inr ⟨by decide,_,_,_,_,_,_,_,_,_,_,(HW6.out.alloc _).drew⟩,zqd (gz_ HR6).1 HR6.out,zqd (gz_ HV6).1 HV6.out⟩),hd_ (zqd (gz_ HU6).1 HU6)⟩
   have hix:=of_decide_eq_false t3
   obtain ⟨i,hi⟩:=Int.eq_ofNat_of_zero_le (show 0 ≤ chanIx b.cs ch by omega)
   have hlt:=zxm hi
   have HIXi:=hd_ hi
   have HK : Hid (stepS b ⟨4,key,ch,ot,amt,fee,yes⟩ = done ⟨b.t,b.n,b.w,setCh b.cs ch (fun c => { c with Base:=amt,Ppm:=fee }),b.hs,b.os⟩ []):=hd_ (by show priceB b _ = _;unfold priceB;rw [if_neg (by simp only;omega)])
   clear hix t3 hi
   obtain ⟨g,hA,hBg⟩:=HW5.out.o.c.headW (by rw [List.length_map];(try simp only);omega)
   subst hA
   clear a af az U E R0 R1 R2 R3 R4 R5 V0 V1
   obtain ⟨a,af,az⟩:=opc_ HW5.out.open_
   have U:=bd6_ HU5
   have E:=bd7_ HE5
   obtain ⟨R0,R1,R2,R3,R4,R5,-,-⟩:=box6_ HR5
   obtain ⟨V0,V1,-,-⟩:=box2_ HV5
   have hix9 : 0 ≤ chanIx (b : Bk).cs ch:=(by rw [HIXi.out];omega)
   have hd9 : failF 0 (decide (chanIx (b : Bk).cs ch < 0)) 6 = 0:=by rw [decide_eq_false (by omega : ¬ chanIx (b : Bk).cs ch < 0)];exact zkj
   refine (i_ch _ _ w.heap.size X b L 0 (some ⟨g,0,none⟩) C2 C3 none r1 r2 r3 0 ch (by (try simp only);omega) HW5).mono ?_
   rintro e' w10 ⟨g9,o9,c9,rfl,-,-,hh,ho,hf⟩
   obtain ⟨hA9,ho9,-⟩:=hf hix9
   injection hA9 with hA9
   injection hA9 with hA9
   subst hA9
   have ho8 : o9 = i * 7:=by rw [ho9,show chanIx (b : Bk).cs ch = (i : Int) from HIXi.out];rfl
   subst ho8
   rw [hd9] at hh
   have HW10:=hd_ (HW5.out.trans hh)
   have HU10:=hd_ (ho _ _ HXU HU5)
   have HE10:=hd_ (ho _ _ HXE HE5)
   have HR10:=hd_ (ho _ _ HXR HR5)
   have HV10:=hd_ (ho _ _ HXV HV5)
   clear hh ho hf ho9 hix9 hd9
   clear a af az U E R0 R1 R2 R3 R4 R5 V0 V1
   obtain ⟨a,af,az⟩:=opc_ HW10.out.open_
   have U:=bd6_ HU10
   have E:=bd7_ HE10
   obtain ⟨R0,R1,R2,R3,R4,R5,-,-⟩:=box6_ HR10
   obtain ⟨V0,V1,-,-⟩:=box2_ HV10
   go_wp2_with fail
   obtain ⟨c,hc⟩ : ∃ c,b.cs[i]'hlt = c:=⟨_,rfl⟩
   have hr : (b.cs.map Chan.cells)[i]? = some c.cells:=by rw [List.getElem?_map,List.getElem?_eq_getElem hlt,hc];rfl
   obtain ⟨y0,y1,y2,y3,y4,y5,y6⟩:=c
   have HRowy:=hd_ hr
   have HCIy:=hd_ hc
   clear hr hc
   refine zql (fun w' => kqiiissss w' X b.t b.n b.w (some ⟨g,0,none⟩) b.cs.length r1 C2 b.hs.length r2 C3 b.os.length r3 none L.length 0 (kqiiisss w' BB b.t b.n b.w A1 b.cs.length p1 A2 b.hs.length p2 A3 b.os.length p3 (kqiiiiiib w' EB 4 key ch ot amt fee yes (kqiiisss w' RB 0 0 0 none 0 0 none 0 0 none 0 0 (kqis_ w' RP 0 none 0 0))))) [yF 0 72,yF 1 73,yF 2 74,yF 3 75,yF 4 76,yF 5 77,yF 6 78,yF 7 79,yN 8,yF 9 80,yF 10 81,yN 11] (by kernel_rfl) (by kernel_rfl) (by kernel_rfl) (q78_ a (q6_ U (q7_ E ⟨R0,R1,R2,R3,R4,R5,V0,V1⟩))) (fun hH => ?_)
   obtain ⟨w11,hwd⟩ : ∃ wd,w10.drew = wd:=⟨_,rfl⟩
   have HW11:=wkd_ hwd HW10
   have HU11:=hr_ hwd HU10
   have HE11:=hr_ hwd HE10
   have HR11:=hr_ hwd HR10
   have HV11:=hr_ hwd HV10
   clear a af az U E R0 R1 R2 R3 R4 R5 V0 V1
   rw [hwd] at hH ⊢
   clear hwd
   obtain ⟨a,af,az⟩:=opc_ HW11.out.open_
   have U:=bd6_ HU11
   have E:=bd7_ HE11
   obtain ⟨R0,R1,R2,R3,R4,R5,-,-⟩:=box6_ HR11
   obtain ⟨V0,V1,-,-⟩:=box2_ HV11
   refine tk_ ?_
   have yc4:=HW11.out.o.c.cellAt HRowy (j:=4) (by decide)
   simp only [Chan.cells,List.getElem?_cons_zero,List.getElem?_cons_succ] at yc4
   have yc5:=HW11.out.o.c.cellAt HRowy (j:=5) (by decide)
   simp only [Chan.cells,List.getElem?_cons_zero,List.getElem?_cons_succ] at yc5
   have yf:=fun j => HW11.out.o.c.frozenAt j
   refine ss_ (fun K hK => ?_)
   go_simp
   refine zxu (fun w12 hw => ?_)
   have HW12 : Hid (Wk 136 w w12 w.heap.size X ⟨b.t,b.n,b.w,(b.cs.set i ⟨y0,y1,y2,y3,amt,y5,y6⟩),b.hs,b.os⟩ L 0 (some ⟨g,0,none⟩) C2 C3 none r1 r2 r3 0):=hd_ (by rw [hw];exact HW11.out.putCellC (c:=⟨y0,y1,y2,y3,y4,y5,y6⟩) (c':=⟨y0,y1,y2,y3,amt,y5,y6⟩) (by decide) (by rw [List.getElem?_eq_getElem hlt,HCIy.out]) (by decide) rfl)
   have HU12:=hf_ hw (fun e9 => HW11.out.o.c.ne_ HU11 (by decide) (by rw [e9];rfl)) HU11
   have HE12:=hf_ hw (fun e9 => HW11.out.o.c.ne_ HE11 (by decide) (by rw [e9];rfl)) HE11
   have HR12:=hf_ hw (fun e9 => HW11.out.o.c.ne_ HR11 (by decide) (by rw [e9];rfl)) HR11
   have HV12:=hf_ hw (fun e9 => HW11.out.o.c.ne_ HV11 (by decide) (by rw [e9];rfl)) HV11
   clear hw yc4 yc5 yf
   clear a af az U E R0 R1 R2 R3 R4 R5 V0 V1
   obtain ⟨a,af,az⟩:=opc_ HW12.out.open_
   have U:=bd6_ HU12
   have E:=bd7_ HE12
   obtain ⟨R0,R1,R2,R3,R4,R5,-,-⟩:=box6_ HR12
   obtain ⟨V0,V1,-,-⟩:=box2_ HV12
   have HRw : Hid (((b.cs.set i ⟨y0,y1,y2,y3,amt,y5,y6⟩).map Chan.cells)[i]? = some (Chan.cells ⟨y0,y1,y2,y3,amt,y5,y6⟩)):=hd_ (by rw [List.getElem?_map,List.getElem?_set_self hlt];rfl)
   have yc4 : w12.cell? ⟨g,i * 7 + 4,none⟩ = some (.int .i64 amt):=HW12.out.o.c.cellAt HRw (j:=4) (by decide)
   have yc5 : w12.cell? ⟨g,i * 7 + 5,none⟩ = some (.int .i64 y5):=HW12.out.o.c.cellAt HRw (j:=5) (by decide)
   have yf:=fun j => HW12.out.o.c.frozenAt j
   simp only [List.length_set] at a
   go_simp
   refine hK.out _ _ (q78_ a (q6_ U (q7_ E ⟨R0,R1,R2,R3,R4,R5,V0,V1⟩))) (fun hH => ?_)
   clear hK K
   refine tk_ ?_
   refine ss_ (fun K hK => ?_)
   go_simp
   refine zxu (fun w13 hw => ?_)
   have HW13 : Hid (Wk 136 w w13 w.heap.size X ⟨b.t,b.n,b.w,((b.cs.set i ⟨y0,y1,y2,y3,amt,y5,y6⟩).set i ⟨y0,y1,y2,y3,amt,fee,y6⟩),b.hs,b.os⟩ L 0 (some ⟨g,0,none⟩) C2 C3 none r1 r2 r3 0):=hd_ (by rw [hw];exact HW12.out.putCellC (c:=⟨y0,y1,y2,y3,amt,y5,y6⟩) (c':=⟨y0,y1,y2,y3,amt,fee,y6⟩) (by decide) (by simp only;rw [List.getElem?_set_self hlt]) (by decide) rfl)
   have HU13:=hf_ hw (fun e9 => HW12.out.o.c.ne_ HU12 (by decide) (by rw [e9];rfl)) HU12
   have HE13:=hf_ hw (fun e9 => HW12.out.o.c.ne_ HE12 (by decide) (by rw [e9];rfl)) HE12
   have HR13:=hf_ hw (fun e9 => HW12.out.o.c.ne_ HR12 (by decide) (by rw [e9];rfl)) HR12
   have HV13:=hf_ hw (fun e9 => HW12.out.o.c.ne_ HV12 (by decide) (by rw [e9];rfl)) HV12
   clear hw yc4 yc5 yf
   clear a af az U E R0 R1 R2 R3 R4 R5 V0 V1
   obtain ⟨a,af,az⟩:=opc_ HW13.out.open_
   have U:=bd6_ HU13
   have E:=bd7_ HE13
   obtain ⟨R0,R1,R2,R3,R4,R5,-,-⟩:=box6_ HR13
   obtain ⟨V0,V1,-,-⟩:=box2_ HV13
   simp only [List.length_set] at a
   go_simp
   refine hK.out _ _ (q78_ a (q6_ U (q7_ E ⟨R0,R1,R2,R3,R4,R5,V0,V1⟩))) (fun hH => ?_)
   clear hK K
   refine tk_ ?_
   refine Sq.done (NoPanic.normal ?_)
   have HZ : setCh b.cs ch (fun c => { c with Base:=amt,Ppm:=fee }) = ((b.cs.set i ⟨y0,y1,y2,y3,amt,y5,y6⟩).set i ⟨y0,y1,y2,y3,amt,fee,y6⟩):=by rw [List.set_set,zkv HIXi hlt,HCIy.out]
   rw [HZ,← HL.out] at HK
   go_wp2_with fail
   go_meet
   case rel => exact ⟨hd_ (by rw [HK.out];exact ⟨.inl ⟨rfl,_,_,_,_,_,_,_,_,_,by first | rfl | (rw [HL.out];rfl),HW13.out⟩,HR13.out,HV13.out⟩),HU13⟩
  ·
   obtain ⟨a,af,az⟩:=opc_ HW5.out.open_
   have U:=bd6_ HU5
   have E:=bd7_ HE5
   obtain ⟨R0,R1,R2,R3,R4,R5,-,-⟩:=box6_ HR5
   obtain ⟨V0,V1,-,-⟩:=box2_ HV5
   have HK : Hid (stepS b ⟨5,key,ch,ot,amt,fee,yes⟩ = admitS b ⟨5,key,ch,ot,amt,fee,yes⟩ (chanOf b.cs ch) (chanOf b.cs ot)):=hd_ rfl
   go_wp2_with fail
   clear a af az U E R0 R1 R2 R3 R4 R5 V0 V1
   refine (i_admit w w5 w.heap.size X b _ _ _ _ _ _ _ _ ⟨5,key,ch,ot,amt,fee,yes⟩ HF HAmt (ev_two HEV (.inl rfl)) HW0).mono ?_
   intro e' w9 hact
   obtain ⟨rfl,hend⟩:=AppEnd.of_acts HW0 (by decide) (by decide) HR5 HV5 hact
   have HE9:=hd_ hend
   have HU9:=hd_ (zki hact HU5 (by decide))
   clear hact hend
   go_wp2_with fail
   go_meet
   case rel => exact ⟨hd_ (by rw [HK.out];exact HE9),HU9⟩
  ·
   obtain ⟨a,af,az⟩:=opc_ HW5.out.open_
   have U:=bd6_ HU5
   have E:=bd7_ HE5
   obtain ⟨R0,R1,R2,R3,R4,R5,-,-⟩:=box6_ HR5
   obtain ⟨V0,V1,-,-⟩:=box2_ HV5
   have HK : Hid (stepS b ⟨6,key,ch,ot,amt,fee,yes⟩ = settleS b key true):=hd_ rfl
   go_wp2_with fail
   clear a af az U E R0 R1 R2 R3 R4 R5 V0 V1
   refine (i_settle w w5 w.heap.size X b _ _ _ _ _ _ _ _ ⟨6,key,ch,ot,amt,fee,yes⟩ HF (ev_key HEV (.inl rfl)) HW0).mono ?_
   intro e' w9 hact
   obtain ⟨rfl,hend⟩:=AppEnd.of_acts HW0 (by decide) (by decide) HR5 HV5 hact
   have HE9:=hd_ hend
   have HU9:=hd_ (zki hact HU5 (by decide))
   clear hact hend
   go_wp2_with fail
   go_meet
   case rel => exact ⟨hd_ (by rw [HK.out];exact HE9),HU9⟩
  ·
   obtain ⟨a,af,az⟩:=opc_ HW5.out.open_
   have U:=bd6_ HU5
   have E:=bd7_ HE5
   obtain ⟨R0,R1,R2,R3,R4,R5,-,-⟩:=box6_ HR5
   obtain ⟨V0,V1,-,-⟩:=box2_ HV5
   have HK : Hid (stepS b ⟨7,key,ch,ot,amt,fee,yes⟩ = settleS b key false):=hd_ rfl
   go_wp2_with fail
   clear a af az U E R0 R1 R2 R3 R4 R5 V0 V1
   refine (i_settle w w5 w.heap.size X b _ _ _ _ _ _ _ _ ⟨7,key,ch,ot,amt,fee,yes⟩ HF (ev_key HEV (.inr (.inl rfl))) HW0).mono ?_
   intro e' w9 hact
   obtain ⟨rfl,hend⟩:=AppEnd.of_acts HW0 (by decide) (by decide) HR5 HV5 hact
   have HE9:=hd_ hend
   have HU9:=hd_ (zki hact HU5 (by decide))
   clear hact hend
   go_wp2_with fail
   go_meet
   case rel => exact ⟨hd_ (by rw [HK.out];exact HE9),HU9⟩
  ·
   obtain ⟨a,af,az⟩:=opc_ HW5.out.open_
   have U:=bd6_ HU5
   have E:=bd7_ HE5
   obtain ⟨R0,R1,R2,R3,R4,R5,-,-⟩:=box6_ HR5
   obtain ⟨V0,V1,-,-⟩:=box2_ HV5
   have HK : Hid (stepS b ⟨8,key,ch,ot,amt,fee,yes⟩ = tickB b):=hd_ rfl
   go_wp2_with fail
   clear a af az U E R0 R1 R2 R3 R4 R5 V0 V1
   refine (i_tick w w5 w.heap.size X b _ _ _ _ _ _ _ _ HF (O8.out (by trivial)) HW0).mono ?_
   intro e' w9 hact
   obtain ⟨rfl,hend⟩:=AppEnd.of_acts HW0 (by decide) (by decide) HR5 HV5 hact
   have HE9:=hd_ hend
   have HU9:=hd_ (zki hact HU5 (by decide))
   clear hact hend
   go_wp2_with fail
   go_meet
   case rel => exact ⟨hd_ (by rw [HK.out];exact HE9),HU9⟩
  ·
   obtain ⟨a,af,az⟩:=opc_ HW5.out.open_
   have U:=bd6_ HU5
   have E:=bd7_ HE5
   obtain ⟨R0,R1,R2,R3,R4,R5,-,-⟩:=box6_ HR5
   obtain ⟨V0,V1,-,-⟩:=box2_ HV5
   have HK : Hid (stepS b ⟨9,key,ch,ot,amt,fee,yes⟩ = launchS b ⟨9,key,ch,ot,amt,fee,yes⟩):=hd_ rfl
   go_wp2_with fail
   clear a af az U E R0 R1 R2 R3 R4 R5 V0 V1
   refine (i_launch w w5 w.heap.size X b _ _ _ _ _ _ _ _ ⟨9,key,ch,ot,amt,fee,yes⟩ HF HAmt HFee (ev_two HEV (.inr rfl)) HW0).mono ?_
   intro e' w9 hact
   obtain ⟨rfl,hend⟩:=AppEnd.of_acts HW0 (by decide) (by decide) HR5 HV5 hact
   have HE9:=hd_ hend
   have HU9:=hd_ (zki hact HU5 (by decide))
   clear hact hend
   go_wp2_with fail
   go_meet
   case rel => exact ⟨hd_ (by rw [HK.out];exact HE9),HU9⟩
  ·
   obtain ⟨a,af,az⟩:=opc_ HW5.out.open_
   have U:=bd6_ HU5
   have E:=bd7_ HE5
   obtain ⟨R0,R1,R2,R3,R4,R5,-,-⟩:=box6_ HR5
   obtain ⟨V0,V1,-,-⟩:=box2_ HV5
   have HK : Hid (stepS b ⟨10,key,ch,ot,amt,fee,yes⟩ = landS b key true):=hd_ rfl
   go_wp2_with fail
   clear a af az U E R0 R1 R2 R3 R4 R5 V0 V1
   refine (i_land w w5 w.heap.size X b _ _ _ _ _ _ _ _ ⟨10,key,ch,ot,amt,fee,yes⟩ HF (ev_key HEV (.inr (.inr (.inl rfl)))) HW0).mono ?_
   intro e' w9 hact
   obtain ⟨rfl,hend⟩:=AppEnd.of_acts HW0 (by decide) (by decide) HR5 HV5 hact
   have HE9:=hd_ hend
   have HU9:=hd_ (zki hact HU5 (by decide))
   clear hact hend
   go_wp2_with fail
   go_meet
   case rel => exact ⟨hd_ (by rw [HK.out];exact HE9),HU9⟩
  obtain ⟨a,af,az⟩:=opc_ HW5.out.open_
  have U:=bd6_ HU5
  have E:=bd7_ HE5
  obtain ⟨R0,R1,R2,R3,R4,R5,-,-⟩:=box6_ HR5
  obtain ⟨V0,V1,-,-⟩:=box2_ HV5
  have HK : Hid (stepS b ⟨11,key,ch,ot,amt,fee,yes⟩ = landS b key false):=hd_ rfl
  go_wp2_with fail
  clear a af az U E R0 R1 R2 R3 R4 R5 V0 V1
  refine (i_land w w5 w.heap.size X b _ _ _ _ _ _ _ _ ⟨11,key,ch,ot,amt,fee,yes⟩ HF (ev_key HEV (.inr (.inr (.inr rfl)))) HW0).mono ?_
  intro e' w9 hact
  obtain ⟨rfl,hend⟩:=AppEnd.of_acts HW0 (by decide) (by decide) HR5 HV5 hact
  have HE9:=hd_ hend
  have HU9:=hd_ (zki hact HU5 (by decide))
  clear hact hend
  go_wp2_with fail
  go_meet
  case rel => exact ⟨hd_ (by rw [HK.out];exact HE9),HU9⟩
 case rest =>
  obtain ⟨hcut,HU_wc⟩:=hcut
  obtain ⟨hcut,HR_wc0,HV_wc0⟩:=hcut.out
  have HR_wc:=hd_ HR_wc0
  have HV_wc:=hd_ HV_wc0
  have hGood:=zmp b ⟨k,key,ch,ot,amt,fee,yes⟩
  have HGood:=hd_ hGood
  clear HR_wc0 HV_wc0 hGood
  obtain ⟨o,ho⟩ : ∃ o,stepS b ⟨k,key,ch,ot,amt,fee,yes⟩ = o:=⟨_,rfl⟩
  rw [ho] at HO HGood hcut
  clear ho
  rcases hcut with ⟨hc0,b',D1,D2,D3,D4,s1,s2,s3,s4,hob,hwk⟩ | ⟨hc0,b',L',D1,D2,D3,D4,s1,s2,s3,s4,hwk⟩
  rotate_left
  ·
   have HC0:=hd_ hc0
   have hbad : o = bad o.code:=by
    rcases HGood with ⟨_,h9⟩ | ⟨h9,_⟩
    ·
     exact h9
    exact absurd h9 hc0
   have HO2:=hd_ (HO.out.trans hbad)
   clear hbad
   have tn : (o.code != 0) = true:=by rw [bne_iff_ne];exact HC0
   clear HO
   have HO:=HO2
   clear hc0
   obtain ⟨oc,hoc⟩ : ∃ c,o.code = c:=⟨_,rfl⟩
   rw [hoc] at HO tn hwk
   clear hoc HO2
   have HW_wc : Hid (Wk 136 w wc w.heap.size X ⟨b'.t,b'.n,b'.w,b'.cs,b'.hs,b'.os⟩ L' oc D1 D2 D3 D4 s1 s2 s3 s4):=hd_ hwk
   clear hwk
   obtain ⟨a,af,az⟩:=opc_ HW_wc.out.open_
   obtain ⟨R0,R1,R2,R3,R4,R5,-,-⟩:=box6_ HR_wc
   obtain ⟨V0,V1,-,-⟩:=box2_ HV_wc
   have U:=bd6_ HU_wc
   go_wp2_with fail
   refine zql (fun w' => kqiiissssi_ w' X b'.t b'.n b'.w D1 b'.cs.length s1 D2 b'.hs.length s2 D3 b'.os.length s3 D4 L'.length s4 oc) [yF 0 107,yF 1 108,yF 2 109,yF 3 110,yF 4 111,yF 5 112,yN 6,yN 7,yF 8 6] (by kernel_rfl) (by kernel_rfl) (by kernel_rfl) (q78_ a (p87_ a)) (fun hH => ?_)
   obtain ⟨w21,hwd⟩ : ∃ wd,wc.drew = wd:=⟨_,rfl⟩
   have HW21:=wkd_ hwd HW_wc
   have HR21:=hr_ hwd HR_wc
   have HV21:=hr_ hwd HV_wc
   have HU21:=hr_ hwd HU_wc
   clear a af az R0 R1 R2 R3 R4 R5 V0 V1 U
   rw [hwd] at hH ⊢
   clear hwd
   obtain ⟨a,af,az⟩:=opc_ HW21.out.open_
   obtain ⟨R0,R1,R2,R3,R4,R5,-,-⟩:=box6_ HR21
   obtain ⟨V0,V1,-,-⟩:=box2_ HV21
   have U:=bd6_ HU21
   refine tk_ ?_
   have cf9:=zqm HR21
   refine ss_ (fun K hK => ?_)
   go_simp
   first | refine zxu (fun w22 hw => ?_) | refine zkw (fun w22 hw => ?_) | refine zke (fun w22 hw => ?_)
   have hg9 : w21.grownBy w22 (some RB):=by rw [hw];exact zqg (zqg (zqg (zqg (zqg (zqg (World.grownBy.refl w21 (some RB)) _ _) _ _) _ _) _ _) _ _) _ _
   have HW22 : Hid (Wk 136 w w22 w.heap.size X ⟨b'.t,b'.n,b'.w,b'.cs,b'.hs,b'.os⟩ L' oc D1 D2 D3 D4 s1 s2 s3 s4):=hd_ (HW21.out.aside2 HR21 HGR HGR (by decide) (by decide) (by decide) (by decide) (by decide) hg9)
   have HV22 : Hid (Hx w22 RP #[.int .i64 0,.slice none 0 0] 66):=hd_ (zqe hg9 (sn_ HNRV) HV21)
   have HU22 : Hid (Hx w22 BB (bkC b A1 p1 A2 p2 A3 p3) 39):=hd_ (zqe hg9 (sn_ HNRU) HU21)
   have HR22 : Hid (Hx w22 RB (qaiiisss 0 0 0 none 0 0 none 0 0 none 0 0) 39):=hd_ (by rw [hw];exact zqa (zqa (zqa (zqa (zqa (zqa (HR21.out)))))))
   clear hw hg9 cf9 a af az R0 R1 R2 R3 R4 R5 V0 V1 U
   obtain ⟨a,af,az⟩:=opc_ HW22.out.open_
   obtain ⟨R0,R1,R2,R3,R4,R5,-,-⟩:=box6_ HR22
   obtain ⟨V0,V1,-,-⟩:=box2_ HV22
   have U:=bd6_ HU22
   go_simp
   refine hK.out _ _ (q78_ a (p87_ a)) (fun hH => ?_)
   clear hK K
   refine tk_ ?_
   have cf9:=zqm HV22
   refine ss_ (fun K hK => ?_)
   go_simp
   first | refine zxu (fun w23 hw => ?_) | refine zkw (fun w23 hw => ?_) | refine zke (fun w23 hw => ?_)
   have hg9 : w22.grownBy w23 (some RP):=by rw [hw];exact zqg (zqg (World.grownBy.refl w22 (some RP)) _ _) _ _
   have HW23 : Hid (Wk 136 w w23 w.heap.size X ⟨b'.t,b'.n,b'.w,b'.cs,b'.hs,b'.os⟩ L' oc D1 D2 D3 D4 s1 s2 s3 s4):=hd_ (HW22.out.aside2 HV22 HGV HGV (by decide) (by decide) (by decide) (by decide) (by decide) hg9)
   have HR23 : Hid (Hx w23 RB (qaiiisss 0 0 0 none 0 0 none 0 0 none 0 0) 39):=hd_ (zqe hg9 (sn_ HNVR) HR22)
   have HU23 : Hid (Hx w23 BB (bkC b A1 p1 A2 p2 A3 p3) 39):=hd_ (zqe hg9 (sn_ HNVU) HU22)
   have HV23 : Hid (Hx w23 RP #[.int .i64 0,.slice none 0 0] 66):=hd_ (by rw [hw];exact zqa (zqa (HV22.out)))
   clear hw hg9 cf9 a af az R0 R1 R2 R3 R4 R5 V0 V1 U
   obtain ⟨a,af,az⟩:=opc_ HW23.out.open_
   obtain ⟨R0,R1,R2,R3,R4,R5,-,-⟩:=box6_ HR23
   obtain ⟨V0,V1,-,-⟩:=box2_ HV23
   have U:=bd6_ HU23
   go_simp
   refine hK.out _ _ (q78_ a (p87_ a)) (fun hH => ?_)
   clear hK K
   refine tk_ ?_
   refine Sq.done (NoPanic.normal ?_)
   go_wp2_with fail
   refine bodyPost_ret (v:=.tuple #[.agg #[.int .i64 0,.int .i64 0,.int .i64 0,.slice none 0 0,.slice none 0 0,.slice none 0 0],.agg #[.int .i64 0,.slice none 0 0],.int .i64 oc]) (by simp [results,Tryz.results44,go_sem, *]) rfl ?_
   rw [HO.out]
   exact ⟨bk0,[],0,none,none,none,none,0,0,0,0,rfl,OwB.nil_ _ _ _ _ _,Ow.nil_,HW23.out.b,rfl,rfl,rfl⟩
  have hn9 : b'.n = b.n:=by
   rcases HGood with ⟨h9,_⟩ | ⟨_,h9⟩
   ·
    exact absurd hc0 h9
   rw [hob] at h9
   simp only at h9
   split at h9 <;> omega
  obtain ⟨l,hl⟩ : ∃ l,o.l = l:=⟨_,rfl⟩
  rw [hl] at hwk hob
  have HOL:=hd_ hl
  have HOB:=hd_ hob
  have HC0:=hd_ hc0
  have hna9 : 1 ≤ b'.n∧b'.n < 1125899906842624:=by have:=HNN.out;omega
  obtain ⟨n1,n2⟩:=hna9
  clear hl hob hc0 hn9
  cases l with
  | nil =>
   have HW_wc : Hid (Wk 136 w wc w.heap.size X ⟨b'.t,b'.n,b'.w,b'.cs,b'.hs,b'.os⟩ ([] : List Line) 0 D1 D2 D3 D4 s1 s2 s3 s4):=hd_ hwk
   clear hwk
   obtain ⟨a,af,az⟩:=opc_ HW_wc.out.open_
   obtain ⟨R0,R1,R2,R3,R4,R5,-,-⟩:=box6_ HR_wc
   obtain ⟨V0,V1,-,-⟩:=box2_ HV_wc
   have U:=bd6_ HU_wc
   simp only [List.length_nil] at a
   go_upto_region 31 with fail
   refine nm_ ?_
   intro w21 hw
   obtain ⟨PB,hC⟩ : ∃ C,C = wc.heap.size:=⟨_,rfl⟩
   try rw [← hC]
   have HW21:=wka_ hw HW_wc
   have HR21:=ha_ hw HR_wc
   have HV21:=ha_ hw HV_wc
   have HU21:=ha_ hw HU_wc
   clear a af az R0 R1 R2 R3 R4 R5 V0 V1 U
   have HQ21 : Hid (Hx w21 PB #[.int .i64 0,.slice none 0 0] 66):=hd_ (by rw [hw,hC];exact zqi rfl)
   have HXQ : Hid (PB ≠ X):=hd_ (by have:=HW_wc.out.lt;omega)
   have HGQ : Hid (w.heap.size ≤ PB):=hd_ (by rw [hC];exact HW_wc.out.ble)
   have HNQR : Hid (RB ≠ PB):=hd_ (by have:=(gz_ HR_wc).1;omega)
   have HNRQ : Hid (PB ≠ RB):=hd_ (fun e9 => HNQR.out e9.symm)
   have HNQV : Hid (RP ≠ PB):=hd_ (by have:=(gz_ HV_wc).1;omega)
   have HNVQ : Hid (PB ≠ RP):=hd_ (fun e9 => HNQV.out e9.symm)
   have HNQU : Hid (BB ≠ PB):=hd_ (by have:=(gz_ HU_wc).1;omega)
   have HNUQ : Hid (PB ≠ BB):=hd_ (fun e9 => HNQU.out e9.symm)
   clear hw hC
   obtain ⟨a,af,az⟩:=opc_ HW21.out.open_
   obtain ⟨R0,R1,R2,R3,R4,R5,-,-⟩:=box6_ HR21
   obtain ⟨V0,V1,-,-⟩:=box2_ HV21
   have U:=bd6_ HU21
   have Q:=bd2_ HQ21
   simp only [List.length_nil] at a
   go_wp2_with fail
   refine zql (fun w' => kqiiissss w' X b'.t b'.n b'.w D1 b'.cs.length s1 D2 b'.hs.length s2 D3 b'.os.length s3 D4 (([] : List Line).length) s4 (kqis_ w' PB 0 none 0 0)) [yF 0 135,yF 1 136,yF 2 137,yF 3 138,yF 4 139,yN 5,yN 6,yF 7 6] (by kernel_rfl) (by kernel_rfl) (by kernel_rfl) (q78_ a Q) (fun hH => ?_)
   obtain ⟨w22,hwd⟩ : ∃ wd,w21.drew = wd:=⟨_,rfl⟩
   have HW22:=wkd_ hwd HW21
   have HR22:=hr_ hwd HR21
   have HV22:=hr_ hwd HV21
   have HU22:=hr_ hwd HU21
   have HQ22:=hr_ hwd HQ21
   clear a af az R0 R1 R2 R3 R4 R5 V0 V1 U Q
   rw [hwd] at hH ⊢
   clear hwd
   obtain ⟨a,af,az⟩:=opc_ HW22.out.open_
   obtain ⟨R0,R1,R2,R3,R4,R5,-,-⟩:=box6_ HR22
   obtain ⟨V0,V1,-,-⟩:=box2_ HV22
   have U:=bd6_ HU22
   have Q:=bd2_ HQ22
   refine tk_ ?_
   have cf9:=zqm HR22
   refine ss_ (fun K hK => ?_)
   go_simp
   first | refine zxu (fun w23 hw => ?_) | refine zkw (fun w23 hw => ?_) | refine zke (fun w23 hw => ?_)
   have hg9 : w22.grownBy w23 (some RB):=by rw [hw];exact zqg (zqg (zqg (zqg (zqg (zqg (World.grownBy.refl w22 (some RB)) _ _) _ _) _ _) _ _) _ _) _ _
   have HW23 : Hid (Wk 136 w w23 w.heap.size X ⟨b'.t,b'.n,b'.w,b'.cs,b'.hs,b'.os⟩ ([] : List Line) 0 D1 D2 D3 D4 s1 s2 s3 s4):=hd_ (HW22.out.aside2 HR22 HGR HGR (by decide) (by decide) (by decide) (by decide) (by decide) hg9)
   have HV23 : Hid (Hx w23 RP #[.int .i64 0,.slice none 0 0] 66):=hd_ (zqe hg9 (sn_ HNRV) HV22)
   have HU23 : Hid (Hx w23 BB (bkC b A1 p1 A2 p2 A3 p3) 39):=hd_ (zqe hg9 (sn_ HNRU) HU22)
   have HQ23 : Hid (Hx w23 PB #[.int .i64 0,.slice none 0 0] 66):=hd_ (zqe hg9 (sn_ HNRQ) HQ22)
   have HR23 : Hid (Hx w23 RB (bkC b' D1 s1 D2 s2 D3 s3) 39):=hd_ (by rw [hw];exact zqa (zqa (zqa (zqa (zqa (zqa (HR22.out)))))))
   clear hw hg9 cf9 a af az R0 R1 R2 R3 R4 R5 V0 V1 U Q
   obtain ⟨a,af,az⟩:=opc_ HW23.out.open_
   obtain ⟨R0,R1,R2,R3,R4,R5,-,-⟩:=box6_ HR23
   obtain ⟨V0,V1,-,-⟩:=box2_ HV23
   have U:=bd6_ HU23
   have Q:=bd2_ HQ23
   go_simp
   refine hK.out _ _ (q78_ a Q) (fun hH => ?_)
   clear hK K
   refine tk_ ?_
   have cf9:=zqm HV23
   refine ss_ (fun K hK => ?_)
   go_simp
   first | refine zxu (fun w24 hw => ?_) | refine zkw (fun w24 hw => ?_) | refine zke (fun w24 hw => ?_)
   have hg9 : w23.grownBy w24 (some RP):=by rw [hw];exact zqg (zqg (World.grownBy.refl w23 (some RP)) _ _) _ _
   have HW24 : Hid (Wk 136 w w24 w.heap.size X ⟨b'.t,b'.n,b'.w,b'.cs,b'.hs,b'.os⟩ ([] : List Line) 0 D1 D2 D3 D4 s1 s2 s3 s4):=hd_ (HW23.out.aside2 HV23 HGV HGV (by decide) (by decide) (by decide) (by decide) (by decide) hg9)
   have HR24 : Hid (Hx w24 RB (bkC b' D1 s1 D2 s2 D3 s3) 39):=hd_ (zqe hg9 (sn_ HNVR) HR23)
   have HU24 : Hid (Hx w24 BB (bkC b A1 p1 A2 p2 A3 p3) 39):=hd_ (zqe hg9 (sn_ HNVU) HU23)
   have HQ24 : Hid (Hx w24 PB #[.int .i64 0,.slice none 0 0] 66):=hd_ (zqe hg9 (sn_ HNVQ) HQ23)
   have HV24 : Hid (Hx w24 RP #[.int .i64 0,.slice none 0 0] 66):=hd_ (by rw [hw];exact zqa (zqa (HV23.out)))
   clear hw hg9 cf9 a af az R0 R1 R2 R3 R4 R5 V0 V1 U Q
   obtain ⟨a,af,az⟩:=opc_ HW24.out.open_
   obtain ⟨R0,R1,R2,R3,R4,R5,-,-⟩:=box6_ HR24
   obtain ⟨V0,V1,-,-⟩:=box2_ HV24
   have U:=bd6_ HU24
   have Q:=bd2_ HQ24
   go_simp
   refine hK.out _ _ (q78_ a Q) (fun hH => ?_)
   clear hK K
   refine tk_ ?_
   refine Sq.done (NoPanic.normal ?_)
   go_wp2_with fail
   refine bodyPost_ret (v:=.tuple #[.agg #[.int .i64 b'.t,.int .i64 b'.n,.int .i64 b'.w,.slice D1 b'.cs.length s1,.slice D2 b'.hs.length s2,.slice D3 b'.os.length s3],.agg #[.int .i64 0,.slice none 0 0],.int .i64 0]) (by simp [results,Tryz.results44,go_sem, *]) rfl ?_
   rw [HO.out]
   have hob2 : b' = o.b:=by rw [HOB.out];rfl
   have hol2 : ([] : List Line) = o.l:=HOL.out.symm
   exact ⟨b',[],0,D1,D2,D3,none,s1,s2,s3,0,by rw [HC0.out];rfl,HW24.out.o,Ow.nil_,HW24.out.b,hob2,hol2,by rw [if_pos hol2.symm]⟩
  | cons l0 ls =>
   obtain ⟨l,hl⟩ : ∃ l,l0 :: ls = l:=⟨_,rfl⟩
   have hlen : 0 < l.length:=by rw [← hl];simp
   have hne : l ≠ []:=by rw [← hl];simp
   rw [hl] at HOL HOB hwk
   have HNE:=hd_ hne
   clear hl hne
   have HW_wc : Hid (Wk 136 w wc w.heap.size X ⟨b'.t,b'.n,b'.w,b'.cs,b'.hs,b'.os⟩ l 0 D1 D2 D3 D4 s1 s2 s3 s4):=hd_ hwk
   clear hwk
   obtain ⟨a,af,az⟩:=opc_ HW_wc.out.open_
   obtain ⟨R0,R1,R2,R3,R4,R5,-,-⟩:=box6_ HR_wc
   obtain ⟨V0,V1,-,-⟩:=box2_ HV_wc
   have U:=bd6_ HU_wc
   go_upto_region 31 with fail
   refine nm_ ?_
   intro w21 hw
   obtain ⟨PB,hC⟩ : ∃ C,C = wc.heap.size:=⟨_,rfl⟩
   try rw [← hC]
   have HW21:=wka_ hw HW_wc
   have HR21:=ha_ hw HR_wc
   have HV21:=ha_ hw HV_wc
   have HU21:=ha_ hw HU_wc
   clear a af az R0 R1 R2 R3 R4 R5 V0 V1 U
   have HQ21 : Hid (Hx w21 PB #[.int .i64 0,.slice none 0 0] 66):=hd_ (by rw [hw,hC];exact zqi rfl)
   have HXQ : Hid (PB ≠ X):=hd_ (by have:=HW_wc.out.lt;omega)
   have HGQ : Hid (w.heap.size ≤ PB):=hd_ (by rw [hC];exact HW_wc.out.ble)
   have HNQR : Hid (RB ≠ PB):=hd_ (by have:=(gz_ HR_wc).1;omega)
   have HNRQ : Hid (PB ≠ RB):=hd_ (fun e9 => HNQR.out e9.symm)
   have HNQV : Hid (RP ≠ PB):=hd_ (by have:=(gz_ HV_wc).1;omega)
   have HNVQ : Hid (PB ≠ RP):=hd_ (fun e9 => HNQV.out e9.symm)
   have HNQU : Hid (BB ≠ PB):=hd_ (by have:=(gz_ HU_wc).1;omega)
   have HNUQ : Hid (PB ≠ BB):=hd_ (fun e9 => HNQU.out e9.symm)
   clear hw hC
   obtain ⟨a,af,az⟩:=opc_ HW21.out.open_
   obtain ⟨R0,R1,R2,R3,R4,R5,-,-⟩:=box6_ HR21
   obtain ⟨V0,V1,-,-⟩:=box2_ HV21
   have U:=bd6_ HU21
   have Q:=bd2_ HQ21
   have tl : decide ((0 : Int) < (l.length : Int)) = true:=decide_eq_true (by omega)
   have tl2 : decide (0 < l.length) = true:=decide_eq_true hlen
   go_wp2_with fail
   clear tl tl2
   refine zqs (fun w' => kqiiissss w' X b'.t b'.n b'.w D1 b'.cs.length s1 D2 b'.hs.length s2 D3 b'.os.length s3 D4 l.length s4 (kqiiisss w' RB 0 0 0 none 0 0 none 0 0 none 0 0 (kqis w' RP 0 none 0 0 (kqiiisss w' BB b.t b.n b.w A1 b.cs.length p1 A2 b.hs.length p2 A3 b.os.length p3 (kqis_ w' PB 0 none 0 0))))) [yF 0 119,yF 1 120,yF 2 121,yF 3 122,yF 4 123,yF 5 124,yF 6 125] rfl (by kernel_rfl) (by kernel_rfl) (by kernel_rfl) (by kernel_rfl) (by kernel_rfl) (by kernel_rfl) (q78_ a ⟨R0,R1,R2,R3,R4,R5,V0,V1,(q6_ U Q)⟩) (fun hH => ?_)
   obtain ⟨w22,hwd⟩ : ∃ wd,w21.drew = wd:=⟨_,rfl⟩
   have HW22:=wkd_ hwd HW21
   have HR22:=hr_ hwd HR21
   have HV22:=hr_ hwd HV21
   have HU22:=hr_ hwd HU21
   have HQ22:=hr_ hwd HQ21
   clear a af az R0 R1 R2 R3 R4 R5 V0 V1 U Q
   rw [hwd] at hH ⊢
   clear hwd
   obtain ⟨a,af,az⟩:=opc_ HW22.out.open_
   obtain ⟨R0,R1,R2,R3,R4,R5,-,-⟩:=box6_ HR22
   obtain ⟨V0,V1,-,-⟩:=box2_ HV22
   have U:=bd6_ HU22
   have Q:=bd2_ HQ22
   refine tk_ ?_
   have cf9:=zqm HQ22
   refine Sq.done ?_
   intro KK hKK
   go_simp
   refine hKK _ _ (NoPanic.normal ?_)
   first | refine zxu (fun w23 hw => ?_) | refine zkw (fun w23 hw => ?_) | refine zke (fun w23 hw => ?_)
   have hg9 : w22.grownBy w23 (some PB):=by rw [hw];exact zqg (zqg (World.grownBy.refl w22 (some PB)) _ _) _ _
   have HW23 : Hid (Wk 136 w w23 w.heap.size X ⟨b'.t,b'.n,b'.w,b'.cs,b'.hs,b'.os⟩ l 0 D1 D2 D3 D4 s1 s2 s3 s4):=hd_ (HW22.out.aside2 HQ22 HGQ HGQ (by decide) (by decide) (by decide) (by decide) (by decide) hg9)
   have HR23 : Hid (Hx w23 RB (qaiiisss 0 0 0 none 0 0 none 0 0 none 0 0) 39):=hd_ (zqe hg9 (sn_ HNQR) HR22)
   have HV23 : Hid (Hx w23 RP #[.int .i64 0,.slice none 0 0] 66):=hd_ (zqe hg9 (sn_ HNQV) HV22)
   have HU23 : Hid (Hx w23 BB (bkC b A1 p1 A2 p2 A3 p3) 39):=hd_ (zqe hg9 (sn_ HNQU) HU22)
   have HQ23 : Hid (Hx w23 PB #[.int .i64 b.n,.slice D4 l.length s4] 66):=hd_ (by rw [hw];exact zqa (zqa (HQ22.out)))
   clear hw hg9 a af az R0 R1 R2 R3 R4 R5 V0 V1 U Q
   obtain ⟨a,af,az⟩:=opc_ HW23.out.open_
   obtain ⟨R0,R1,R2,R3,R4,R5,-,-⟩:=box6_ HR23
   obtain ⟨V0,V1,-,-⟩:=box2_ HV23
   have U:=bd6_ HU23
   have Q:=bd2_ HQ23
   clear cf9
   have wsn : IntKind.i64.wrap (b'.n + 1) = b'.n + 1:=IntWalk.i64_in _ ⟨by omega,by omega⟩
   go_wp2_with fail
   refine nm_ ?_
   intro w24 hw
   have HW24 : Hid (Wk 136 w w24 w.heap.size X ⟨b'.t,b'.n + 1,b'.w,b'.cs,b'.hs,b'.os⟩ l 0 D1 D2 D3 D4 s1 s2 s3 s4):=hd_ (by rw [hw];exact HW23.out.setNext (by decide) (by decide) (by decide) (by decide) _)
   have HR24:=hf_ hw HXR HR23
   have HV24:=hf_ hw HXV HV23
   have HU24:=hf_ hw HXU HU23
   have HQ24:=hf_ hw HXQ HQ23
   clear hw
   clear a af az R0 R1 R2 R3 R4 R5 V0 V1 U Q
   obtain ⟨a,af,az⟩:=opc_ HW24.out.open_
   obtain ⟨R0,R1,R2,R3,R4,R5,-,-⟩:=box6_ HR24
   obtain ⟨V0,V1,-,-⟩:=box2_ HV24
   have U:=bd6_ HU24
   have Q:=bd2_ HQ24
   refine zql (fun w' => kqiiissss w' X b'.t (b'.n + 1) b'.w D1 b'.cs.length s1 D2 b'.hs.length s2 D3 b'.os.length s3 D4 l.length s4 (kqis_ w' PB b.n D4 l.length s4)) [yF 0 135,yF 1 136,yF 2 137,yF 3 138,yF 4 139,yN 5,yN 6,yF 7 6] (by kernel_rfl) (by kernel_rfl) (by kernel_rfl) (q78_ a Q) (fun hH => ?_)
   obtain ⟨w25,hwd⟩ : ∃ wd,w24.drew = wd:=⟨_,rfl⟩
   have HW25:=wkd_ hwd HW24
   have HR25:=hr_ hwd HR24
   have HV25:=hr_ hwd HV24
   have HU25:=hr_ hwd HU24
   have HQ25:=hr_ hwd HQ24
   clear a af az R0 R1 R2 R3 R4 R5 V0 V1 U Q
   rw [hwd] at hH ⊢
   clear hwd
   obtain ⟨a,af,az⟩:=opc_ HW25.out.open_
   obtain ⟨R0,R1,R2,R3,R4,R5,-,-⟩:=box6_ HR25
   obtain ⟨V0,V1,-,-⟩:=box2_ HV25
   have U:=bd6_ HU25
   have Q:=bd2_ HQ25
   refine tk_ ?_
   have cf9:=zqm HR25
   refine ss_ (fun K hK => ?_)
   go_simp
   first | refine zxu (fun w26 hw => ?_) | refine zkw (fun w26 hw => ?_) | refine zke (fun w26 hw => ?_)
   have hg9 : w25.grownBy w26 (some RB):=by rw [hw];exact zqg (zqg (zqg (zqg (zqg (zqg (World.grownBy.refl w25 (some RB)) _ _) _ _) _ _) _ _) _ _) _ _
   have HW26 : Hid (Wk 136 w w26 w.heap.size X ⟨b'.t,b'.n + 1,b'.w,b'.cs,b'.hs,b'.os⟩ l 0 D1 D2 D3 D4 s1 s2 s3 s4):=hd_ (HW25.out.aside2 HR25 HGR HGR (by decide) (by decide) (by decide) (by decide) (by decide) hg9)
   have HV26 : Hid (Hx w26 RP #[.int .i64 0,.slice none 0 0] 66):=hd_ (zqe hg9 (sn_ HNRV) HV25)
   have HU26 : Hid (Hx w26 BB (bkC b A1 p1 A2 p2 A3 p3) 39):=hd_ (zqe hg9 (sn_ HNRU) HU25)
   have HQ26 : Hid (Hx w26 PB #[.int .i64 b.n,.slice D4 l.length s4] 66):=hd_ (zqe hg9 (sn_ HNRQ) HQ25)
   have HR26 : Hid (Hx w26 RB (qaiiisss b'.t (b'.n + 1) b'.w D1 b'.cs.length s1 D2 b'.hs.length s2 D3 b'.os.length s3) 39):=hd_ (by rw [hw];exact zqa (zqa (zqa (zqa (zqa (zqa (HR25.out)))))))
   clear hw hg9 cf9 a af az R0 R1 R2 R3 R4 R5 V0 V1 U Q
   obtain ⟨a,af,az⟩:=opc_ HW26.out.open_
   obtain ⟨R0,R1,R2,R3,R4,R5,-,-⟩:=box6_ HR26
   obtain ⟨V0,V1,-,-⟩:=box2_ HV26
   have U:=bd6_ HU26
   have Q:=bd2_ HQ26
   go_simp
   refine hK.out _ _ (q78_ a Q) (fun hH => ?_)
   clear hK K
   refine tk_ ?_
   have cf9:=zqm HV26
   refine ss_ (fun K hK => ?_)
   go_simp
   first | refine zxu (fun w27 hw => ?_) | refine zkw (fun w27 hw => ?_) | refine zke (fun w27 hw => ?_)
   have hg9 : w26.grownBy w27 (some RP):=by rw [hw];exact zqg (zqg (World.grownBy.refl w26 (some RP)) _ _) _ _
   have HW27 : Hid (Wk 136 w w27 w.heap.size X ⟨b'.t,b'.n + 1,b'.w,b'.cs,b'.hs,b'.os⟩ l 0 D1 D2 D3 D4 s1 s2 s3 s4):=hd_ (HW26.out.aside2 HV26 HGV HGV (by decide) (by decide) (by decide) (by decide) (by decide) hg9)
   have HR27 : Hid (Hx w27 RB (qaiiisss b'.t (b'.n + 1) b'.w D1 b'.cs.length s1 D2 b'.hs.length s2 D3 b'.os.length s3) 39):=hd_ (zqe hg9 (sn_ HNVR) HR26)
   have HU27 : Hid (Hx w27 BB (bkC b A1 p1 A2 p2 A3 p3) 39):=hd_ (zqe hg9 (sn_ HNVU) HU26)
   have HQ27 : Hid (Hx w27 PB #[.int .i64 b.n,.slice D4 l.length s4] 66):=hd_ (zqe hg9 (sn_ HNVQ) HQ26)
   have HV27 : Hid (Hx w27 RP #[.int .i64 b.n,.slice D4 l.length s4] 66):=hd_ (by rw [hw];exact zqa (zqa (HV26.out)))
   clear hw hg9 cf9 a af az R0 R1 R2 R3 R4 R5 V0 V1 U Q
   obtain ⟨a,af,az⟩:=opc_ HW27.out.open_
   obtain ⟨R0,R1,R2,R3,R4,R5,-,-⟩:=box6_ HR27
   obtain ⟨V0,V1,-,-⟩:=box2_ HV27
   have U:=bd6_ HU27
   have Q:=bd2_ HQ27
   go_simp
   refine hK.out _ _ (q78_ a Q) (fun hH => ?_)
   clear hK K
   refine tk_ ?_
   refine Sq.done (NoPanic.normal ?_)
   go_wp2_with fail
   refine bodyPost_ret (v:=.tuple #[.agg #[.int .i64 b'.t,.int .i64 (b'.n + 1),.int .i64 b'.w,.slice D1 b'.cs.length s1,.slice D2 b'.hs.length s2,.slice D3 b'.os.length s3],.agg #[.int .i64 b.n,.slice D4 l.length s4],.int .i64 0]) (by simp [results,Tryz.results44,go_sem, *]) rfl ?_
   rw [HO.out]
   have hob2 : (⟨b'.t,b'.n + 1,b'.w,b'.cs,b'.hs,b'.os⟩ : Bk) = o.b:=by rw [HOB.out,if_neg HNE.out]
   have hol2 : l = o.l:=HOL.out.symm
   exact ⟨⟨b'.t,b'.n + 1,b'.w,b'.cs,b'.hs,b'.os⟩,l,b.n,D1,D2,D3,D4,s1,s2,s3,s4,by rw [HC0.out],HW27.out.o,HW27.out.l,HW27.out.b,hob2,hol2,by rw [← hol2,if_neg HNE.out]⟩
theorem i_Apply (b : Bk) (e : Event) (A1 A2 A3 : Option Addr) (p1 p2 p3 : Nat) (w : World) (hlc : b.cs.length ≤ 1048576) (hlh : b.hs.length ≤ 1048576) (hlo : b.os.length ≤ 1048576) (hr : RdBook w w.heap.size A1 b.cs A2 b.hs A3 b.os) :
  Calls Tryz.prog 44 #[.agg #[.int .i64 b.t,.int .i64 b.n,.int .i64 b.w,.slice A1 b.cs.length p1,.slice A2 b.hs.length p2,.slice A3 b.os.length p3],.agg #[.int .i64 e.Kind,.int .i64 e.Key,.int .i64 e.Ch,.int .i64 e.To,.int .i64 e.Amt,.int .i64 e.Fee,.bool e.Yes]] w (ApplyP w (applyS b e) b.n):=by
 obtain ⟨k,key,ch,ot,amt,fee,yes⟩:=e
 cases hv : b.ok && evB ⟨k,key,ch,ot,amt,fee,yes⟩
 ·
  exact i_Apply_no b k key ch ot amt fee yes A1 A2 A3 p1 p2 p3 w hlc hlh hlo hr hv
 cases ho : ovB b ⟨k,key,ch,ot,amt,fee,yes⟩
 ·
  exact i_Apply_yes b k key ch ot amt fee yes A1 A2 A3 p1 p2 p3 w hlc hlh hlo hr hv ho
 exact i_Apply_ov b k key ch ot amt fee yes A1 A2 A3 p1 p2 p3 w hlc hlh hlo hr hv ho
end Go.Proofs.YtdbmkfmenfcbiaaGreat
