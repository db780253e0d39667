/- Draws: a score, a book. -/
import Derived.Test.YtdbmkfmenfcbiaaGreatRows
import Derived.Test.YtdbmkfmenfcbiaaGreatSDrawEs
namespace Go.Proofs.YtdbmkfmenfcbiaaGreat
open Go.RowKit Go.Deep
theorem OwB.pastL {w w' : World} {B g : Nat} {b : Bk} {C1 C2 C3 : Option Addr} {q1 q2 q3 : Nat} (h : OwB w B b C1 C2 C3 q1 q2 q3) (hg : w.grownBy w' (some g)) (hB : g < B) : OwB w' B b C1 C2 C3 q1 q2 q3:=⟨h.c.pastL hg hB,h.h.pastL hg hB,h.o.pastL hg hB⟩
def DrewBk (g : Nat) (w : World) (e : Ending) (w' : World) : Prop:=∃ (b : Bk) (C1 C2 C3 : Option Addr) (q1 q2 q3 : Nat),e = .returned (.agg #[.int .i64 b.t,.int .i64 b.n,.int .i64 b.w,.slice C1 b.cs.length q1,.slice C2 b.hs.length q2,.slice C3 b.os.length q3])∧OwB w' w.heap.size b C1 C2 C3 q1 q2 q3∧LenOk b∧Crs w' g∧w.grownBy w' (some g)
set_option maxRecDepth 100000 in
theorem zpi (g : Nat) (w : World) (hc : Crs w g) :
  Calls Tryz.prog 153 #[.pointer (some ⟨g,0,none⟩)] w (DrewI g w (-9223372036854775808) 9223372036854775807):=by
 have hgw:=hc.lt
 have HC_w:=hd_ hc
 have HG_w:=hd_ (World.grownBy.refl w (some g))
 clear hc
 go_enter Tryz.func153,Tryz.ntmps153
 go_wp2_with fail
 refine (zqp g 201 _ HC_w.out (by first | decide | omega) (by first | decide | omega)).mono ?_
 rintro e' w1 ⟨x,x1,x2,rfl,hcn,hg⟩
 have HC_w1:=hd_ hcn
 have HG_w1:=hd_ (zql HG_w.out hg)
 clear hcn hg
 go_wp2_with fail
 refine (zqp g 8 _ HC_w1.out (by first | decide | omega) (by first | decide | omega)).mono ?_
 rintro e' w2 ⟨k,k1,k2,rfl,hcn,hg⟩
 have HC_w2:=hd_ hcn
 have HG_w2:=hd_ (zql HG_w1.out hg)
 clear hcn hg
 cases t0 : (k == 0)
 ·
  cases t1 : (k == 1)
  ·
   go_wp2_with fail
   go_ret
   exact ⟨_,by omega,by omega,rfl,HC_w2.out,HG_w2.out⟩
  ·
   go_wp2_with fail
   refine nm_ ?_
   intro w3 hw
   have HC_w3 : Hid (Crs w3 g):=hd_ (by rw [hw];exact (HC_w2.out).alloc _)
   have HG_w3 : Hid (w.grownBy w3 (some g)):=hd_ (by rw [hw];exact zxf (HG_w2.out) _)
   obtain ⟨IB,h9I⟩ : ∃ v,v = w2.heap.size:=⟨_,rfl⟩
   have HI_w3 : Hid (Hx w3 IB #[.int .i64 (-101),.int .i64 (-100),.int .i64 0,.int .i64 19,.int .i64 20,.int .i64 100,.int .i64 101] 3):=hd_ (by rw [hw,h9I];exact zqm (by first | rfl | (simp;done)))
   have HLI : Hid (w.heap.size ≤ IB):=hd_ (by have:=HG_w2.out.size;omega)
   try rw [← h9I]
   clear hw h9I
   obtain ⟨I0,I1,I2,I3,I4,I5,I6,If,Iz⟩:=box7_ HI_w3.out
   refine (zqp g 7 _ HC_w3.out (by first | decide | omega) (by first | decide | omega)).mono ?_
   rintro e' w4 ⟨j,j1,j2,rfl,hcn,hg⟩
   have HC_w4:=hd_ hcn
   have HG_w4:=hd_ (zql HG_w3.out hg)
   have HI_w4:=hd_ (zqd hg (zqy (by have:=HLI.out;omega)) HI_w3.out)
   clear hcn hg
   clear I0 I1 I2 I3 I4 I5 I6 If Iz
   obtain ⟨I0,I1,I2,I3,I4,I5,I6,If,Iz⟩:=box7_ HI_w4.out
   have hj : j = 0 ∨ j = 1 ∨ j = 2 ∨ j = 3 ∨ j = 4 ∨ j = 5 ∨ j = 6:=by omega
   rcases hj with rfl | rfl | rfl | rfl | rfl | rfl | rfl
   all_goals (go_wp2_with fail;go_ret;exact ⟨_,by omega,by omega,rfl,HC_w4.out,HG_w4.out⟩)
 ·
  have hk0:=eq_of_beq t0
  subst hk0
  go_wp2_with fail
  refine (zvb g _ HC_w2.out).mono ?_
  rintro e' w3 ⟨y,y1,y2,rfl,hcn,hg⟩
  have HC_w3:=hd_ hcn
  have HG_w3:=hd_ (zql HG_w2.out hg)
  clear hcn hg
  go_wp2_with fail
  go_ret
  exact ⟨_,y1,y2,rfl,HC_w3.out,HG_w3.out⟩
theorem zte (w : World) : Calls Tryz.prog 28 #[] w fun e w' => e = .returned (.agg #[.int .i64 0,.int .i64 1,.int .i64 0,.slice none 0 0,.slice none 0 0,.slice none 0 0])∧Below w.heap.size w w':=by
 go_enter Tryz.func28,Tryz.ntmps28
 go_wp2_with fail
 refine name_ret (fun wz hw => ?_)
 have hz : wz.heap[w.heap.size]? = some (.cells #[.int .i64 0,.int .i64 1,.int .i64 0,.slice none 0 0,.slice none 0 0,.slice none 0 0] 39 (0,0)):=by rw [hw];first | exact zqm rfl | exact zqa (zqa (zqa (zqa (zqa (zqa (zqm rfl))))))
 have hB : Below w.heap.size w wz:=by rw [hw];exact bl_
 clear hw
 have r0 : wz.cell? ⟨w.heap.size,0,none⟩ = some (.int .i64 0):=zqf hz 0
 have r1 : wz.cell? ⟨w.heap.size,1,none⟩ = some (.int .i64 1):=zqf hz 1
 have r2 : wz.cell? ⟨w.heap.size,2,none⟩ = some (.int .i64 0):=zqf hz 2
 have r3 : wz.cell? ⟨w.heap.size,3,none⟩ = some (.slice none 0 0):=zqf hz 3
 have r4 : wz.cell? ⟨w.heap.size,4,none⟩ = some (.slice none 0 0):=zqf hz 4
 have r5 : wz.cell? ⟨w.heap.size,5,none⟩ = some (.slice none 0 0):=zqf hz 5
 exact bodyPost_ret (v:=.agg #[.int .i64 0,.int .i64 1,.int .i64 0,.slice none 0 0,.slice none 0 0,.slice none 0 0]) (by simp [results,Tryz.results28,go_sem,r0,r1,r2,r3,r4,r5]) rfl ⟨rfl,hB⟩
set_option maxRecDepth 100000 in
set_option maxHeartbeats 1000000 in
theorem zsd (g : Nat) (most : Int) (w : World) (hc : Crs w g) (h1 : 0 ≤ most) (h2 : most ≤ 100) :
  Calls Tryz.prog 152 #[.pointer (some ⟨g,0,none⟩),.int .i64 most] w (DrewBk g w):=by
 have hgw:=hc.lt
 have HC_w:=hd_ hc
 have HG_w:=hd_ (World.grownBy.refl w (some g))
 clear hc
 go_enter Tryz.func152,Tryz.ntmps152
 go_wp2_with fail
 refine nm_ ?_
 intro w1 hw
 have HC_w1 : Hid (Crs w1 g):=hd_ (by rw [hw];exact (HC_w.out).alloc _)
 have HG_w1 : Hid (w.grownBy w1 (some g)):=hd_ (by rw [hw];exact zxf (HG_w.out) _)
 obtain ⟨RB,h9R⟩ : ∃ v,v = w.heap.size:=⟨_,rfl⟩
 have HR_w1 : Hid (Hx w1 RB #[.int .i64 0,.int .i64 0,.int .i64 0,.slice none 0 0,.slice none 0 0,.slice none 0 0] 39):=hd_ (by rw [hw,h9R];exact zqm (by first | rfl | (simp;done)))
 have HLR : Hid (w.heap.size ≤ RB):=hd_ (by have:=HG_w.out.size;omega)
 try rw [← h9R]
 clear hw h9R
 obtain ⟨R0,R1,R2,R3,R4,R5,Rf,Rz⟩:=box6_ HR_w1.out
 refine (zte _).mono ?_
 rintro e' w2 ⟨rfl,hb⟩
 have HC_w2:=hd_ (HC_w1.out.below hb)
 have HG_w2:=hd_ (zke HG_w1.out hb)
 have HR_w2:=hd_ (zqe hb (gz_ HR_w1.out).1 HR_w1.out)
 clear hb
 clear R0 R1 R2 R3 R4 R5 Rf Rz
 obtain ⟨R0,R1,R2,R3,R4,R5,Rf,Rz⟩:=box6_ HR_w2.out
 go_wp2_with fail
 have HSZ0:=hd_ HG_w2.out.size
 refine (zww g most _ HC_w2.out (by first | decide | omega) (by first | decide | omega)).mono ?_
 rintro e' w3 ⟨es,A,cap,rfl,hel,how,hcn,hg⟩
 have HC_w3:=hd_ hcn
 have HG_w3:=hd_ (zql HG_w2.out hg)
 have HR_w3:=hd_ (zqd hg (zqy (by have:=HLR.out;omega)) HR_w2.out)
 clear hcn hg
 clear R0 R1 R2 R3 R4 R5 Rf Rz
 obtain ⟨R0,R1,R2,R3,R4,R5,Rf,Rz⟩:=box6_ HR_w3.out
 have OS_w3:=hd_ (how.more HSZ0.out)
 have HEL:=hd_ hel
 clear how hel
 go_wp2_with fail
 have HSZ1:=hd_ HG_w3.out.size
 refine (zhp ⟨0,1,0,[],[],[]⟩ es none none none _ 0 0 0 _ _ (by decide) (by decide) (by decide) (by have:=HEL.out;omega) ⟨Rd.nil_,Rd.nil_,Rd.nil_⟩ OS_w3.out.rd).mono ?_
 rintro e' w4 ⟨b,C1,C2,C3,D1,D2,q1,q2,q3,n1,d1,n2,d2,rfl,hob,hb,hlen,-⟩
 have HC_w4:=hd_ (HC_w3.out.below hb)
 have HG_w4:=hd_ (zke HG_w3.out hb)
 have HR_w4:=hd_ (zqe hb (gz_ HR_w3.out).1 HR_w3.out)
 have OS_w4:=hd_ (OS_w3.out.below hb)
 clear hb
 clear R0 R1 R2 R3 R4 R5 Rf Rz
 obtain ⟨R0,R1,R2,R3,R4,R5,Rf,Rz⟩:=box6_ HR_w4.out
 have OW_w4:=hd_ (hob.more HSZ1.out)
 have HLEN:=hd_ hlen
 clear hob hlen
 go_upto_region 2 with fail
 refine nm_ ?_
 intro w5 hw
 have HC_w5 : Hid (Crs w5 g):=hd_ (by rw [hw];exact (HC_w4.out).alloc _)
 have HG_w5 : Hid (w.grownBy w5 (some g)):=hd_ (by rw [hw];exact zxf (HG_w4.out) _)
 have HR_w5 : Hid (Hx w5 RB #[.int .i64 0,.int .i64 0,.int .i64 0,.slice none 0 0,.slice none 0 0,.slice none 0 0] 39):=hd_ (by rw [hw];exact zqg (by have:=(gz_ HR_w4.out).1;first | omega | (simp;omega)) (HR_w4.out))
 have OW_w5 : Hid (OwB w5 w.heap.size b C1 C2 C3 q1 q2 q3):=hd_ (by rw [hw];exact (OW_w4.out).alloc _)
 obtain ⟨NB,h9N⟩ : ∃ v,v = w4.heap.size:=⟨_,rfl⟩
 have HN_w5 : Hid (Hx w5 NB (bkC b C1 q1 C2 q2 C3 q3) 39):=hd_ (by rw [hw,h9N];exact zqm (by first | rfl | (simp;done)))
 have HLN : Hid (w.heap.size ≤ NB):=hd_ (by have:=HG_w4.out.size;omega)
 try rw [← h9N]
 have HNNR : Hid (NB ≠ RB):=hd_ (by have:=(gz_ HR_w4.out).1;omega)
 clear hw h9N
 clear R0 R1 R2 R3 R4 R5 Rf Rz
 obtain ⟨R0,R1,R2,R3,R4,R5,Rf,Rz⟩:=box6_ HR_w5.out
 obtain ⟨N0,N1,N2,N3,N4,N5,Nf,Nz⟩:=box6_ HN_w5.out
 go_wp2_with fail
 refine nm_ ?_
 intro w6 hw
 have HC_w6 : Hid (Crs w6 g):=hd_ (by rw [hw];exact ((((((HC_w5.out).set (by have:=HLR.out;omega)).set (by have:=HLR.out;omega)).set (by have:=HLR.out;omega)).set (by have:=HLR.out;omega)).set (by have:=HLR.out;omega)).set (by have:=HLR.out;omega))
 have HG_w6 : Hid (w.grownBy w6 (some g)):=hd_ (by rw [hw];exact zqc (zqc (zqc (zqc (zqc (zqc (HG_w5.out) HLR.out _ _) HLR.out _ _) HLR.out _ _) HLR.out _ _) HLR.out _ _) HLR.out _ _)
 have HR_w6 : Hid (Hx w6 RB (bkC b C1 q1 C2 q2 C3 q3) 39):=hd_ (by rw [hw];exact zqa (zqa (zqa (zqa (zqa (zqa (HR_w5.out)))))))
 have HN_w6 : Hid (Hx w6 NB (bkC b C1 q1 C2 q2 C3 q3) 39):=hd_ (by rw [hw];exact zqb (by first | exact HNNR.out | exact fun e9 => HNRN.out e9.symm) (zqb (by first | exact HNNR.out | exact fun e9 => HNRN.out e9.symm) (zqb (by first | exact HNNR.out | exact fun e9 => HNRN.out e9.symm) (zqb (by first | exact HNNR.out | exact fun e9 => HNRN.out e9.symm) (zqb (by first | exact HNNR.out | exact fun e9 => HNRN.out e9.symm) (zqb (by first | exact HNNR.out | exact fun e9 => HNRN.out e9.symm) (HN_w5.out)))))))
 have OW_w6 : Hid (OwB w6 w.heap.size b C1 C2 C3 q1 q2 q3):=hd_ (by rw [hw];exact ((((((OW_w5.out).aside (HR_w5.out) (by decide) (by decide) (by decide) _).aside (zqa (HR_w5.out)) (by decide) (by decide) (by decide) _).aside (zqa (zqa (HR_w5.out))) (by decide) (by decide) (by decide) _).aside (zqa (zqa (zqa (HR_w5.out)))) (by decide) (by decide) (by decide) _).aside (zqa (zqa (zqa (zqa (HR_w5.out))))) (by decide) (by decide) (by decide) _).aside (zqa (zqa (zqa (zqa (zqa (HR_w5.out)))))) (by decide) (by decide) (by decide) _)
 clear hw
 clear R0 R1 R2 R3 R4 R5 N0 N1 N2 N3 N4 N5 Rf Nf Rz Nz
 obtain ⟨R0,R1,R2,R3,R4,R5,Rf,Rz⟩:=box6_ HR_w6.out
 obtain ⟨N0,N1,N2,N3,N4,N5,Nf,Nz⟩:=box6_ HN_w6.out
 refine bodyPost_ret (v:=.agg #[.int .i64 b.t,.int .i64 b.n,.int .i64 b.w,.slice C1 b.cs.length q1,.slice C2 b.hs.length q2,.slice C3 b.os.length q3]) (by simp [results,Tryz.results152,go_sem, *]) rfl ?_
 exact ⟨_,_,_,_,_,_,_,rfl,OW_w6.out,HLEN.out,HC_w6.out,HG_w6.out⟩
end Go.Proofs.YtdbmkfmenfcbiaaGreat
