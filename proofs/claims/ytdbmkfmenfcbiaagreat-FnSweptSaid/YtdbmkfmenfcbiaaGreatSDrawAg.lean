/- Draws: an aged book. -/
import Derived.Test.YtdbmkfmenfcbiaaGreatRows
import Derived.Test.YtdbmkfmenfcbiaaGreatSDrawAny
namespace Go.Proofs.YtdbmkfmenfcbiaaGreat
open Go.RowKit Go.Deep
set_option maxRecDepth 100000 in
set_option maxHeartbeats 4000000 in
theorem zsg (g : Nat) (w : World) (hc : Crs w g) :
  Calls Tryz.prog 53 #[.pointer (some ⟨g,0,none⟩)] w (DrewBk g w):=by
 obtain ⟨i0,hi,hz0,hz1,hz2⟩:=info_parts zwq
 have HI0:=hd_ hi
 have HI1:=hd_ hz0
 have HI2:=hd_ hz1
 have HI3:=hd_ hz2
 clear hi hz0 hz1 hz2
 have hgw:=hc.lt
 have HC_w:=hd_ hc
 have HG_w:=hd_ (World.grownBy.refl w (some g))
 clear hc
 go_enter Tryz.func53,Tryz.ntmps53
 go_wp2_with fail
 refine nm_ ?_
 intro w1 hw
 have HC_w1 : Hid (Crs w1 g):=hd_ (by rw [hw];exact (HC_w.out).alloc _)
 have HG_w1 : Hid (w.grownBy w1 (some g)):=hd_ (by rw [hw];exact zxf (HG_w.out) _)
 obtain ⟨RB,h9R⟩ : ∃ v,v = w.heap.size:=⟨_,rfl⟩
 have HR_w1 : Hid (Hx w1 RB #[.int .i64 0,.int .i64 0,.int .i64 0,.slice none 0 0,.slice none 0 0,.slice none 0 0] 39):=hd_ (by rw [hw,h9R];exact zqm (by first | rfl | (simp;done)))
 have HLR : Hid (w.heap.size ≤ RB):=hd_ (by have:=HG_w.out.size;omega)
 try rw [← h9R]
 clear hw h9R
 obtain ⟨R0,R1,R2,R3,R4,R5,Rf,Rz⟩:=box6_ HR_w1.out
 have HSZ0:=hd_ HG_w1.out.size
 refine (zww g 16 _ HC_w1.out (by decide) (by decide)).mono ?_
 rintro e' w2 ⟨es,A,cap,rfl,hel,how,hcn,hg⟩
 have HC_w2:=hd_ hcn
 have HG_w2:=hd_ (zql HG_w1.out hg)
 have HR_w2:=hd_ (zqd hg (zqy (by have:=HLR.out;omega)) HR_w1.out)
 clear hcn hg
 clear R0 R1 R2 R3 R4 R5 Rf Rz
 obtain ⟨R0,R1,R2,R3,R4,R5,Rf,Rz⟩:=box6_ HR_w2.out
 have OS_w2:=hd_ (how.more HSZ0.out)
 have HEL:=hd_ hel
 clear how hel
 go_wp2_with fail
 refine (zqp g 5 _ HC_w2.out (by first | decide | omega) (by first | decide | omega)).mono ?_
 rintro e' w3 ⟨n,n1,n2,rfl,hcn,hg⟩
 have HC_w3:=hd_ hcn
 have HG_w3:=hd_ (zql HG_w2.out hg)
 have HR_w3:=hd_ (zqd hg (zqy (by have:=HLR.out;omega)) HR_w2.out)
 have OS_w3:=hd_ (OS_w2.out.pastL hg hgw)
 clear hcn hg
 clear R0 R1 R2 R3 R4 R5 Rf Rz
 obtain ⟨R0,R1,R2,R3,R4,R5,Rf,Rz⟩:=box6_ HR_w3.out
 go_wp2_with fail
 clear R0 R1 R2 R3 R4 R5 Rf Rz
 go_loopw [3,4] (fun vl vn wr => ∃ (N : Int) (L : List Event) (A : Option Addr) (cp : Nat),0 ≤ N∧N ≤ 4∧vn = .int .i64 N∧vl = .slice A L.length cp∧(L.length : Int) + 2 * N ≤ 200∧Hid (Ow wr w.heap.size 64 7 (.slice A L.length cp) (L.map Event.cells))∧Hid (Crs wr g)∧Hid (w.grownBy wr (some g))∧Hid (Hx wr RB #[.int .i64 0,.int .i64 0,.int .i64 0,.slice none 0 0,.slice none 0 0,.slice none 0 0] 39)) (fun _ vn _ => (intOf vn).toNat)
 case atStart => exact ⟨n,es,A,cap,n1,by omega,rfl,rfl,by have:=HEL.out;omega,OS_w3,HC_w3,HG_w3,HR_w3⟩
 case round =>
  clear OS_w3 HC_w3 HG_w3 HR_w3
  obtain ⟨N,L,A,cp,n3,n4,rfl,rfl,hLN,OS_wr,HC_wr,HG_wr,HR_wr⟩:=hrel
  have hgz:=HG_wr.out.size
  by_cases hlt : 0 < N
  ·
   obtain ⟨R0,R1,R2,R3,R4,R5,Rf,Rz⟩:=box6_ HR_wr.out
   have hc0:=hd_ hgw
   go_wp2_with (at_builtin;refine Stop.go ?_)
   refine Stop.on ?_
   refine zjd (fun w51 hw => ?_)
   have HC_w51 : Hid (Crs w51 g):=hd_ (by rw [hw];exact (HC_wr.out).alloc _)
   have HG_w51 : Hid (w.grownBy w51 (some g)):=hd_ (by rw [hw];exact zxf (HG_wr.out) _)
   have HR_w51 : Hid (Hx w51 RB #[.int .i64 0,.int .i64 0,.int .i64 0,.slice none 0 0,.slice none 0 0,.slice none 0 0] 39):=hd_ (by rw [hw];exact zqg (by have:=(gz_ HR_wr.out).1;first | omega | (simp;omega)) (HR_wr.out))
   have OS_w51 : Hid (Ow w51 w.heap.size 64 7 (.slice A L.length cp) (L.map Event.cells)):=hd_ (by rw [hw];exact (OS_wr.out).alloc _)
   have HX : Hid (w51.heap[wr.heap.size]? = some (.cells #[.int .i64 8,.int .i64 0,.int .i64 0,.int .i64 0,.int .i64 0,.int .i64 0,.bool false] 64 (0,0))):=hd_ (by rw [hw];exact zqm (by first | rfl | (simp;done)))
   have hbz:=HG_w51.out.size
   clear hw
   clear R0 R1 R2 R3 R4 R5 Rf Rz
   refine zqr rfl _ _ _ rfl w.heap.size 64 i0 _ 7 56 Tryz.underlying26 HI0.out HI1.out HI2.out HI3.out rfl (by decide) (.slice A L.length cp) _ rfl OS_w51.out wr.heap.size 1 [.int .i64 8,.int .i64 0,.int .i64 0,.int .i64 0,.int .i64 0,.int .i64 0,.bool false] 64 (by rfl) HX.out rfl (by simp [Value.oneCell']) (by rw [List.length_map];omega) (by decide) hbz ?_
   intro ga capa xa how hgr hat hlt9
   have HC_xa:=hd_ (HC_w51.out.grown hgr (fun k9 e9 => by have:=(OS_w51.out.block k9 e9).1;have:=hc0.out;omega))
   have HG_xa:=hd_ (zjr HG_w51.out OS_w51.out hgr)
   have HR_xa:=hd_ (zqd hgr (OS_w51.out.ne_ HR_w51.out (by decide)) HR_w51.out)
   rw [List.length_map] at how ⊢
   obtain ⟨La,hL⟩ : ∃ l,l = L ++ [(⟨8,0,0,0,0,0,false⟩ : Event)]:=⟨_,rfl⟩
   have hLl : L.length + 1 = La.length:=by rw [hL,List.length_append];rfl
   rw [hLl] at how ⊢
   have OS_xa : Hid (Ow xa w.heap.size 64 7 (.slice (some ⟨ga,0,none⟩) La.length capa) (La.map Event.cells)):=hd_ (by rw [hL,List.map_append,← hL];exact how)
   clear how hgr hat hlt9 hL HX hbz OS_w51 HC_w51 HG_w51 HR_w51
   obtain ⟨R0,R1,R2,R3,R4,R5,Rf,Rz⟩:=box6_ HR_xa.out
   go_wp2_with fail
   refine (zqp g 3 _ HC_xa.out (by first | decide | omega) (by first | decide | omega)).mono ?_
   rintro e' w52 ⟨a,a1,a2,rfl,hcn,hg⟩
   have HC_w52:=hd_ hcn
   have HG_w52:=hd_ (zql HG_xa.out hg)
   have HR_w52:=hd_ (zqd hg (zqy (by have:=HLR.out;omega)) HR_xa.out)
   have OS_w52:=hd_ (OS_xa.out.pastL hg hgw)
   clear hcn hg
   clear R0 R1 R2 R3 R4 R5 Rf Rz
   obtain ⟨R0,R1,R2,R3,R4,R5,Rf,Rz⟩:=box6_ HR_w52.out
   go_wp2_with fail
   refine (zqp g 900 _ HC_w52.out (by first | decide | omega) (by first | decide | omega)).mono ?_
   rintro e' w53 ⟨c,c1,c2,rfl,hcn,hg⟩
   have HC_w53:=hd_ hcn
   have HG_w53:=hd_ (zql HG_w52.out hg)
   have HR_w53:=hd_ (zqd hg (zqy (by have:=HLR.out;omega)) HR_w52.out)
   have OS_w53:=hd_ (OS_w52.out.pastL hg hgw)
   clear hcn hg
   clear R0 R1 R2 R3 R4 R5 Rf Rz
   obtain ⟨R0,R1,R2,R3,R4,R5,Rf,Rz⟩:=box6_ HR_w53.out
   go_upto_region 7 with fail
   refine nm_ ?_
   intro w54 hw
   have HC_w54 : Hid (Crs w54 g):=hd_ (by rw [hw];exact (HC_w53.out).alloc _)
   have HG_w54 : Hid (w.grownBy w54 (some g)):=hd_ (by rw [hw];exact zxf (HG_w53.out) _)
   have HR_w54 : Hid (Hx w54 RB #[.int .i64 0,.int .i64 0,.int .i64 0,.slice none 0 0,.slice none 0 0,.slice none 0 0] 39):=hd_ (by rw [hw];exact zqg (by have:=(gz_ HR_w53.out).1;first | omega | (simp;omega)) (HR_w53.out))
   have OS_w54 : Hid (Ow w54 w.heap.size 64 7 (.slice (some ⟨ga,0,none⟩) La.length capa) (La.map Event.cells)):=hd_ (by rw [hw];exact (OS_w53.out).alloc _)
   obtain ⟨EB,h9E⟩ : ∃ v,v = w53.heap.size:=⟨_,rfl⟩
   have HE_w54 : Hid (Hx w54 EB #[.int .i64 5,.int .i64 (10 + N),.int .i64 (1 + a),.int .i64 0,.int .i64 (1 + c),.int .i64 0,.bool false] 64):=hd_ (by rw [hw,h9E];exact zqm (by first | rfl | (simp;done)))
   have HLE : Hid (w.heap.size ≤ EB):=hd_ (by have:=HG_w53.out.size;omega)
   have HASE : Hid (∀ k,(.slice (some ⟨ga,0,none⟩) La.length capa : Value).ownBlock = some k → k ≠ EB):=hd_ (fun k9 e9 => by have:=(OS_w53.out.block k9 e9).2;omega)
   try rw [← h9E]
   have HNER : Hid (EB ≠ RB):=hd_ (by have:=(gz_ HR_w53.out).1;omega)
   clear hw h9E
   clear R0 R1 R2 R3 R4 R5 Rf Rz
   obtain ⟨R0,R1,R2,R3,R4,R5,Rf,Rz⟩:=box6_ HR_w54.out
   obtain ⟨E0,E1,E2,E3,E4,E5,E6,Ef,Ez⟩:=box7_ HE_w54.out
   go_upto_region 8 with fail
   refine nm_ ?_
   intro w55 hw
   have HC_w55 : Hid (Crs w55 g):=hd_ (by rw [hw];exact (HC_w54.out).set (by have:=HLE.out;omega))
   have HG_w55 : Hid (w.grownBy w55 (some g)):=hd_ (by rw [hw];exact zqc (HG_w54.out) HLE.out _ _)
   have HR_w55 : Hid (Hx w55 RB #[.int .i64 0,.int .i64 0,.int .i64 0,.slice none 0 0,.slice none 0 0,.slice none 0 0] 39):=hd_ (by rw [hw];exact zqb (by first | exact HNRE.out | exact fun e9 => HNER.out e9.symm) (HR_w54.out))
   have HE_w55 : Hid (Hx w55 EB #[.int .i64 5,.int .i64 (10 + N),.int .i64 (1 + a),.int .i64 (1 + (1 + a) % 3),.int .i64 (1 + c),.int .i64 0,.bool false] 64):=hd_ (by rw [hw];exact zqa (HE_w54.out))
   have OS_w55 : Hid (Ow w55 w.heap.size 64 7 (.slice (some ⟨ga,0,none⟩) La.length capa) (La.map Event.cells)):=hd_ (by rw [hw];exact (OS_w54.out).apart HASE.out)
   clear hw
   clear R0 R1 R2 R3 R4 R5 E0 E1 E2 E3 E4 E5 E6 Rf Ef Rz Ez
   obtain ⟨R0,R1,R2,R3,R4,R5,Rf,Rz⟩:=box6_ HR_w55.out
   obtain ⟨E0,E1,E2,E3,E4,E5,E6,Ef,Ez⟩:=box7_ HE_w55.out
   go_wp2_with (at_builtin;refine Stop.go ?_)
   refine Stop.on ?_
   refine zjd (fun w56 hw => ?_)
   have HC_w56 : Hid (Crs w56 g):=hd_ (by rw [hw];exact (HC_w55.out).alloc _)
   have HG_w56 : Hid (w.grownBy w56 (some g)):=hd_ (by rw [hw];exact zxf (HG_w55.out) _)
   have HR_w56 : Hid (Hx w56 RB #[.int .i64 0,.int .i64 0,.int .i64 0,.slice none 0 0,.slice none 0 0,.slice none 0 0] 39):=hd_ (by rw [hw];exact zqg (by have:=(gz_ HR_w55.out).1;first | omega | (simp;omega)) (HR_w55.out))
   have HE_w56 : Hid (Hx w56 EB #[.int .i64 5,.int .i64 (10 + N),.int .i64 (1 + a),.int .i64 (1 + (1 + a) % 3),.int .i64 (1 + c),.int .i64 0,.bool false] 64):=hd_ (by rw [hw];exact zqg (by have:=(gz_ HE_w55.out).1;first | omega | (simp;omega)) (HE_w55.out))
   have OS_w56 : Hid (Ow w56 w.heap.size 64 7 (.slice (some ⟨ga,0,none⟩) La.length capa) (La.map Event.cells)):=hd_ (by rw [hw];exact (OS_w55.out).alloc _)
   have HX : Hid (w56.heap[w55.heap.size]? = some (.cells #[.int .i64 5,.int .i64 (10 + N),.int .i64 (1 + a),.int .i64 (1 + (1 + a) % 3),.int .i64 (1 + c),.int .i64 0,.bool false] 64 (0,0))):=hd_ (by rw [hw];exact zqm (by first | rfl | (simp;done)))
   have hbz:=HG_w56.out.size
   clear hw
   clear R0 R1 R2 R3 R4 R5 E0 E1 E2 E3 E4 E5 E6 Rf Ef Rz Ez
   refine zqr rfl _ _ _ rfl w.heap.size 64 i0 _ 7 56 Tryz.underlying26 HI0.out HI1.out HI2.out HI3.out rfl (by decide) (.slice (some ⟨ga,0,none⟩) La.length capa) _ rfl OS_w56.out w55.heap.size 1 [.int .i64 5,.int .i64 (10 + N),.int .i64 (1 + a),.int .i64 (1 + (1 + a) % 3),.int .i64 (1 + c),.int .i64 0,.bool false] 64 (by rfl) HX.out rfl (by simp [Value.oneCell']) (by rw [List.length_map];omega) (by decide) hbz ?_
   intro gb capb xb how hgr hat hlt9
   have HC_xb:=hd_ (HC_w56.out.grown hgr (fun k9 e9 => by have:=(OS_w56.out.block k9 e9).1;have:=hc0.out;omega))
   have HG_xb:=hd_ (zjr HG_w56.out OS_w56.out hgr)
   have HR_xb:=hd_ (zqd hgr (OS_w56.out.ne_ HR_w56.out (by decide)) HR_w56.out)
   rw [List.length_map] at how ⊢
   obtain ⟨Lb,hL⟩ : ∃ l,l = La ++ [(⟨5,(10 + N),(1 + a),(1 + (1 + a) % 3),(1 + c),0,false⟩ : Event)]:=⟨_,rfl⟩
   have hLl : La.length + 1 = Lb.length:=by rw [hL,List.length_append];rfl
   rw [hLl] at how ⊢
   have OS_xb : Hid (Ow xb w.heap.size 64 7 (.slice (some ⟨gb,0,none⟩) Lb.length capb) (Lb.map Event.cells)):=hd_ (by rw [hL,List.map_append,← hL];exact how)
   clear how hgr hat hlt9 hL HX hbz OS_w56 HC_w56 HG_w56 HR_w56
   obtain ⟨R0,R1,R2,R3,R4,R5,Rf,Rz⟩:=box6_ HR_xb.out
   go_wp2_with fail
   go_roundw
   case rel => exact ⟨N - 1,Lb,some ⟨gb,0,none⟩,capb,by omega,by omega,by go_num,rfl,by omega,OS_xb,HC_xb,HG_xb,HR_xb⟩
   case measure => simp [intOf];omega
  ·
   obtain ⟨R0,R1,R2,R3,R4,R5,Rf,Rz⟩:=box6_ HR_wr.out
   obtain rfl : N = 0:=by omega
   go_wp2_with fail
   refine (zte _).mono ?_
   rintro e' w151 ⟨rfl,hb⟩
   have HC_w151:=hd_ (HC_wr.out.below hb)
   have HG_w151:=hd_ (zke HG_wr.out hb)
   have HR_w151:=hd_ (zqe hb (gz_ HR_wr.out).1 HR_wr.out)
   have OS_w151:=hd_ (OS_wr.out.below hb)
   clear hb
   clear R0 R1 R2 R3 R4 R5 Rf Rz
   obtain ⟨R0,R1,R2,R3,R4,R5,Rf,Rz⟩:=box6_ HR_w151.out
   have HSZ1:=hd_ HG_w151.out.size
   go_wp2_with fail
   refine (zhp ⟨0,1,0,[],[],[]⟩ L none none none _ 0 0 0 _ _ (by decide) (by decide) (by decide) (by omega) ⟨Rd.nil_,Rd.nil_,Rd.nil_⟩ OS_w151.out.rd).mono ?_
   rintro e' w152 ⟨b,C1,C2,C3,D1,D2,q1,q2,q3,n1',d1,n2',d2,rfl,hob,hb,hlen,-⟩
   have HC_w152:=hd_ (HC_w151.out.below hb)
   have HG_w152:=hd_ (zke HG_w151.out hb)
   have HR_w152:=hd_ (zqe hb (gz_ HR_w151.out).1 HR_w151.out)
   have OS_w152:=hd_ (OS_w151.out.below hb)
   clear hb
   clear R0 R1 R2 R3 R4 R5 Rf Rz
   obtain ⟨R0,R1,R2,R3,R4,R5,Rf,Rz⟩:=box6_ HR_w152.out
   have OW_w152:=hd_ (hob.more HSZ1.out)
   have HLEN:=hd_ hlen
   clear hob hlen OS_w152
   go_wp2_with fail
   refine nm_ ?_
   intro w153 hw
   have HC_w153 : Hid (Crs w153 g):=hd_ (by rw [hw];exact (HC_w152.out).alloc _)
   have HG_w153 : Hid (w.grownBy w153 (some g)):=hd_ (by rw [hw];exact zxf (HG_w152.out) _)
   have HR_w153 : Hid (Hx w153 RB #[.int .i64 0,.int .i64 0,.int .i64 0,.slice none 0 0,.slice none 0 0,.slice none 0 0] 39):=hd_ (by rw [hw];exact zqg (by have:=(gz_ HR_w152.out).1;first | omega | (simp;omega)) (HR_w152.out))
   have OW_w153 : Hid (OwB w153 w.heap.size b C1 C2 C3 q1 q2 q3):=hd_ (by rw [hw];exact (OW_w152.out).alloc _)
   obtain ⟨NB,h9N⟩ : ∃ v,v = w152.heap.size:=⟨_,rfl⟩
   have HN_w153 : Hid (Hx w153 NB (bkC b C1 q1 C2 q2 C3 q3) 39):=hd_ (by rw [hw,h9N];exact zqm (by first | rfl | (simp;done)))
   have HLN : Hid (w.heap.size ≤ NB):=hd_ (by have:=HG_w152.out.size;omega)
   try rw [← h9N]
   have HNNR : Hid (NB ≠ RB):=hd_ (by have:=(gz_ HR_w152.out).1;omega)
   clear hw h9N
   clear R0 R1 R2 R3 R4 R5 Rf Rz
   obtain ⟨R0,R1,R2,R3,R4,R5,Rf,Rz⟩:=box6_ HR_w153.out
   obtain ⟨N0,N1,N2,N3,N4,N5,Nf,Nz⟩:=box6_ HN_w153.out
   refine (zqp g 8 _ HC_w153.out (by first | decide | omega) (by first | decide | omega)).mono ?_
   rintro e' w154 ⟨z,z1,z2,rfl,hcn,hg⟩
   have HC_w154:=hd_ hcn
   have HG_w154:=hd_ (zql HG_w153.out hg)
   have HR_w154:=hd_ (zqd hg (zqy (by have:=HLR.out;omega)) HR_w153.out)
   have HN_w154:=hd_ (zqd hg (zqy (by have:=HLN.out;omega)) HN_w153.out)
   have OW_w154:=hd_ (OW_w153.out.pastL hg hgw)
   clear hcn hg
   clear R0 R1 R2 R3 R4 R5 N0 N1 N2 N3 N4 N5 Rf Nf Rz Nz
   obtain ⟨R0,R1,R2,R3,R4,R5,Rf,Rz⟩:=box6_ HR_w154.out
   obtain ⟨N0,N1,N2,N3,N4,N5,Nf,Nz⟩:=box6_ HN_w154.out
   cases tz : (z == 0)
   ·
    go_wp2_with fail
    refine nm_ ?_
    intro w155 hw
    have HC_w155 : Hid (Crs w155 g):=hd_ (by rw [hw];exact ((((((HC_w154.out).set (by have:=HLR.out;omega)).set (by have:=HLR.out;omega)).set (by have:=HLR.out;omega)).set (by have:=HLR.out;omega)).set (by have:=HLR.out;omega)).set (by have:=HLR.out;omega))
    have HG_w155 : Hid (w.grownBy w155 (some g)):=hd_ (by rw [hw];exact zqc (zqc (zqc (zqc (zqc (zqc (HG_w154.out) HLR.out _ _) HLR.out _ _) HLR.out _ _) HLR.out _ _) HLR.out _ _) HLR.out _ _)
    have HR_w155 : Hid (Hx w155 RB (bkC b C1 q1 C2 q2 C3 q3) 39):=hd_ (by rw [hw];exact zqa (zqa (zqa (zqa (zqa (zqa (HR_w154.out)))))))
    have HN_w155 : Hid (Hx w155 NB (bkC b C1 q1 C2 q2 C3 q3) 39):=hd_ (by rw [hw];exact zqb (by first | exact HNNR.out | exact fun e9 => HNRN.out e9.symm) (zqb (by first | exact HNNR.out | exact fun e9 => HNRN.out e9.symm) (zqb (by first | exact HNNR.out | exact fun e9 => HNRN.out e9.symm) (zqb (by first | exact HNNR.out | exact fun e9 => HNRN.out e9.symm) (zqb (by first | exact HNNR.out | exact fun e9 => HNRN.out e9.symm) (zqb (by first | exact HNNR.out | exact fun e9 => HNRN.out e9.symm) (HN_w154.out)))))))
    have OW_w155 : Hid (OwB w155 w.heap.size b C1 C2 C3 q1 q2 q3):=hd_ (by rw [hw];exact ((((((OW_w154.out).aside (HR_w154.out) (by decide) (by decide) (by decide) _).aside (zqa (HR_w154.out)) (by decide) (by decide) (by decide) _).aside (zqa (zqa (HR_w154.out))) (by decide) (by decide) (by decide) _).aside (zqa (zqa (zqa (HR_w154.out)))) (by decide) (by decide) (by decide) _).aside (zqa (zqa (zqa (zqa (HR_w154.out))))) (by decide) (by decide) (by decide) _).aside (zqa (zqa (zqa (zqa (zqa (HR_w154.out)))))) (by decide) (by decide) (by decide) _)
    clear hw
    clear R0 R1 R2 R3 R4 R5 N0 N1 N2 N3 N4 N5 Rf Nf Rz Nz
    obtain ⟨R0,R1,R2,R3,R4,R5,Rf,Rz⟩:=box6_ HR_w155.out
    obtain ⟨N0,N1,N2,N3,N4,N5,Nf,Nz⟩:=box6_ HN_w155.out
    refine bodyPost_ret (v:=.agg #[.int .i64 b.t,.int .i64 b.n,.int .i64 b.w,.slice C1 b.cs.length q1,.slice C2 b.hs.length q2,.slice C3 b.os.length q3]) (by simp [results,Tryz.results53,go_sem, *]) rfl ?_
    exact ⟨_,_,_,_,_,_,_,rfl,OW_w155.out,HLEN.out,HC_w155.out,HG_w155.out⟩
   ·
    have hz0:=eq_of_beq tz
    subst hz0
    go_wp2_with fail
    have HSZ2:=hd_ HG_w154.out.size
    refine (s_l07Any g _ HC_w154.out).mono ?_
    rintro e' w155 ⟨b2,F1,F2,F3,r1,r2,r3,rfl,hob,hlen,hcn,hg⟩
    have HC_w155:=hd_ hcn
    have HG_w155:=hd_ (zql HG_w154.out hg)
    have HR_w155:=hd_ (zqd hg (zqy (by have:=HLR.out;omega)) HR_w154.out)
    have HN_w155:=hd_ (zqd hg (zqy (by have:=HLN.out;omega)) HN_w154.out)
    have OW_w155:=hd_ (OW_w154.out.pastL hg hgw)
    clear hcn hg
    clear R0 R1 R2 R3 R4 R5 N0 N1 N2 N3 N4 N5 Rf Nf Rz Nz
    obtain ⟨R0,R1,R2,R3,R4,R5,Rf,Rz⟩:=box6_ HR_w155.out
    obtain ⟨N0,N1,N2,N3,N4,N5,Nf,Nz⟩:=box6_ HN_w155.out
    have OV_w155:=hd_ (hob.more HSZ2.out)
    have HLEV:=hd_ hlen
    clear hob hlen OW_w155
    go_upto_region 12 with fail
    refine nm_ ?_
    intro w156 hw
    have HC_w156 : Hid (Crs w156 g):=hd_ (by rw [hw];exact ((((((HC_w155.out).set (by have:=HLN.out;omega)).set (by have:=HLN.out;omega)).set (by have:=HLN.out;omega)).set (by have:=HLN.out;omega)).set (by have:=HLN.out;omega)).set (by have:=HLN.out;omega))
    have HG_w156 : Hid (w.grownBy w156 (some g)):=hd_ (by rw [hw];exact zqc (zqc (zqc (zqc (zqc (zqc (HG_w155.out) HLN.out _ _) HLN.out _ _) HLN.out _ _) HLN.out _ _) HLN.out _ _) HLN.out _ _)
    have HR_w156 : Hid (Hx w156 RB #[.int .i64 0,.int .i64 0,.int .i64 0,.slice none 0 0,.slice none 0 0,.slice none 0 0] 39):=hd_ (by rw [hw];exact zqb (by first | exact HNRN.out | exact fun e9 => HNNR.out e9.symm) (zqb (by first | exact HNRN.out | exact fun e9 => HNNR.out e9.symm) (zqb (by first | exact HNRN.out | exact fun e9 => HNNR.out e9.symm) (zqb (by first | exact HNRN.out | exact fun e9 => HNNR.out e9.symm) (zqb (by first | exact HNRN.out | exact fun e9 => HNNR.out e9.symm) (zqb (by first | exact HNRN.out | exact fun e9 => HNNR.out e9.symm) (HR_w155.out)))))))
    have HN_w156 : Hid (Hx w156 NB (bkC b2 F1 r1 F2 r2 F3 r3) 39):=hd_ (by rw [hw];exact zqa (zqa (zqa (zqa (zqa (zqa (HN_w155.out)))))))
    have OV_w156 : Hid (OwB w156 w.heap.size b2 F1 F2 F3 r1 r2 r3):=hd_ (by rw [hw];exact ((((((OV_w155.out).aside (HN_w155.out) (by decide) (by decide) (by decide) _).aside (zqa (HN_w155.out)) (by decide) (by decide) (by decide) _).aside (zqa (zqa (HN_w155.out))) (by decide) (by decide) (by decide) _).aside (zqa (zqa (zqa (HN_w155.out)))) (by decide) (by decide) (by decide) _).aside (zqa (zqa (zqa (zqa (HN_w155.out))))) (by decide) (by decide) (by decide) _).aside (zqa (zqa (zqa (zqa (zqa (HN_w155.out)))))) (by decide) (by decide) (by decide) _)
    clear hw
    clear R0 R1 R2 R3 R4 R5 N0 N1 N2 N3 N4 N5 Rf Nf Rz Nz
    obtain ⟨R0,R1,R2,R3,R4,R5,Rf,Rz⟩:=box6_ HR_w156.out
    obtain ⟨N0,N1,N2,N3,N4,N5,Nf,Nz⟩:=box6_ HN_w156.out
    go_wp2_with fail
    refine nm_ ?_
    intro w157 hw
    have HC_w157 : Hid (Crs w157 g):=hd_ (by rw [hw];exact ((((((HC_w156.out).set (by have:=HLR.out;omega)).set (by have:=HLR.out;omega)).set (by have:=HLR.out;omega)).set (by have:=HLR.out;omega)).set (by have:=HLR.out;omega)).set (by have:=HLR.out;omega))
    have HG_w157 : Hid (w.grownBy w157 (some g)):=hd_ (by rw [hw];exact zqc (zqc (zqc (zqc (zqc (zqc (HG_w156.out) HLR.out _ _) HLR.out _ _) HLR.out _ _) HLR.out _ _) HLR.out _ _) HLR.out _ _)
    have HR_w157 : Hid (Hx w157 RB (bkC b2 F1 r1 F2 r2 F3 r3) 39):=hd_ (by rw [hw];exact zqa (zqa (zqa (zqa (zqa (zqa (HR_w156.out)))))))
    have HN_w157 : Hid (Hx w157 NB (bkC b2 F1 r1 F2 r2 F3 r3) 39):=hd_ (by rw [hw];exact zqb (by first | exact HNNR.out | exact fun e9 => HNRN.out e9.symm) (zqb (by first | exact HNNR.out | exact fun e9 => HNRN.out e9.symm) (zqb (by first | exact HNNR.out | exact fun e9 => HNRN.out e9.symm) (zqb (by first | exact HNNR.out | exact fun e9 => HNRN.out e9.symm) (zqb (by first | exact HNNR.out | exact fun e9 => HNRN.out e9.symm) (zqb (by first | exact HNNR.out | exact fun e9 => HNRN.out e9.symm) (HN_w156.out)))))))
    have OV_w157 : Hid (OwB w157 w.heap.size b2 F1 F2 F3 r1 r2 r3):=hd_ (by rw [hw];exact ((((((OV_w156.out).aside (HR_w156.out) (by decide) (by decide) (by decide) _).aside (zqa (HR_w156.out)) (by decide) (by decide) (by decide) _).aside (zqa (zqa (HR_w156.out))) (by decide) (by decide) (by decide) _).aside (zqa (zqa (zqa (HR_w156.out)))) (by decide) (by decide) (by decide) _).aside (zqa (zqa (zqa (zqa (HR_w156.out))))) (by decide) (by decide) (by decide) _).aside (zqa (zqa (zqa (zqa (zqa (HR_w156.out)))))) (by decide) (by decide) (by decide) _)
    clear hw
    clear R0 R1 R2 R3 R4 R5 N0 N1 N2 N3 N4 N5 Rf Nf Rz Nz
    obtain ⟨R0,R1,R2,R3,R4,R5,Rf,Rz⟩:=box6_ HR_w157.out
    obtain ⟨N0,N1,N2,N3,N4,N5,Nf,Nz⟩:=box6_ HN_w157.out
    refine bodyPost_ret (v:=.agg #[.int .i64 b2.t,.int .i64 b2.n,.int .i64 b2.w,.slice F1 b2.cs.length r1,.slice F2 b2.hs.length r2,.slice F3 b2.os.length r3]) (by simp [results,Tryz.results53,go_sem, *]) rfl ?_
    exact ⟨_,_,_,_,_,_,_,rfl,OV_w157.out,HLEV.out,HC_w157.out,HG_w157.out⟩
end Go.Proofs.YtdbmkfmenfcbiaaGreat
