/- DrawBk · DrawGe: each text proves what its theorems say, with no conditions but theirs. -/
import Derived.Test.YtdbmkfmenfcbiaaGreatRows
import Derived.Test.YtdbmkfmenfcbiaaGreatNDrawEs
import Derived.Test.YtdbmkfmenfcbiaaGreatNM1
namespace Go.Proofs.YtdbmkfmenfcbiaaGreat
open Go.RowKit Go.Deep
theorem OwB.pastL {w w' : World} {B g : Nat} {b : Bk} {C1 C2 C3 : Option Addr} {q1 q2 q3 : Nat} (h : OwB w B b C1 C2 C3 q1 q2 q3) (hg : w.grownBy w' (some g)) (hB : g < B) : OwB w' B b C1 C2 C3 q1 q2 q3:=⟨h.c.pastL hg hB,h.h.pastL hg hB,h.o.pastL hg hB⟩
theorem s_BookNew (w : World) : Calls Tryz.prog 28 #[] w fun e w' => e = .returned (.agg #[.int .i64 0,.int .i64 1,.int .i64 0,.slice none 0 0,.slice none 0 0,.slice none 0 0])∧Below w.heap.size w w':=by
  go_enter Tryz.func28,Tryz.ntmps28
  go_wp2_with fail
  refine name_ret (fun wz hw => ?_)
  have hz : wz.heap[w.heap.size]? = some (.cells #[.int .i64 0,.int .i64 1,.int .i64 0,.slice none 0 0,.slice none 0 0,.slice none 0 0] 39 (0,0)):=by rw [hw];first | exact zqi rfl | exact zqa (zqa (zqa (zqa (zqa (zqa (zqi rfl))))))
  have hB : Below w.heap.size w wz:=by rw [hw];exact bl_
  clear hw
  have r0 : wz.cell? ⟨w.heap.size,0,none⟩ = some (.int .i64 0):=zqc hz 0
  have r1 : wz.cell? ⟨w.heap.size,1,none⟩ = some (.int .i64 1):=zqc hz 1
  have r2 : wz.cell? ⟨w.heap.size,2,none⟩ = some (.int .i64 0):=zqc hz 2
  have r3 : wz.cell? ⟨w.heap.size,3,none⟩ = some (.slice none 0 0):=zqc hz 3
  have r4 : wz.cell? ⟨w.heap.size,4,none⟩ = some (.slice none 0 0):=zqc hz 4
  have r5 : wz.cell? ⟨w.heap.size,5,none⟩ = some (.slice none 0 0):=zqc hz 5
  exact bodyPost_ret (v:=.agg #[.int .i64 0,.int .i64 1,.int .i64 0,.slice none 0 0,.slice none 0 0,.slice none 0 0]) (by simp [results,Tryz.results28,go_sem,r0,r1,r2,r3,r4,r5]) rfl ⟨rfl,hB⟩
set_option maxRecDepth 100000 in
set_option maxHeartbeats 4000000 in
theorem s_l22Events (g : Nat) (w : World) (hc : Crs w g) :
  Calls Tryz.prog 41 #[.pointer (some ⟨g,0,none⟩)] w (DrewEs g 200 w):=by
 obtain ⟨i0,hi,hz0,hz1,hz2⟩:=info_parts zyv
 have HI0:=hd_ hi
 have HI1:=hd_ hz0
 have HI2:=hd_ hz1
 have HI3:=hd_ hz2
 clear hi hz0 hz1 hz2
 have hgw:=hc.lt
 have HC_w:=hd_ hc
 have HG_w:=hd_ (World.grownBy.refl w (some g))
 clear hc
 go_enter Tryz.func41,Tryz.ntmps41
 go_wp2_with fail
 have HSZ0:=hd_ HG_w.out.size
 refine (s_l07Events g 14 _ HC_w (by decide) (by decide)).mono ?_
 rintro e' w1 ⟨es,A,cap,rfl,hel,how,hcn,hg⟩
 have HC1:=hd_ hcn
 have HG1:=hd_ (zqt HG_w hg)
 clear hcn hg
 have OS1:=hd_ (how.more HSZ0)
 have HEL:=hd_ hel
 clear how hel
 go_wp2_with fail
 refine (zxd g 8 _ HC1 (by first | decide | omega) (by first | decide | omega)).mono ?_
 rintro e' w2 ⟨n,n1,n2,rfl,hcn,hg⟩
 have HC2:=hd_ hcn
 have HG2:=hd_ (zqt HG1 hg)
 have OS2:=hd_ (OS1.out.pastL hg hgw)
 clear hcn hg
 go_wp2_with fail
 go_loopw [3,4] (fun vl vn wr => ∃ (N : Int) (L : List Event) (A : Option Addr) (cp : Nat),0 ≤ N∧N ≤ 7∧vn = .int .i64 N∧vl = .slice A L.length cp∧(L.length : Int) + 2 * N ≤ 125∧Hid (Ow wr w.heap.size 64 7 (.slice A L.length cp) (L.map Event.cells))∧Hid (Crs wr g)∧Hid (w.grownBy wr (some g))) (fun _ vn _ => (intOf vn).toNat)
 case atStart => exact ⟨n,es,A,cap,n1,by omega,rfl,rfl,by have:=HEL.out;omega,OS2,HC2,HG2⟩
 case round =>
  clear OS2 HC2 HG2
  obtain ⟨N,L,A,cp,n3,n4,rfl,rfl,hLN,OS_wr,HC_wr,HG_wr⟩:=hrel
  have hgz:=HG_wr.out.size
  by_cases hlt : 0 < N
  ·
   have hc0:=hd_ hgw
   go_wp2_with fail
   refine (zxd g 3 _ HC_wr (by first | decide | omega) (by first | decide | omega)).mono ?_
   rintro e' w51 ⟨a,a1,a2,rfl,hcn,hg⟩
   have HC51:=hd_ hcn
   have HG51:=hd_ (zqt HG_wr hg)
   have OS51:=hd_ (OS_wr.out.pastL hg hgw)
   clear hcn hg
   go_wp2_with fail
   refine (zxd g 2000 _ HC51 (by first | decide | omega) (by first | decide | omega)).mono ?_
   rintro e' w52 ⟨c,c1,c2,rfl,hcn,hg⟩
   have HC52:=hd_ hcn
   have HG52:=hd_ (zqt HG51 hg)
   have OS52:=hd_ (OS51.out.pastL hg hgw)
   clear hcn hg
   go_upto_region 6 with fail
   refine nm_ ?_
   intro w53 hw
   have HC53 : Hid (Crs w53 g):=hd_ (by rw [hw];exact (HC52.out).alloc _)
   have HG53 : Hid (w.grownBy w53 (some g)):=hd_ (by rw [hw];exact zxp (HG52.out) _)
   have OS53 : Hid (Ow w53 w.heap.size 64 7 (.slice A L.length cp) (L.map Event.cells)):=hd_ (by rw [hw];exact (OS52.out).alloc _)
   obtain ⟨EB,h9E⟩ : ∃ v,v = w52.heap.size:=⟨_,rfl⟩
   have HE53 : Hid (Hx w53 EB (qaiiiiiib 5 (20 + N) (1 + a) 0 (1 + c) 0 false) 64):=hd_ (by rw [hw,h9E];exact zqi (by first | rfl | (simp;done)))
   have HLE : Hid (w.heap.size ≤ EB):=hd_ (by have:=HG52.out.size;omega)
   have HASE : Hid (∀ k,(.slice A L.length cp : Value).ownBlock = some k → k ≠ EB):=hd_ (fun k9 e9 => by have:=(OS52.out.block k9 e9).2;omega)
   try rw [← h9E]
   clear hw h9E
   obtain ⟨jE,Ef,Ez⟩:=bc7_ HE53
   go_upto_region 7 with fail
   refine nm_ ?_
   intro w54 hw
   have HC54 : Hid (Crs w54 g):=hd_ (by rw [hw];exact (HC53.out).set (by have:=HLE.out;omega))
   have HG54 : Hid (w.grownBy w54 (some g)):=hd_ (by rw [hw];exact zqn (HG53.out) HLE _ _)
   have HE54 : Hid (Hx w54 EB (qaiiiiiib 5 (20 + N) (1 + a) (1 + (1 + a) % 3) (1 + c) 0 false) 64):=hd_ (by rw [hw];exact zqa (HE53.out))
   have OS54 : Hid (Ow w54 w.heap.size 64 7 (.slice A L.length cp) (L.map Event.cells)):=hd_ (by rw [hw];exact (OS53.out).apart HASE)
   clear hw
   clear jE Ef Ez
   obtain ⟨jE,Ef,Ez⟩:=bc7_ HE54
   refine zql (fun w' => kqiiiiiib_ w' EB 5 (20 + N) (1 + a) (1 + (1 + a) % 3) (1 + c) 0 false) [yF 0 30,yF 1 31,yF 2 32,yF 5 35,yF 6 36,yT 3 33,yF 4 34,yF 7 37,yT 8 38,yT 9 39,yF 10 3] (by kernel_rfl) (by kernel_rfl) (by kernel_rfl) jE (fun hH => ?_)
   obtain ⟨w55,hwd⟩ : ∃ wd,w54.drew = wd:=⟨_,rfl⟩
   have HC55 : Hid (Crs w55 g):=hd_ (by rw [← hwd];exact HC54)
   have HG55 : Hid (w.grownBy w55 (some g)):=hd_ (by rw [← hwd];exact zwl HG54)
   have HE55:=hr_ hwd HE54
   have OS55 : Hid (Ow w55 w.heap.size 64 7 (.slice A L.length cp) (L.map Event.cells)):=hd_ (by rw [← hwd];exact OS54.out.drew_)
   clear jE Ef Ez
   rw [hwd] at hH ⊢
   clear hwd
   obtain ⟨jE,Ef,Ez⟩:=bc7_ HE55
   refine tk_ ?_
   refine ss_ (fun K hK => ?_)
   go_simp
   refine (zxd g 2 _ HC55 (by first | decide | omega) (by first | decide | omega)).mono ?_
   rintro e' w56 ⟨k,k1,k2,rfl,hcn,hg⟩
   have HC56:=hd_ hcn
   have HG56:=hd_ (zqt HG55 hg)
   have HE56:=hd_ (zqe hg (zxj (by have:=HLE.out;omega)) HE55)
   have OS56:=hd_ (OS55.out.pastL hg hgw)
   clear hcn hg
   clear jE Ef Ez
   obtain ⟨jE,Ef,Ez⟩:=bc7_ HE56
   go_simp
   refine hK.out _ _ jE (fun hH => ?_)
   clear hK K
   refine tk_ ?_
   refine ss_ (fun K hK => ?_)
   go_simp
   refine zxu (fun w57 hw => ?_)
   have HC57 : Hid (Crs w57 g):=hd_ (by rw [hw];exact (HC56.out).alloc _)
   have HG57 : Hid (w.grownBy w57 (some g)):=hd_ (by rw [hw];exact zxp (HG56.out) _)
   have HE57 : Hid (Hx w57 EB (qaiiiiiib 5 (20 + N) (1 + a) (1 + (1 + a) % 3) (1 + c) 0 false) 64):=hd_ (by rw [hw];exact zqd (by have:=(gz_ HE56).1;first | omega | (simp;omega)) (HE56.out))
   have OS57 : Hid (Ow w57 w.heap.size 64 7 (.slice A L.length cp) (L.map Event.cells)):=hd_ (by rw [hw];exact (OS56.out).alloc _)
   have HX : Hid (Ow w57 w.heap.size 64 7 (.slice (some ⟨w56.heap.size,0,none⟩) 2 2) ([(⟨5,(20 + N),(1 + a),(1 + (1 + a) % 3),(1 + c),0,false⟩ : Event),⟨(IntKind.i64.wrap (6 + k)),(20 + N),0,0,0,0,false⟩].map Event.cells)):=hd_ (by rw [hw];exact Ow.lit_ (rows:=[(⟨5,(20 + N),(1 + a),(1 + (1 + a) % 3),(1 + c),0,false⟩ : Event),⟨(IntKind.i64.wrap (6 + k)),(20 + N),0,0,0,0,false⟩].map Event.cells) (zyn _) rfl (show (2 : Nat) ≤ maxLen by decide) rfl HG56.out.size)
   have hbz:=HG57.out.size
   clear hw
   clear jE Ef Ez
   obtain ⟨jE,Ef,Ez⟩:=bc7_ HE57
   go_simp
   refine hK.out _ _ jE (fun hH => ?_)
   clear hK K
   refine tk_ ?_
   refine ss_ (fun K hK => ?_)
   refine zje (ops:=#[]) (E:=True) rfl (zji rfl _ _ _ rfl w.heap.size 64 i0 _ 7 56 Tryz.underlying26 HI0 HI1 HI2 HI3 rfl (by decide) A cp (L.map Event.cells) L.length (by rw [List.length_map]) (by rfl) OS57.out (some ⟨w56.heap.size,0,none⟩) 2 ([(⟨5,(20 + N),(1 + a),(1 + (1 + a) % 3),(1 + c),0,false⟩ : Event),⟨(IntKind.i64.wrap (6 + k)),(20 + N),0,0,0,0,false⟩].map Event.cells) 2 rfl (by rfl) w57.heap.size HX.out.rd (by simp [Event.cells,Value.oneCell']) (by simp only [List.length_map];have : [(⟨5,(20 + N),(1 + a),(1 + (1 + a) % 3),(1 + c),0,false⟩ : Event),⟨(IntKind.i64.wrap (6 + k)),(20 + N),0,0,0,0,false⟩].length = 2:=rfl;omega) (by decide) hbz ?_)
   intro A2 cp2 x2 how hb9 hgr
   have HC_x2:=hd_ (HC57.out.grown hgr (fun k9 e9 => by have:=(OS57.out.block k9 e9).1;have:=hc0.out;omega))
   have HG_x2:=hd_ (zkx HG57 OS57.out hgr)
   have HE_x2 : Hid (Hx x2 EB (qaiiiiiib 5 (20 + N) (1 + a) (1 + (1 + a) % 3) (1 + c) 0 false) 64):=hd_ (zqe hgr (fun e9 => HASE.out EB e9.symm rfl) HE57)
   obtain ⟨LL,hL⟩ : ∃ l9,l9 = L ++ [(⟨5,(20 + N),(1 + a),(1 + (1 + a) % 3),(1 + c),0,false⟩ : Event),⟨(IntKind.i64.wrap (6 + k)),(20 + N),0,0,0,0,false⟩]:=⟨_,rfl⟩
   have hLl : L.length + 2 = LL.length:=by rw [hL,List.length_append];rfl
   rw [hLl] at how ⊢
   have OS_x2 : Hid (Ow x2 w.heap.size 64 7 (.slice A2 LL.length cp2) (LL.map Event.cells)):=hd_ (by rw [hL,List.map_append,← hL];exact how)
   clear how hb9 hgr hL HX hbz OS57 HC57 HG57 HE57
   clear jE Ef Ez
   obtain ⟨jE,Ef,Ez⟩:=bc7_ HE_x2
   go_simp
   refine hK.out _ _ jE (fun hH => ?_)
   clear hK K
   refine tk_ ?_
   refine Sq.done (NoPanic.normal ?_)
   go_wp2_with fail
   go_roundw
   case rel => exact ⟨N - 1,LL,A2,cp2,by omega,by omega,by go_num,rfl,by omega,OS_x2,HC_x2,HG_x2⟩
   case measure => simp [intOf];omega
  obtain rfl : N = 0:=by omega
  go_wp2_with fail
  obtain ⟨wo,rfl⟩ : ∃ wo : World,wo = wr:=⟨_,rfl⟩
  have OS_wo:=OS_wr
  have HC_wo:=HC_wr
  have HG_wo:=HG_wr
  clear hgz OS_wr HC_wr HG_wr
  refine (zxd g 3 _ HC_wo (by first | decide | omega) (by first | decide | omega)).mono ?_
  rintro e' w151 ⟨m,m1,m2,rfl,hcn,hg⟩
  have HC151:=hd_ hcn
  have HG151:=hd_ (zqt HG_wo hg)
  have OS151:=hd_ (OS_wo.out.pastL hg hgw)
  clear hcn hg
  go_wp2_with fail
  have HLN:=hd_ hLN
  go_loopw [3,6] (fun vl vn wr => ∃ (N : Int) (L : List Event) (A : Option Addr) (cp : Nat),0 ≤ N∧N ≤ 2∧vn = .int .i64 N∧vl = .slice A L.length cp∧(L.length : Int) + 2 * N ≤ 135∧Hid (Ow wr w.heap.size 64 7 (.slice A L.length cp) (L.map Event.cells))∧Hid (Crs wr g)∧Hid (w.grownBy wr (some g))) (fun _ vn _ => (intOf vn).toNat)
  case atStart => exact ⟨m,L,A,cp,m1,by omega,rfl,rfl,by have:=HLN.out;omega,OS151,HC151,HG151⟩
  case round =>
   clear OS151 HC151 HG151
   obtain ⟨N,L,A,cp,n3,n4,rfl,rfl,hLN,OS_wr,HC_wr,HG_wr⟩:=hrel
   have hgz:=HG_wr.out.size
   by_cases hlt : 0 < N
   rotate_left
   ·
    obtain rfl : N = 0:=by omega
    go_wp2_with fail
    go_ret
    exact ⟨L,A,cp,rfl,by omega,OS_wr.out,HC_wr.out,HG_wr.out⟩
   have hc0:=hd_ hgw
   go_wp2_with fail
   refine (zxd g 3 _ HC_wr (by first | decide | omega) (by first | decide | omega)).mono ?_
   rintro e' w51 ⟨a,a1,a2,rfl,hcn,hg⟩
   have HC51:=hd_ hcn
   have HG51:=hd_ (zqt HG_wr hg)
   have OS51:=hd_ (OS_wr.out.pastL hg hgw)
   clear hcn hg
   go_wp2_with fail
   refine (zxd g 900 _ HC51 (by first | decide | omega) (by first | decide | omega)).mono ?_
   rintro e' w52 ⟨c,c1,c2,rfl,hcn,hg⟩
   have HC52:=hd_ hcn
   have HG52:=hd_ (zqt HG51 hg)
   have OS52:=hd_ (OS51.out.pastL hg hgw)
   clear hcn hg
   go_wp2_with fail
   refine (zxd g 30 _ HC52 (by first | decide | omega) (by first | decide | omega)).mono ?_
   rintro e' w53 ⟨f,f1,f2,rfl,hcn,hg⟩
   have HC53:=hd_ hcn
   have HG53:=hd_ (zqt HG52 hg)
   have OS53:=hd_ (OS52.out.pastL hg hgw)
   clear hcn hg
   go_upto_region 12 with fail
   refine nm_ ?_
   intro w54 hw
   have HC54 : Hid (Crs w54 g):=hd_ (by rw [hw];exact (HC53.out).alloc _)
   have HG54 : Hid (w.grownBy w54 (some g)):=hd_ (by rw [hw];exact zxp (HG53.out) _)
   have OS54 : Hid (Ow w54 w.heap.size 64 7 (.slice A L.length cp) (L.map Event.cells)):=hd_ (by rw [hw];exact (OS53.out).alloc _)
   obtain ⟨EB,h9E⟩ : ∃ v,v = w53.heap.size:=⟨_,rfl⟩
   have HE54 : Hid (Hx w54 EB (qaiiiiiib 9 (40 + N) (1 + a) 0 (1 + c) f false) 64):=hd_ (by rw [hw,h9E];exact zqi (by first | rfl | (simp;done)))
   have HLE : Hid (w.heap.size ≤ EB):=hd_ (by have:=HG53.out.size;omega)
   have HASE : Hid (∀ k,(.slice A L.length cp : Value).ownBlock = some k → k ≠ EB):=hd_ (fun k9 e9 => by have:=(OS53.out.block k9 e9).2;omega)
   try rw [← h9E]
   clear hw h9E
   obtain ⟨jE,Ef,Ez⟩:=bc7_ HE54
   go_upto_region 13 with fail
   refine nm_ ?_
   intro w55 hw
   have HC55 : Hid (Crs w55 g):=hd_ (by rw [hw];exact (HC54.out).set (by have:=HLE.out;omega))
   have HG55 : Hid (w.grownBy w55 (some g)):=hd_ (by rw [hw];exact zqn (HG54.out) HLE _ _)
   have HE55 : Hid (Hx w55 EB (qaiiiiiib 9 (40 + N) (1 + a) (1 + (1 + a) % 3) (1 + c) f false) 64):=hd_ (by rw [hw];exact zqa (HE54.out))
   have OS55 : Hid (Ow w55 w.heap.size 64 7 (.slice A L.length cp) (L.map Event.cells)):=hd_ (by rw [hw];exact (OS54.out).apart HASE)
   clear hw
   clear jE Ef Ez
   obtain ⟨jE,Ef,Ez⟩:=bc7_ HE55
   refine zql (fun w' => kqiiiiiib_ w' EB 9 (40 + N) (1 + a) (1 + (1 + a) % 3) (1 + c) f false) [yF 0 62,yF 1 63,yF 2 64,yF 5 67,yF 6 68,yT 3 65,yF 4 66,yF 7 69,yT 8 70,yT 9 71,yF 10 3] (by kernel_rfl) (by kernel_rfl) (by kernel_rfl) jE (fun hH => ?_)
   obtain ⟨w56,hwd⟩ : ∃ wd,w55.drew = wd:=⟨_,rfl⟩
   have HC56 : Hid (Crs w56 g):=hd_ (by rw [← hwd];exact HC55)
   have HG56 : Hid (w.grownBy w56 (some g)):=hd_ (by rw [← hwd];exact zwl HG55)
   have HE56:=hr_ hwd HE55
   have OS56 : Hid (Ow w56 w.heap.size 64 7 (.slice A L.length cp) (L.map Event.cells)):=hd_ (by rw [← hwd];exact OS55.out.drew_)
   clear jE Ef Ez
   rw [hwd] at hH ⊢
   clear hwd
   obtain ⟨jE,Ef,Ez⟩:=bc7_ HE56
   refine tk_ ?_
   refine ss_ (fun K hK => ?_)
   go_simp
   refine (zxd g 2 _ HC56 (by first | decide | omega) (by first | decide | omega)).mono ?_
   rintro e' w57 ⟨k,k1,k2,rfl,hcn,hg⟩
   have HC57:=hd_ hcn
   have HG57:=hd_ (zqt HG56 hg)
   have HE57:=hd_ (zqe hg (zxj (by have:=HLE.out;omega)) HE56)
   have OS57:=hd_ (OS56.out.pastL hg hgw)
   clear hcn hg
   clear jE Ef Ez
   obtain ⟨jE,Ef,Ez⟩:=bc7_ HE57
   go_simp
   refine hK.out _ _ jE (fun hH => ?_)
   clear hK K
   refine tk_ ?_
   refine ss_ (fun K hK => ?_)
   go_simp
   refine zxu (fun w58 hw => ?_)
   have HC58 : Hid (Crs w58 g):=hd_ (by rw [hw];exact (HC57.out).alloc _)
   have HG58 : Hid (w.grownBy w58 (some g)):=hd_ (by rw [hw];exact zxp (HG57.out) _)
   have HE58 : Hid (Hx w58 EB (qaiiiiiib 9 (40 + N) (1 + a) (1 + (1 + a) % 3) (1 + c) f false) 64):=hd_ (by rw [hw];exact zqd (by have:=(gz_ HE57).1;first | omega | (simp;omega)) (HE57.out))
   have OS58 : Hid (Ow w58 w.heap.size 64 7 (.slice A L.length cp) (L.map Event.cells)):=hd_ (by rw [hw];exact (OS57.out).alloc _)
   have HX : Hid (Ow w58 w.heap.size 64 7 (.slice (some ⟨w57.heap.size,0,none⟩) 2 2) ([(⟨9,(40 + N),(1 + a),(1 + (1 + a) % 3),(1 + c),f,false⟩ : Event),⟨(IntKind.i64.wrap (10 + k)),(40 + N),0,0,0,0,false⟩].map Event.cells)):=hd_ (by rw [hw];exact Ow.lit_ (rows:=[(⟨9,(40 + N),(1 + a),(1 + (1 + a) % 3),(1 + c),f,false⟩ : Event),⟨(IntKind.i64.wrap (10 + k)),(40 + N),0,0,0,0,false⟩].map Event.cells) (zyn _) rfl (show (2 : Nat) ≤ maxLen by decide) rfl HG57.out.size)
   have hbz:=HG58.out.size
   clear hw
   clear jE Ef Ez
   obtain ⟨jE,Ef,Ez⟩:=bc7_ HE58
   go_simp
   refine hK.out _ _ jE (fun hH => ?_)
   clear hK K
   refine tk_ ?_
   refine ss_ (fun K hK => ?_)
   refine zje (ops:=#[]) (E:=True) rfl (zji rfl _ _ _ rfl w.heap.size 64 i0 _ 7 56 Tryz.underlying26 HI0 HI1 HI2 HI3 rfl (by decide) A cp (L.map Event.cells) L.length (by rw [List.length_map]) (by rfl) OS58.out (some ⟨w57.heap.size,0,none⟩) 2 ([(⟨9,(40 + N),(1 + a),(1 + (1 + a) % 3),(1 + c),f,false⟩ : Event),⟨(IntKind.i64.wrap (10 + k)),(40 + N),0,0,0,0,false⟩].map Event.cells) 2 rfl (by rfl) w58.heap.size HX.out.rd (by simp [Event.cells,Value.oneCell']) (by simp only [List.length_map];have : [(⟨9,(40 + N),(1 + a),(1 + (1 + a) % 3),(1 + c),f,false⟩ : Event),⟨(IntKind.i64.wrap (10 + k)),(40 + N),0,0,0,0,false⟩].length = 2:=rfl;omega) (by decide) hbz ?_)
   intro A2 cp2 x2 how hb9 hgr
   have HC_x2:=hd_ (HC58.out.grown hgr (fun k9 e9 => by have:=(OS58.out.block k9 e9).1;have:=hc0.out;omega))
   have HG_x2:=hd_ (zkx HG58 OS58.out hgr)
   have HE_x2 : Hid (Hx x2 EB (qaiiiiiib 9 (40 + N) (1 + a) (1 + (1 + a) % 3) (1 + c) f false) 64):=hd_ (zqe hgr (fun e9 => HASE.out EB e9.symm rfl) HE58)
   obtain ⟨LL,hL⟩ : ∃ l9,l9 = L ++ [(⟨9,(40 + N),(1 + a),(1 + (1 + a) % 3),(1 + c),f,false⟩ : Event),⟨(IntKind.i64.wrap (10 + k)),(40 + N),0,0,0,0,false⟩]:=⟨_,rfl⟩
   have hLl : L.length + 2 = LL.length:=by rw [hL,List.length_append];rfl
   rw [hLl] at how ⊢
   have OS_x2 : Hid (Ow x2 w.heap.size 64 7 (.slice A2 LL.length cp2) (LL.map Event.cells)):=hd_ (by rw [hL,List.map_append,← hL];exact how)
   clear how hb9 hgr hL HX hbz OS58 HC58 HG58 HE58
   clear jE Ef Ez
   obtain ⟨jE,Ef,Ez⟩:=bc7_ HE_x2
   go_simp
   refine hK.out _ _ jE (fun hH => ?_)
   clear hK K
   refine tk_ ?_
   refine Sq.done (NoPanic.normal ?_)
   go_wp2_with fail
   go_roundw
   case rel => exact ⟨N - 1,LL,A2,cp2,by omega,by omega,by go_num,rfl,by omega,OS_x2,HC_x2,HG_x2⟩
   case measure => simp [intOf];omega
end Go.Proofs.YtdbmkfmenfcbiaaGreat
