/- Draws: any book. -/
import Derived.Test.YtdbmkfmenfcbiaaGreatRows
import Derived.Test.YtdbmkfmenfcbiaaGreatSDrawBk
namespace Go.Proofs.YtdbmkfmenfcbiaaGreat
open Go.RowKit Go.Deep
section
variable {w w' : World} {B g : Nat} {b : Bk} {C1 C2 C3 : Option Addr} {q1 q2 q3 : Nat}
theorem OwB.putC (h : OwB w B b (some ⟨g,0,none⟩) C2 C3 q1 q2 q3) {i j off : Nat} {c c' : Chan} {u : Value} (hi : b.cs[i]? = some c) (hj : j < 7) (ho : off = i * 7 + j) (hc : c'.cells = c.cells.set j u) : OwB (w.setCell ⟨g,off,none⟩ u) B ⟨b.t,b.n,b.w,b.cs.set i c',b.hs,b.os⟩ (some ⟨g,0,none⟩) C2 C3 q1 q2 q3:=by
 subst ho
 obtain ⟨cur,hh⟩:=h.c.heapW
 have hr : (b.cs.map Chan.cells)[i]? = some c.cells:=by rw [List.getElem?_map,hi];rfl
 refine ⟨?_,h.h.aside hh (by decide) _,h.o.aside hh (by decide) _⟩
 rw [List.length_set,List.map_set,hc]
 exact h.c.stored hr hj u
theorem OwB.putH (h : OwB w B b C1 (some ⟨g,0,none⟩) C3 q1 q2 q3) {i j off : Nat} {c c' : Htlc} {u : Value} (hi : b.hs[i]? = some c) (hj : j < 7) (ho : off = i * 7 + j) (hc : c'.cells = c.cells.set j u) : OwB (w.setCell ⟨g,off,none⟩ u) B ⟨b.t,b.n,b.w,b.cs,b.hs.set i c',b.os⟩ C1 (some ⟨g,0,none⟩) C3 q1 q2 q3:=by
 subst ho
 obtain ⟨cur,hh⟩:=h.h.heapW
 have hr : (b.hs.map Htlc.cells)[i]? = some c.cells:=by rw [List.getElem?_map,hi];rfl
 refine ⟨h.c.aside hh (by decide) _,?_,h.o.aside hh (by decide) _⟩
 rw [List.length_set,List.map_set,hc]
 exact h.h.stored hr hj u
theorem OwB.putO (h : OwB w B b C1 C2 (some ⟨g,0,none⟩) q1 q2 q3) {i j off : Nat} {c c' : Circle} {u : Value} (hi : b.os[i]? = some c) (hj : j < 5) (ho : off = i * 5 + j) (hc : c'.cells = c.cells.set j u) : OwB (w.setCell ⟨g,off,none⟩ u) B ⟨b.t,b.n,b.w,b.cs,b.hs,b.os.set i c'⟩ C1 C2 (some ⟨g,0,none⟩) q1 q2 q3:=by
 subst ho
 obtain ⟨cur,hh⟩:=h.o.heapW
 have hr : (b.os.map Circle.cells)[i]? = some c.cells:=by rw [List.getElem?_map,hi];rfl
 refine ⟨h.c.aside hh (by decide) _,h.h.aside hh (by decide) _,?_⟩
 rw [List.length_set,List.map_set,hc]
 exact h.o.stored hr hj u
theorem OwB.putC7 (h : OwB w B b (some ⟨g,0,none⟩) C2 C3 q1 q2 q3) {i : Nat} {c : Chan} (hi : i < b.cs.length) : OwB (Go.Proofs.YtdbmkfmenfcbiaaGreat.set7 w g (i * 7) (.int .i64 c.Id) (.int .i64 c.Size) (.int .i64 c.Local) (.int .i64 c.Remote) (.int .i64 c.Base) (.int .i64 c.Ppm) (.int .i64 c.Score)) B ⟨b.t,b.n,b.w,b.cs.set i c,b.hs,b.os⟩ (some ⟨g,0,none⟩) C2 C3 q1 q2 q3:=by
 obtain ⟨cur,hh⟩:=h.c.heapW
 have hr : (b.cs.map Chan.cells)[i]? = some b.cs[i].cells:=by rw [List.getElem?_map,List.getElem?_eq_getElem hi];rfl
 have hg:=zkv w g (i * 7) (.int .i64 c.Id) (.int .i64 c.Size) (.int .i64 c.Local) (.int .i64 c.Remote) (.int .i64 c.Base) (.int .i64 c.Ppm) (.int .i64 c.Score)
 refine ⟨?_,h.h.grown hg (Or.inr (h.h.ne_ hh (by decide)).symm),h.o.grown hg (Or.inr (h.o.ne_ hh (by decide)).symm)⟩
 rw [List.length_set,zkm]
 exact h.c.set7 hr _ _ _ _ _ _ _
end
set_option maxRecDepth 100000 in
set_option maxHeartbeats 4000000 in
theorem s_l07Any (g : Nat) (w : World) (hc : Crs w g) :
  Calls Tryz.prog 102 #[.pointer (some ⟨g,0,none⟩)] w (DrewBk g w):=by
 have hgw:=hc.lt
 have HC_w:=hd_ hc
 have HG_w:=hd_ (World.grownBy.refl w (some g))
 clear hc
 go_enter Tryz.func102,Tryz.ntmps102
 go_wp2_with fail
 refine nm_ ?_
 intro w1 hw
 have HC_w1 : Hid (Crs w1 g):=hd_ (by rw [hw];exact (HC_w.out).alloc _)
 have HG_w1 : Hid (w.grownBy w1 (some g)):=hd_ (by rw [hw];exact zxf (HG_w.out) _)
 obtain ⟨RB,h9R⟩ : ∃ v,v = w.heap.size:=⟨_,rfl⟩
 have HR_w1 : Hid (Hx w1 RB #[.int .i64 0,.int .i64 0,.int .i64 0,.slice none 0 0,.slice none 0 0,.slice none 0 0] 39):=hd_ (by rw [hw,h9R];exact zqm (by first | rfl | (simp;done)))
 have HLR : Hid (w.heap.size ≤ RB):=hd_ (by have:=HG_w.out.size;omega)
 try rw [← h9R]
 clear hw h9R
 obtain ⟨R0,R1,R2,R3,R4,R5,Rf,Rz⟩:=box6_ HR_w1.out
 have HSZ0:=hd_ HG_w1.out.size
 refine (zsd g 20 _ HC_w1.out (by decide) (by decide)).mono ?_
 rintro e' w2 ⟨b,C1,C2,C3,q1,q2,q3,rfl,hob,hlen,hcn,hg⟩
 have HC_w2:=hd_ hcn
 have HG_w2:=hd_ (zql HG_w1.out hg)
 have HR_w2:=hd_ (zqd hg (zqy (by have:=HLR.out;omega)) HR_w1.out)
 clear hcn hg
 clear R0 R1 R2 R3 R4 R5 Rf Rz
 obtain ⟨R0,R1,R2,R3,R4,R5,Rf,Rz⟩:=box6_ HR_w2.out
 have OW_w2:=hd_ (hob.more HSZ0.out)
 have HLEN:=hd_ hlen
 clear hob hlen
 go_wp2_with fail
 refine nm_ ?_
 intro w3 hw
 have HC_w3 : Hid (Crs w3 g):=hd_ (by rw [hw];exact (HC_w2.out).alloc _)
 have HG_w3 : Hid (w.grownBy w3 (some g)):=hd_ (by rw [hw];exact zxf (HG_w2.out) _)
 have HR_w3 : Hid (Hx w3 RB #[.int .i64 0,.int .i64 0,.int .i64 0,.slice none 0 0,.slice none 0 0,.slice none 0 0] 39):=hd_ (by rw [hw];exact zqg (by have:=(gz_ HR_w2.out).1;first | omega | (simp;omega)) (HR_w2.out))
 have OW_w3 : Hid (OwB w3 w.heap.size b C1 C2 C3 q1 q2 q3):=hd_ (by rw [hw];exact (OW_w2.out).alloc _)
 obtain ⟨NB,h9N⟩ : ∃ v,v = w2.heap.size:=⟨_,rfl⟩
 have HN_w3 : Hid (Hx w3 NB (bkC b C1 q1 C2 q2 C3 q3) 39):=hd_ (by rw [hw,h9N];exact zqm (by first | rfl | (simp;done)))
 have HLN : Hid (w.heap.size ≤ NB):=hd_ (by have:=HG_w2.out.size;omega)
 try rw [← h9N]
 have HNNR : Hid (NB ≠ RB):=hd_ (by have:=(gz_ HR_w2.out).1;omega)
 clear hw h9N
 clear R0 R1 R2 R3 R4 R5 Rf Rz
 obtain ⟨R0,R1,R2,R3,R4,R5,Rf,Rz⟩:=box6_ HR_w3.out
 obtain ⟨N0,N1,N2,N3,N4,N5,Nf,Nz⟩:=box6_ HN_w3.out
 refine (zqp g 20 _ HC_w3.out (by first | decide | omega) (by first | decide | omega)).mono ?_
 rintro e' w4 ⟨k,k1,k2,rfl,hcn,hg⟩
 have HC_w4:=hd_ hcn
 have HG_w4:=hd_ (zql HG_w3.out hg)
 have HR_w4:=hd_ (zqd hg (zqy (by have:=HLR.out;omega)) HR_w3.out)
 have HN_w4:=hd_ (zqd hg (zqy (by have:=HLN.out;omega)) HN_w3.out)
 have OW_w4:=hd_ (OW_w3.out.pastL hg hgw)
 clear hcn hg
 clear R0 R1 R2 R3 R4 R5 N0 N1 N2 N3 N4 N5 Rf Nf Rz Nz
 obtain ⟨R0,R1,R2,R3,R4,R5,Rf,Rz⟩:=box6_ HR_w4.out
 obtain ⟨N0,N1,N2,N3,N4,N5,Nf,Nz⟩:=box6_ HN_w4.out
 have hk : k = 0 ∨ k = 1 ∨ k = 2 ∨ k = 3 ∨ k = 4 ∨ k = 5 ∨ k = 6 ∨ k = 7 ∨ 8 ≤ k:=by omega
 rcases hk with rfl | rfl | rfl | rfl | rfl | rfl | rfl | rfl | hk
 ·
  go_wp2_with fail
  refine (zvb g _ HC_w4.out).mono ?_
  rintro e' w5 ⟨y,y1,y2,rfl,hcn,hg⟩
  have HC_w5:=hd_ hcn
  have HG_w5:=hd_ (zql HG_w4.out hg)
  have HR_w5:=hd_ (zqd hg (zqy (by have:=HLR.out;omega)) HR_w4.out)
  have HN_w5:=hd_ (zqd hg (zqy (by have:=HLN.out;omega)) HN_w4.out)
  have OW_w5:=hd_ (OW_w4.out.pastL hg hgw)
  clear hcn hg
  clear R0 R1 R2 R3 R4 R5 N0 N1 N2 N3 N4 N5 Rf Nf Rz Nz
  obtain ⟨R0,R1,R2,R3,R4,R5,Rf,Rz⟩:=box6_ HR_w5.out
  obtain ⟨N0,N1,N2,N3,N4,N5,Nf,Nz⟩:=box6_ HN_w5.out
  go_upto_region 21 with fail
  refine nm_ ?_
  intro w6 hw
  have HC_w6 : Hid (Crs w6 g):=hd_ (by rw [hw];exact (HC_w5.out).set (by have:=HLN.out;omega))
  have HG_w6 : Hid (w.grownBy w6 (some g)):=hd_ (by rw [hw];exact zqc (HG_w5.out) HLN.out _ _)
  have HR_w6 : Hid (Hx w6 RB #[.int .i64 0,.int .i64 0,.int .i64 0,.slice none 0 0,.slice none 0 0,.slice none 0 0] 39):=hd_ (by rw [hw];exact zqb (by first | exact HNRN.out | exact fun e9 => HNNR.out e9.symm) (HR_w5.out))
  have HN_w6 : Hid (Hx w6 NB #[.int .i64 b.t,.int .i64 y,.int .i64 b.w,.slice C1 b.cs.length q1,.slice C2 b.hs.length q2,.slice C3 b.os.length q3] 39):=hd_ (by rw [hw];exact zqa (HN_w5.out))
  have OW_w6 : Hid (OwB w6 w.heap.size b C1 C2 C3 q1 q2 q3):=hd_ (by rw [hw];exact (OW_w5.out).aside (HN_w5.out) (by decide) (by decide) (by decide) _)
  clear hw
  clear R0 R1 R2 R3 R4 R5 N0 N1 N2 N3 N4 N5 Rf Nf Rz Nz
  obtain ⟨R0,R1,R2,R3,R4,R5,Rf,Rz⟩:=box6_ HR_w6.out
  obtain ⟨N0,N1,N2,N3,N4,N5,Nf,Nz⟩:=box6_ HN_w6.out
  go_wp2_with fail
  refine nm_ ?_
  intro w7 hw
  have HC_w7 : Hid (Crs w7 g):=hd_ (by rw [hw];exact ((((((HC_w6.out).set (by have:=HLR.out;omega)).set (by have:=HLR.out;omega)).set (by have:=HLR.out;omega)).set (by have:=HLR.out;omega)).set (by have:=HLR.out;omega)).set (by have:=HLR.out;omega))
  have HG_w7 : Hid (w.grownBy w7 (some g)):=hd_ (by rw [hw];exact zqc (zqc (zqc (zqc (zqc (zqc (HG_w6.out) HLR.out _ _) HLR.out _ _) HLR.out _ _) HLR.out _ _) HLR.out _ _) HLR.out _ _)
  have HR_w7 : Hid (Hx w7 RB #[.int .i64 b.t,.int .i64 y,.int .i64 b.w,.slice C1 b.cs.length q1,.slice C2 b.hs.length q2,.slice C3 b.os.length q3] 39):=hd_ (by rw [hw];exact zqa (zqa (zqa (zqa (zqa (zqa (HR_w6.out)))))))
  have HN_w7 : Hid (Hx w7 NB #[.int .i64 b.t,.int .i64 y,.int .i64 b.w,.slice C1 b.cs.length q1,.slice C2 b.hs.length q2,.slice C3 b.os.length q3] 39):=hd_ (by rw [hw];exact zqb (by first | exact HNNR.out | exact fun e9 => HNRN.out e9.symm) (zqb (by first | exact HNNR.out | exact fun e9 => HNRN.out e9.symm) (zqb (by first | exact HNNR.out | exact fun e9 => HNRN.out e9.symm) (zqb (by first | exact HNNR.out | exact fun e9 => HNRN.out e9.symm) (zqb (by first | exact HNNR.out | exact fun e9 => HNRN.out e9.symm) (zqb (by first | exact HNNR.out | exact fun e9 => HNRN.out e9.symm) (HN_w6.out)))))))
  have OW_w7 : Hid (OwB w7 w.heap.size b C1 C2 C3 q1 q2 q3):=hd_ (by rw [hw];exact ((((((OW_w6.out).aside (HR_w6.out) (by decide) (by decide) (by decide) _).aside (zqa (HR_w6.out)) (by decide) (by decide) (by decide) _).aside (zqa (zqa (HR_w6.out))) (by decide) (by decide) (by decide) _).aside (zqa (zqa (zqa (HR_w6.out)))) (by decide) (by decide) (by decide) _).aside (zqa (zqa (zqa (zqa (HR_w6.out))))) (by decide) (by decide) (by decide) _).aside (zqa (zqa (zqa (zqa (zqa (HR_w6.out)))))) (by decide) (by decide) (by decide) _)
  clear hw
  clear R0 R1 R2 R3 R4 R5 N0 N1 N2 N3 N4 N5 Rf Nf Rz Nz
  obtain ⟨R0,R1,R2,R3,R4,R5,Rf,Rz⟩:=box6_ HR_w7.out
  obtain ⟨N0,N1,N2,N3,N4,N5,Nf,Nz⟩:=box6_ HN_w7.out
  refine bodyPost_ret (v:=.agg #[.int .i64 b.t,.int .i64 y,.int .i64 b.w,.slice C1 b.cs.length q1,.slice C2 b.hs.length q2,.slice C3 b.os.length q3]) (by simp [results,Tryz.results102,go_sem, *]) rfl ?_
  have hl9:=HLEN.out
  exact ⟨⟨b.t,y,b.w,b.cs,b.hs,b.os⟩,_,_,_,_,_,_,rfl,⟨OW_w7.out.c,OW_w7.out.h,OW_w7.out.o⟩,hl9,HC_w7.out,HG_w7.out⟩
 ·
  go_wp2_with fail
  refine (zvb g _ HC_w4.out).mono ?_
  rintro e' w5 ⟨y,y1,y2,rfl,hcn,hg⟩
  have HC_w5:=hd_ hcn
  have HG_w5:=hd_ (zql HG_w4.out hg)
  have HR_w5:=hd_ (zqd hg (zqy (by have:=HLR.out;omega)) HR_w4.out)
  have HN_w5:=hd_ (zqd hg (zqy (by have:=HLN.out;omega)) HN_w4.out)
  have OW_w5:=hd_ (OW_w4.out.pastL hg hgw)
  clear hcn hg
  clear R0 R1 R2 R3 R4 R5 N0 N1 N2 N3 N4 N5 Rf Nf Rz Nz
  obtain ⟨R0,R1,R2,R3,R4,R5,Rf,Rz⟩:=box6_ HR_w5.out
  obtain ⟨N0,N1,N2,N3,N4,N5,Nf,Nz⟩:=box6_ HN_w5.out
  go_upto_region 21 with fail
  refine nm_ ?_
  intro w6 hw
  have HC_w6 : Hid (Crs w6 g):=hd_ (by rw [hw];exact (HC_w5.out).set (by have:=HLN.out;omega))
  have HG_w6 : Hid (w.grownBy w6 (some g)):=hd_ (by rw [hw];exact zqc (HG_w5.out) HLN.out _ _)
  have HR_w6 : Hid (Hx w6 RB #[.int .i64 0,.int .i64 0,.int .i64 0,.slice none 0 0,.slice none 0 0,.slice none 0 0] 39):=hd_ (by rw [hw];exact zqb (by first | exact HNRN.out | exact fun e9 => HNNR.out e9.symm) (HR_w5.out))
  have HN_w6 : Hid (Hx w6 NB #[.int .i64 b.t,.int .i64 b.n,.int .i64 y,.slice C1 b.cs.length q1,.slice C2 b.hs.length q2,.slice C3 b.os.length q3] 39):=hd_ (by rw [hw];exact zqa (HN_w5.out))
  have OW_w6 : Hid (OwB w6 w.heap.size b C1 C2 C3 q1 q2 q3):=hd_ (by rw [hw];exact (OW_w5.out).aside (HN_w5.out) (by decide) (by decide) (by decide) _)
  clear hw
  clear R0 R1 R2 R3 R4 R5 N0 N1 N2 N3 N4 N5 Rf Nf Rz Nz
  obtain ⟨R0,R1,R2,R3,R4,R5,Rf,Rz⟩:=box6_ HR_w6.out
  obtain ⟨N0,N1,N2,N3,N4,N5,Nf,Nz⟩:=box6_ HN_w6.out
  go_wp2_with fail
  refine nm_ ?_
  intro w7 hw
  have HC_w7 : Hid (Crs w7 g):=hd_ (by rw [hw];exact ((((((HC_w6.out).set (by have:=HLR.out;omega)).set (by have:=HLR.out;omega)).set (by have:=HLR.out;omega)).set (by have:=HLR.out;omega)).set (by have:=HLR.out;omega)).set (by have:=HLR.out;omega))
  have HG_w7 : Hid (w.grownBy w7 (some g)):=hd_ (by rw [hw];exact zqc (zqc (zqc (zqc (zqc (zqc (HG_w6.out) HLR.out _ _) HLR.out _ _) HLR.out _ _) HLR.out _ _) HLR.out _ _) HLR.out _ _)
  have HR_w7 : Hid (Hx w7 RB #[.int .i64 b.t,.int .i64 b.n,.int .i64 y,.slice C1 b.cs.length q1,.slice C2 b.hs.length q2,.slice C3 b.os.length q3] 39):=hd_ (by rw [hw];exact zqa (zqa (zqa (zqa (zqa (zqa (HR_w6.out)))))))
  have HN_w7 : Hid (Hx w7 NB #[.int .i64 b.t,.int .i64 b.n,.int .i64 y,.slice C1 b.cs.length q1,.slice C2 b.hs.length q2,.slice C3 b.os.length q3] 39):=hd_ (by rw [hw];exact zqb (by first | exact HNNR.out | exact fun e9 => HNRN.out e9.symm) (zqb (by first | exact HNNR.out | exact fun e9 => HNRN.out e9.symm) (zqb (by first | exact HNNR.out | exact fun e9 => HNRN.out e9.symm) (zqb (by first | exact HNNR.out | exact fun e9 => HNRN.out e9.symm) (zqb (by first | exact HNNR.out | exact fun e9 => HNRN.out e9.symm) (zqb (by first | exact HNNR.out | exact fun e9 => HNRN.out e9.symm) (HN_w6.out)))))))
  have OW_w7 : Hid (OwB w7 w.heap.size b C1 C2 C3 q1 q2 q3):=hd_ (by rw [hw];exact ((((((OW_w6.out).aside (HR_w6.out) (by decide) (by decide) (by decide) _).aside (zqa (HR_w6.out)) (by decide) (by decide) (by decide) _).aside (zqa (zqa (HR_w6.out))) (by decide) (by decide) (by decide) _).aside (zqa (zqa (zqa (HR_w6.out)))) (by decide) (by decide) (by decide) _).aside (zqa (zqa (zqa (zqa (HR_w6.out))))) (by decide) (by decide) (by decide) _).aside (zqa (zqa (zqa (zqa (zqa (HR_w6.out)))))) (by decide) (by decide) (by decide) _)
  clear hw
  clear R0 R1 R2 R3 R4 R5 N0 N1 N2 N3 N4 N5 Rf Nf Rz Nz
  obtain ⟨R0,R1,R2,R3,R4,R5,Rf,Rz⟩:=box6_ HR_w7.out
  obtain ⟨N0,N1,N2,N3,N4,N5,Nf,Nz⟩:=box6_ HN_w7.out
  refine bodyPost_ret (v:=.agg #[.int .i64 b.t,.int .i64 b.n,.int .i64 y,.slice C1 b.cs.length q1,.slice C2 b.hs.length q2,.slice C3 b.os.length q3]) (by simp [results,Tryz.results102,go_sem, *]) rfl ?_
  have hl9:=HLEN.out
  exact ⟨⟨b.t,b.n,y,b.cs,b.hs,b.os⟩,_,_,_,_,_,_,rfl,⟨OW_w7.out.c,OW_w7.out.h,OW_w7.out.o⟩,hl9,HC_w7.out,HG_w7.out⟩
 ·
  cases tl : decide (0 < b.cs.length)
  ·
   go_wp2_with fail
   refine nm_ ?_
   intro w5 hw
   have HC_w5 : Hid (Crs w5 g):=hd_ (by rw [hw];exact ((((((HC_w4.out).set (by have:=HLR.out;omega)).set (by have:=HLR.out;omega)).set (by have:=HLR.out;omega)).set (by have:=HLR.out;omega)).set (by have:=HLR.out;omega)).set (by have:=HLR.out;omega))
   have HG_w5 : Hid (w.grownBy w5 (some g)):=hd_ (by rw [hw];exact zqc (zqc (zqc (zqc (zqc (zqc (HG_w4.out) HLR.out _ _) HLR.out _ _) HLR.out _ _) HLR.out _ _) HLR.out _ _) HLR.out _ _)
   have HR_w5 : Hid (Hx w5 RB (bkC b C1 q1 C2 q2 C3 q3) 39):=hd_ (by rw [hw];exact zqa (zqa (zqa (zqa (zqa (zqa (HR_w4.out)))))))
   have HN_w5 : Hid (Hx w5 NB (bkC b C1 q1 C2 q2 C3 q3) 39):=hd_ (by rw [hw];exact zqb (by first | exact HNNR.out | exact fun e9 => HNRN.out e9.symm) (zqb (by first | exact HNNR.out | exact fun e9 => HNRN.out e9.symm) (zqb (by first | exact HNNR.out | exact fun e9 => HNRN.out e9.symm) (zqb (by first | exact HNNR.out | exact fun e9 => HNRN.out e9.symm) (zqb (by first | exact HNNR.out | exact fun e9 => HNRN.out e9.symm) (zqb (by first | exact HNNR.out | exact fun e9 => HNRN.out e9.symm) (HN_w4.out)))))))
   have OW_w5 : Hid (OwB w5 w.heap.size b C1 C2 C3 q1 q2 q3):=hd_ (by rw [hw];exact ((((((OW_w4.out).aside (HR_w4.out) (by decide) (by decide) (by decide) _).aside (zqa (HR_w4.out)) (by decide) (by decide) (by decide) _).aside (zqa (zqa (HR_w4.out))) (by decide) (by decide) (by decide) _).aside (zqa (zqa (zqa (HR_w4.out)))) (by decide) (by decide) (by decide) _).aside (zqa (zqa (zqa (zqa (HR_w4.out))))) (by decide) (by decide) (by decide) _).aside (zqa (zqa (zqa (zqa (zqa (HR_w4.out)))))) (by decide) (by decide) (by decide) _)
   clear hw
   clear R0 R1 R2 R3 R4 R5 N0 N1 N2 N3 N4 N5 Rf Nf Rz Nz
   obtain ⟨R0,R1,R2,R3,R4,R5,Rf,Rz⟩:=box6_ HR_w5.out
   obtain ⟨N0,N1,N2,N3,N4,N5,Nf,Nz⟩:=box6_ HN_w5.out
   refine bodyPost_ret (v:=.agg #[.int .i64 b.t,.int .i64 b.n,.int .i64 b.w,.slice C1 b.cs.length q1,.slice C2 b.hs.length q2,.slice C3 b.os.length q3]) (by simp [results,Tryz.results102,go_sem, *]) rfl ?_
   exact ⟨_,_,_,_,_,_,_,rfl,OW_w5.out,HLEN.out,HC_w5.out,HG_w5.out⟩
  ·
   have hl0 : 0 < b.cs.length:=by have:=of_decide_eq_true tl;omega
   obtain ⟨G,hA,hBG⟩:=OW_w4.out.c.headW (by rw [List.length_map];exact hl0)
   subst hA
   have HLG:=hd_ hBG
   clear hBG
   obtain ⟨c,hc⟩ : ∃ c,b.cs[0] = c:=⟨_,rfl⟩
   have hci : b.cs[0]? = some c:=by rw [List.getElem?_eq_getElem hl0,hc]
   have hr : (b.cs.map Chan.cells)[0]? = some c.cells:=by rw [List.getElem?_map,hci];rfl
   obtain ⟨y0,y1,y2,y3,y4,y5,y6⟩:=c
   have HRow:=hd_ hr
   have HCI:=hd_ hci
   clear hr hci hc
   go_upto_region 8 with fail
   clear tl
   have ix1 : (0 : Int) < (b.cs.length : Int):=by omega
   refine zxb (fun w' => kqiiisss_ w' NB b.t b.n b.w (some ⟨G,0,none⟩) b.cs.length q1 C2 b.hs.length q2 C3 b.os.length q3) [yF 0 28,yF 1 29,yF 2 30,yT 3 31,yF 4 32,yF 5 33] rfl (by kernel_rfl) (by kernel_rfl) (by kernel_rfl) (by kernel_rfl) (by kernel_rfl) (by kernel_rfl) ⟨N0,N1,N2,N3,N4,N5⟩ (fun hHeld => ?_)
   obtain ⟨w5,hwd⟩ : ∃ wd,w4.drew = wd:=⟨_,rfl⟩
   have HC_w5 : Hid (Crs w5 g):=hd_ (by rw [← hwd];exact HC_w4.out)
   have HG_w5 : Hid (w.grownBy w5 (some g)):=hd_ (by rw [← hwd];exact zjn HG_w4.out)
   have HR_w5 : Hid (Hx w5 RB #[.int .i64 0,.int .i64 0,.int .i64 0,.slice none 0 0,.slice none 0 0,.slice none 0 0] 39):=hd_ (by rw [← hwd];exact zqk HR_w4.out)
   have HN_w5 : Hid (Hx w5 NB (bkC b (some ⟨G,0,none⟩) q1 C2 q2 C3 q3) 39):=hd_ (by rw [← hwd];exact zqk HN_w4.out)
   have OW_w5 : Hid (OwB w5 w.heap.size b (some ⟨G,0,none⟩) C2 C3 q1 q2 q3):=hd_ (by rw [← hwd];exact OW_w4.out.drew)
   clear R0 R1 R2 R3 R4 R5 N0 N1 N2 N3 N4 N5 Rf Nf Rz Nz
   rw [hwd] at hHeld ⊢
   clear hwd
   obtain ⟨R0,R1,R2,R3,R4,R5,Rf,Rz⟩:=box6_ HR_w5.out
   obtain ⟨N0,N1,N2,N3,N4,N5,Nf,Nz⟩:=box6_ HN_w5.out
   refine tk_ ?_
   refine Sq.step rfl (by rfl) (fun K hK => ?_)
   go_simp
   refine (zvb g _ HC_w5.out).mono ?_
   rintro e' w6 ⟨z,z1,z2,rfl,hcn,hg⟩
   have HC_w6:=hd_ hcn
   have HG_w6:=hd_ (zql HG_w5.out hg)
   have HR_w6:=hd_ (zqd hg (zqy (by have:=HLR.out;omega)) HR_w5.out)
   have HN_w6:=hd_ (zqd hg (zqy (by have:=HLN.out;omega)) HN_w5.out)
   have OW_w6:=hd_ (OW_w5.out.pastL hg hgw)
   clear hcn hg
   clear R0 R1 R2 R3 R4 R5 N0 N1 N2 N3 N4 N5 Rf Nf Rz Nz
   obtain ⟨R0,R1,R2,R3,R4,R5,Rf,Rz⟩:=box6_ HR_w6.out
   obtain ⟨N0,N1,N2,N3,N4,N5,Nf,Nz⟩:=box6_ HN_w6.out
   go_simp
   refine hK.out _ _ ⟨N0,N1,N2,N3,N4,N5⟩ (fun hHeld => ?_)
   clear hK K
   refine tk_ ?_
   have yc : w6.cell? ⟨G,2,none⟩ = some (.int .i64 y2):=by have h9:=OW_w6.out.c.cellAt HRow.out (j:=2) (by decide);exact h9.trans rfl
   have yf:=fun j => OW_w6.out.c.frozenAt j
   refine Sq.done ?_
   intro KK hKK
   go_simp
   refine hKK _ _ (NoPanic.normal ?_)
   clear yc yf
   refine nm_ ?_
   intro w7 hw
   have HC_w7 : Hid (Crs w7 g):=hd_ (by rw [hw];exact HC_w6.out.set (by have:=HLG.out;omega))
   have HG_w7 : Hid (w.grownBy w7 (some g)):=hd_ (by rw [hw];exact zqc HG_w6.out HLG.out _ _)
   have HR_w7 : Hid (Hx w7 RB #[.int .i64 0,.int .i64 0,.int .i64 0,.slice none 0 0,.slice none 0 0,.slice none 0 0] 39):=hd_ (by rw [hw];exact zqb (fun e9 => OW_w6.out.c.ne_ HR_w6.out (by decide) (by rw [e9];rfl)) HR_w6.out)
   have HN_w7 : Hid (Hx w7 NB (bkC b (some ⟨G,0,none⟩) q1 C2 q2 C3 q3) 39):=hd_ (by rw [hw];exact zqb (fun e9 => OW_w6.out.c.ne_ HN_w6.out (by decide) (by rw [e9];rfl)) HN_w6.out)
   have OW_w7 : Hid (OwB w7 w.heap.size ⟨b.t,b.n,b.w,(b.cs.set 0 ⟨y0,y1,z,y3,y4,y5,y6⟩),b.hs,b.os⟩ (some ⟨G,0,none⟩) C2 C3 q1 q2 q3):=hd_ (by rw [hw];exact OW_w6.out.putC (j:=2) (c':=⟨y0,y1,z,y3,y4,y5,y6⟩) HCI.out (by decide) (by decide) rfl)
   clear hw
   clear R0 R1 R2 R3 R4 R5 N0 N1 N2 N3 N4 N5 Rf Nf Rz Nz
   obtain ⟨R0,R1,R2,R3,R4,R5,Rf,Rz⟩:=box6_ HR_w7.out
   obtain ⟨N0,N1,N2,N3,N4,N5,Nf,Nz⟩:=box6_ HN_w7.out
   go_wp2_with fail
   refine nm_ ?_
   intro w8 hw
   have HC_w8 : Hid (Crs w8 g):=hd_ (by rw [hw];exact ((((((HC_w7.out).set (by have:=HLR.out;omega)).set (by have:=HLR.out;omega)).set (by have:=HLR.out;omega)).set (by have:=HLR.out;omega)).set (by have:=HLR.out;omega)).set (by have:=HLR.out;omega))
   have HG_w8 : Hid (w.grownBy w8 (some g)):=hd_ (by rw [hw];exact zqc (zqc (zqc (zqc (zqc (zqc (HG_w7.out) HLR.out _ _) HLR.out _ _) HLR.out _ _) HLR.out _ _) HLR.out _ _) HLR.out _ _)
   have HR_w8 : Hid (Hx w8 RB (bkC b (some ⟨G,0,none⟩) q1 C2 q2 C3 q3) 39):=hd_ (by rw [hw];exact zqa (zqa (zqa (zqa (zqa (zqa (HR_w7.out)))))))
   have HN_w8 : Hid (Hx w8 NB (bkC b (some ⟨G,0,none⟩) q1 C2 q2 C3 q3) 39):=hd_ (by rw [hw];exact zqb (by first | exact HNNR.out | exact fun e9 => HNRN.out e9.symm) (zqb (by first | exact HNNR.out | exact fun e9 => HNRN.out e9.symm) (zqb (by first | exact HNNR.out | exact fun e9 => HNRN.out e9.symm) (zqb (by first | exact HNNR.out | exact fun e9 => HNRN.out e9.symm) (zqb (by first | exact HNNR.out | exact fun e9 => HNRN.out e9.symm) (zqb (by first | exact HNNR.out | exact fun e9 => HNRN.out e9.symm) (HN_w7.out)))))))
   have OW_w8 : Hid (OwB w8 w.heap.size ⟨b.t,b.n,b.w,(b.cs.set 0 ⟨y0,y1,z,y3,y4,y5,y6⟩),b.hs,b.os⟩ (some ⟨G,0,none⟩) C2 C3 q1 q2 q3):=hd_ (by rw [hw];exact ((((((OW_w7.out).aside (HR_w7.out) (by decide) (by decide) (by decide) _).aside (zqa (HR_w7.out)) (by decide) (by decide) (by decide) _).aside (zqa (zqa (HR_w7.out))) (by decide) (by decide) (by decide) _).aside (zqa (zqa (zqa (HR_w7.out)))) (by decide) (by decide) (by decide) _).aside (zqa (zqa (zqa (zqa (HR_w7.out))))) (by decide) (by decide) (by decide) _).aside (zqa (zqa (zqa (zqa (zqa (HR_w7.out)))))) (by decide) (by decide) (by decide) _)
   clear hw
   clear R0 R1 R2 R3 R4 R5 N0 N1 N2 N3 N4 N5 Rf Nf Rz Nz
   obtain ⟨R0,R1,R2,R3,R4,R5,Rf,Rz⟩:=box6_ HR_w8.out
   obtain ⟨N0,N1,N2,N3,N4,N5,Nf,Nz⟩:=box6_ HN_w8.out
   refine bodyPost_ret (v:=.agg #[.int .i64 b.t,.int .i64 b.n,.int .i64 b.w,.slice (some ⟨G,0,none⟩) b.cs.length q1,.slice C2 b.hs.length q2,.slice C3 b.os.length q3]) (by simp [results,Tryz.results102,go_sem, *]) rfl ?_
   have hl9:=HLEN.out
   exact ⟨⟨b.t,b.n,b.w,(b.cs.set 0 ⟨y0,y1,z,y3,y4,y5,y6⟩),b.hs,b.os⟩,_,_,_,_,_,_,by first | rfl | (simp only [List.length_set]),OW_w8.out,⟨by simpa using hl9.1,hl9.2.1,hl9.2.2⟩,HC_w8.out,HG_w8.out⟩
 ·
  cases tl : decide (0 < b.hs.length)
  ·
   go_wp2_with fail
   refine nm_ ?_
   intro w5 hw
   have HC_w5 : Hid (Crs w5 g):=hd_ (by rw [hw];exact ((((((HC_w4.out).set (by have:=HLR.out;omega)).set (by have:=HLR.out;omega)).set (by have:=HLR.out;omega)).set (by have:=HLR.out;omega)).set (by have:=HLR.out;omega)).set (by have:=HLR.out;omega))
   have HG_w5 : Hid (w.grownBy w5 (some g)):=hd_ (by rw [hw];exact zqc (zqc (zqc (zqc (zqc (zqc (HG_w4.out) HLR.out _ _) HLR.out _ _) HLR.out _ _) HLR.out _ _) HLR.out _ _) HLR.out _ _)
   have HR_w5 : Hid (Hx w5 RB (bkC b C1 q1 C2 q2 C3 q3) 39):=hd_ (by rw [hw];exact zqa (zqa (zqa (zqa (zqa (zqa (HR_w4.out)))))))
   have HN_w5 : Hid (Hx w5 NB (bkC b C1 q1 C2 q2 C3 q3) 39):=hd_ (by rw [hw];exact zqb (by first | exact HNNR.out | exact fun e9 => HNRN.out e9.symm) (zqb (by first | exact HNNR.out | exact fun e9 => HNRN.out e9.symm) (zqb (by first | exact HNNR.out | exact fun e9 => HNRN.out e9.symm) (zqb (by first | exact HNNR.out | exact fun e9 => HNRN.out e9.symm) (zqb (by first | exact HNNR.out | exact fun e9 => HNRN.out e9.symm) (zqb (by first | exact HNNR.out | exact fun e9 => HNRN.out e9.symm) (HN_w4.out)))))))
   have OW_w5 : Hid (OwB w5 w.heap.size b C1 C2 C3 q1 q2 q3):=hd_ (by rw [hw];exact ((((((OW_w4.out).aside (HR_w4.out) (by decide) (by decide) (by decide) _).aside (zqa (HR_w4.out)) (by decide) (by decide) (by decide) _).aside (zqa (zqa (HR_w4.out))) (by decide) (by decide) (by decide) _).aside (zqa (zqa (zqa (HR_w4.out)))) (by decide) (by decide) (by decide) _).aside (zqa (zqa (zqa (zqa (HR_w4.out))))) (by decide) (by decide) (by decide) _).aside (zqa (zqa (zqa (zqa (zqa (HR_w4.out)))))) (by decide) (by decide) (by decide) _)
   clear hw
   clear R0 R1 R2 R3 R4 R5 N0 N1 N2 N3 N4 N5 Rf Nf Rz Nz
   obtain ⟨R0,R1,R2,R3,R4,R5,Rf,Rz⟩:=box6_ HR_w5.out
   obtain ⟨N0,N1,N2,N3,N4,N5,Nf,Nz⟩:=box6_ HN_w5.out
   refine bodyPost_ret (v:=.agg #[.int .i64 b.t,.int .i64 b.n,.int .i64 b.w,.slice C1 b.cs.length q1,.slice C2 b.hs.length q2,.slice C3 b.os.length q3]) (by simp [results,Tryz.results102,go_sem, *]) rfl ?_
   exact ⟨_,_,_,_,_,_,_,rfl,OW_w5.out,HLEN.out,HC_w5.out,HG_w5.out⟩
  ·
   have hl0 : 0 < b.hs.length:=by have:=of_decide_eq_true tl;omega
   obtain ⟨G,hA,hBG⟩:=OW_w4.out.h.headW (by rw [List.length_map];exact hl0)
   subst hA
   have HLG:=hd_ hBG
   clear hBG
   obtain ⟨c,hc⟩ : ∃ c,b.hs[0] = c:=⟨_,rfl⟩
   have hci : b.hs[0]? = some c:=by rw [List.getElem?_eq_getElem hl0,hc]
   have hr : (b.hs.map Htlc.cells)[0]? = some c.cells:=by rw [List.getElem?_map,hci];rfl
   obtain ⟨y0,y1,y2,y3,y4,y5,y6⟩:=c
   have HRow:=hd_ hr
   have HCI:=hd_ hci
   clear hr hci hc
   go_upto_region 10 with fail
   clear tl
   have ix1 : (0 : Int) < (b.hs.length : Int):=by omega
   refine zxb (fun w' => kqiiisss_ w' NB b.t b.n b.w C1 b.cs.length q1 (some ⟨G,0,none⟩) b.hs.length q2 C3 b.os.length q3) [yF 0 42,yF 1 43,yF 2 44,yT 3 45,yF 4 46,yF 5 47] rfl (by kernel_rfl) (by kernel_rfl) (by kernel_rfl) (by kernel_rfl) (by kernel_rfl) (by kernel_rfl) ⟨N0,N1,N2,N3,N4,N5⟩ (fun hHeld => ?_)
   obtain ⟨w5,hwd⟩ : ∃ wd,w4.drew = wd:=⟨_,rfl⟩
   have HC_w5 : Hid (Crs w5 g):=hd_ (by rw [← hwd];exact HC_w4.out)
   have HG_w5 : Hid (w.grownBy w5 (some g)):=hd_ (by rw [← hwd];exact zjn HG_w4.out)
   have HR_w5 : Hid (Hx w5 RB #[.int .i64 0,.int .i64 0,.int .i64 0,.slice none 0 0,.slice none 0 0,.slice none 0 0] 39):=hd_ (by rw [← hwd];exact zqk HR_w4.out)
   have HN_w5 : Hid (Hx w5 NB (bkC b C1 q1 (some ⟨G,0,none⟩) q2 C3 q3) 39):=hd_ (by rw [← hwd];exact zqk HN_w4.out)
   have OW_w5 : Hid (OwB w5 w.heap.size b C1 (some ⟨G,0,none⟩) C3 q1 q2 q3):=hd_ (by rw [← hwd];exact OW_w4.out.drew)
   clear R0 R1 R2 R3 R4 R5 N0 N1 N2 N3 N4 N5 Rf Nf Rz Nz
   rw [hwd] at hHeld ⊢
   clear hwd
   obtain ⟨R0,R1,R2,R3,R4,R5,Rf,Rz⟩:=box6_ HR_w5.out
   obtain ⟨N0,N1,N2,N3,N4,N5,Nf,Nz⟩:=box6_ HN_w5.out
   refine tk_ ?_
   refine Sq.step rfl (by rfl) (fun K hK => ?_)
   go_simp
   refine (zvb g _ HC_w5.out).mono ?_
   rintro e' w6 ⟨z,z1,z2,rfl,hcn,hg⟩
   have HC_w6:=hd_ hcn
   have HG_w6:=hd_ (zql HG_w5.out hg)
   have HR_w6:=hd_ (zqd hg (zqy (by have:=HLR.out;omega)) HR_w5.out)
   have HN_w6:=hd_ (zqd hg (zqy (by have:=HLN.out;omega)) HN_w5.out)
   have OW_w6:=hd_ (OW_w5.out.pastL hg hgw)
   clear hcn hg
   clear R0 R1 R2 R3 R4 R5 N0 N1 N2 N3 N4 N5 Rf Nf Rz Nz
   obtain ⟨R0,R1,R2,R3,R4,R5,Rf,Rz⟩:=box6_ HR_w6.out
   obtain ⟨N0,N1,N2,N3,N4,N5,Nf,Nz⟩:=box6_ HN_w6.out
   go_simp
   refine hK.out _ _ ⟨N0,N1,N2,N3,N4,N5⟩ (fun hHeld => ?_)
   clear hK K
   refine tk_ ?_
   have yc : w6.cell? ⟨G,0,none⟩ = some (.int .i64 y0):=by have h9:=OW_w6.out.h.cellAt HRow.out (j:=0) (by decide);exact h9.trans rfl
   have yf:=fun j => OW_w6.out.h.frozenAt j
   refine Sq.done ?_
   intro KK hKK
   go_simp
   refine hKK _ _ (NoPanic.normal ?_)
   clear yc yf
   refine nm_ ?_
   intro w7 hw
   have HC_w7 : Hid (Crs w7 g):=hd_ (by rw [hw];exact HC_w6.out.set (by have:=HLG.out;omega))
   have HG_w7 : Hid (w.grownBy w7 (some g)):=hd_ (by rw [hw];exact zqc HG_w6.out HLG.out _ _)
   have HR_w7 : Hid (Hx w7 RB #[.int .i64 0,.int .i64 0,.int .i64 0,.slice none 0 0,.slice none 0 0,.slice none 0 0] 39):=hd_ (by rw [hw];exact zqb (fun e9 => OW_w6.out.h.ne_ HR_w6.out (by decide) (by rw [e9];rfl)) HR_w6.out)
   have HN_w7 : Hid (Hx w7 NB (bkC b C1 q1 (some ⟨G,0,none⟩) q2 C3 q3) 39):=hd_ (by rw [hw];exact zqb (fun e9 => OW_w6.out.h.ne_ HN_w6.out (by decide) (by rw [e9];rfl)) HN_w6.out)
   have OW_w7 : Hid (OwB w7 w.heap.size ⟨b.t,b.n,b.w,b.cs,(b.hs.set 0 ⟨z,y1,y2,y3,y4,y5,y6⟩),b.os⟩ C1 (some ⟨G,0,none⟩) C3 q1 q2 q3):=hd_ (by rw [hw];exact OW_w6.out.putH (j:=0) (c':=⟨z,y1,y2,y3,y4,y5,y6⟩) HCI.out (by decide) (by decide) rfl)
   clear hw
   clear R0 R1 R2 R3 R4 R5 N0 N1 N2 N3 N4 N5 Rf Nf Rz Nz
   obtain ⟨R0,R1,R2,R3,R4,R5,Rf,Rz⟩:=box6_ HR_w7.out
   obtain ⟨N0,N1,N2,N3,N4,N5,Nf,Nz⟩:=box6_ HN_w7.out
   go_wp2_with fail
   refine nm_ ?_
   intro w8 hw
   have HC_w8 : Hid (Crs w8 g):=hd_ (by rw [hw];exact ((((((HC_w7.out).set (by have:=HLR.out;omega)).set (by have:=HLR.out;omega)).set (by have:=HLR.out;omega)).set (by have:=HLR.out;omega)).set (by have:=HLR.out;omega)).set (by have:=HLR.out;omega))
   have HG_w8 : Hid (w.grownBy w8 (some g)):=hd_ (by rw [hw];exact zqc (zqc (zqc (zqc (zqc (zqc (HG_w7.out) HLR.out _ _) HLR.out _ _) HLR.out _ _) HLR.out _ _) HLR.out _ _) HLR.out _ _)
   have HR_w8 : Hid (Hx w8 RB (bkC b C1 q1 (some ⟨G,0,none⟩) q2 C3 q3) 39):=hd_ (by rw [hw];exact zqa (zqa (zqa (zqa (zqa (zqa (HR_w7.out)))))))
   have HN_w8 : Hid (Hx w8 NB (bkC b C1 q1 (some ⟨G,0,none⟩) q2 C3 q3) 39):=hd_ (by rw [hw];exact zqb (by first | exact HNNR.out | exact fun e9 => HNRN.out e9.symm) (zqb (by first | exact HNNR.out | exact fun e9 => HNRN.out e9.symm) (zqb (by first | exact HNNR.out | exact fun e9 => HNRN.out e9.symm) (zqb (by first | exact HNNR.out | exact fun e9 => HNRN.out e9.symm) (zqb (by first | exact HNNR.out | exact fun e9 => HNRN.out e9.symm) (zqb (by first | exact HNNR.out | exact fun e9 => HNRN.out e9.symm) (HN_w7.out)))))))
   have OW_w8 : Hid (OwB w8 w.heap.size ⟨b.t,b.n,b.w,b.cs,(b.hs.set 0 ⟨z,y1,y2,y3,y4,y5,y6⟩),b.os⟩ C1 (some ⟨G,0,none⟩) C3 q1 q2 q3):=hd_ (by rw [hw];exact ((((((OW_w7.out).aside (HR_w7.out) (by decide) (by decide) (by decide) _).aside (zqa (HR_w7.out)) (by decide) (by decide) (by decide) _).aside (zqa (zqa (HR_w7.out))) (by decide) (by decide) (by decide) _).aside (zqa (zqa (zqa (HR_w7.out)))) (by decide) (by decide) (by decide) _).aside (zqa (zqa (zqa (zqa (HR_w7.out))))) (by decide) (by decide) (by decide) _).aside (zqa (zqa (zqa (zqa (zqa (HR_w7.out)))))) (by decide) (by decide) (by decide) _)
   clear hw
   clear R0 R1 R2 R3 R4 R5 N0 N1 N2 N3 N4 N5 Rf Nf Rz Nz
   obtain ⟨R0,R1,R2,R3,R4,R5,Rf,Rz⟩:=box6_ HR_w8.out
   obtain ⟨N0,N1,N2,N3,N4,N5,Nf,Nz⟩:=box6_ HN_w8.out
   refine bodyPost_ret (v:=.agg #[.int .i64 b.t,.int .i64 b.n,.int .i64 b.w,.slice C1 b.cs.length q1,.slice (some ⟨G,0,none⟩) b.hs.length q2,.slice C3 b.os.length q3]) (by simp [results,Tryz.results102,go_sem, *]) rfl ?_
   have hl9:=HLEN.out
   exact ⟨⟨b.t,b.n,b.w,b.cs,(b.hs.set 0 ⟨z,y1,y2,y3,y4,y5,y6⟩),b.os⟩,_,_,_,_,_,_,by first | rfl | (simp only [List.length_set]),OW_w8.out,⟨hl9.1,by simpa using hl9.2.1,hl9.2.2⟩,HC_w8.out,HG_w8.out⟩
 ·
  go_wp2_with fail
  refine (zqp g 2 _ HC_w4.out (by first | decide | omega) (by first | decide | omega)).mono ?_
  rintro e' w5 ⟨y,y1,y2,rfl,hcn,hg⟩
  have HC_w5:=hd_ hcn
  have HG_w5:=hd_ (zql HG_w4.out hg)
  have HR_w5:=hd_ (zqd hg (zqy (by have:=HLR.out;omega)) HR_w4.out)
  have HN_w5:=hd_ (zqd hg (zqy (by have:=HLN.out;omega)) HN_w4.out)
  have OW_w5:=hd_ (OW_w4.out.pastL hg hgw)
  clear hcn hg
  clear R0 R1 R2 R3 R4 R5 N0 N1 N2 N3 N4 N5 Rf Nf Rz Nz
  obtain ⟨R0,R1,R2,R3,R4,R5,Rf,Rz⟩:=box6_ HR_w5.out
  obtain ⟨N0,N1,N2,N3,N4,N5,Nf,Nz⟩:=box6_ HN_w5.out
  go_upto_region 21 with fail
  refine nm_ ?_
  intro w6 hw
  have HC_w6 : Hid (Crs w6 g):=hd_ (by rw [hw];exact (HC_w5.out).set (by have:=HLN.out;omega))
  have HG_w6 : Hid (w.grownBy w6 (some g)):=hd_ (by rw [hw];exact zqc (HG_w5.out) HLN.out _ _)
  have HR_w6 : Hid (Hx w6 RB #[.int .i64 0,.int .i64 0,.int .i64 0,.slice none 0 0,.slice none 0 0,.slice none 0 0] 39):=hd_ (by rw [hw];exact zqb (by first | exact HNRN.out | exact fun e9 => HNNR.out e9.symm) (HR_w5.out))
  have HN_w6 : Hid (Hx w6 NB #[.int .i64 (1125899906842624 - y),.int .i64 b.n,.int .i64 b.w,.slice C1 b.cs.length q1,.slice C2 b.hs.length q2,.slice C3 b.os.length q3] 39):=hd_ (by rw [hw];exact zqa (HN_w5.out))
  have OW_w6 : Hid (OwB w6 w.heap.size b C1 C2 C3 q1 q2 q3):=hd_ (by rw [hw];exact (OW_w5.out).aside (HN_w5.out) (by decide) (by decide) (by decide) _)
  clear hw
  clear R0 R1 R2 R3 R4 R5 N0 N1 N2 N3 N4 N5 Rf Nf Rz Nz
  obtain ⟨R0,R1,R2,R3,R4,R5,Rf,Rz⟩:=box6_ HR_w6.out
  obtain ⟨N0,N1,N2,N3,N4,N5,Nf,Nz⟩:=box6_ HN_w6.out
  go_wp2_with fail
  refine nm_ ?_
  intro w7 hw
  have HC_w7 : Hid (Crs w7 g):=hd_ (by rw [hw];exact ((((((HC_w6.out).set (by have:=HLR.out;omega)).set (by have:=HLR.out;omega)).set (by have:=HLR.out;omega)).set (by have:=HLR.out;omega)).set (by have:=HLR.out;omega)).set (by have:=HLR.out;omega))
  have HG_w7 : Hid (w.grownBy w7 (some g)):=hd_ (by rw [hw];exact zqc (zqc (zqc (zqc (zqc (zqc (HG_w6.out) HLR.out _ _) HLR.out _ _) HLR.out _ _) HLR.out _ _) HLR.out _ _) HLR.out _ _)
  have HR_w7 : Hid (Hx w7 RB #[.int .i64 (1125899906842624 - y),.int .i64 b.n,.int .i64 b.w,.slice C1 b.cs.length q1,.slice C2 b.hs.length q2,.slice C3 b.os.length q3] 39):=hd_ (by rw [hw];exact zqa (zqa (zqa (zqa (zqa (zqa (HR_w6.out)))))))
  have HN_w7 : Hid (Hx w7 NB #[.int .i64 (1125899906842624 - y),.int .i64 b.n,.int .i64 b.w,.slice C1 b.cs.length q1,.slice C2 b.hs.length q2,.slice C3 b.os.length q3] 39):=hd_ (by rw [hw];exact zqb (by first | exact HNNR.out | exact fun e9 => HNRN.out e9.symm) (zqb (by first | exact HNNR.out | exact fun e9 => HNRN.out e9.symm) (zqb (by first | exact HNNR.out | exact fun e9 => HNRN.out e9.symm) (zqb (by first | exact HNNR.out | exact fun e9 => HNRN.out e9.symm) (zqb (by first | exact HNNR.out | exact fun e9 => HNRN.out e9.symm) (zqb (by first | exact HNNR.out | exact fun e9 => HNRN.out e9.symm) (HN_w6.out)))))))
  have OW_w7 : Hid (OwB w7 w.heap.size b C1 C2 C3 q1 q2 q3):=hd_ (by rw [hw];exact ((((((OW_w6.out).aside (HR_w6.out) (by decide) (by decide) (by decide) _).aside (zqa (HR_w6.out)) (by decide) (by decide) (by decide) _).aside (zqa (zqa (HR_w6.out))) (by decide) (by decide) (by decide) _).aside (zqa (zqa (zqa (HR_w6.out)))) (by decide) (by decide) (by decide) _).aside (zqa (zqa (zqa (zqa (HR_w6.out))))) (by decide) (by decide) (by decide) _).aside (zqa (zqa (zqa (zqa (zqa (HR_w6.out)))))) (by decide) (by decide) (by decide) _)
  clear hw
  clear R0 R1 R2 R3 R4 R5 N0 N1 N2 N3 N4 N5 Rf Nf Rz Nz
  obtain ⟨R0,R1,R2,R3,R4,R5,Rf,Rz⟩:=box6_ HR_w7.out
  obtain ⟨N0,N1,N2,N3,N4,N5,Nf,Nz⟩:=box6_ HN_w7.out
  refine bodyPost_ret (v:=.agg #[.int .i64 (1125899906842624 - y),.int .i64 b.n,.int .i64 b.w,.slice C1 b.cs.length q1,.slice C2 b.hs.length q2,.slice C3 b.os.length q3]) (by simp [results,Tryz.results102,go_sem, *]) rfl ?_
  have hl9:=HLEN.out
  exact ⟨⟨(1125899906842624 - y),b.n,b.w,b.cs,b.hs,b.os⟩,_,_,_,_,_,_,rfl,⟨OW_w7.out.c,OW_w7.out.h,OW_w7.out.o⟩,hl9,HC_w7.out,HG_w7.out⟩
 ·
  cases tl : decide ((1 : Int) < (b.cs.length : Int))
  ·
   go_wp2_with fail
   refine nm_ ?_
   intro w5 hw
   have HC_w5 : Hid (Crs w5 g):=hd_ (by rw [hw];exact ((((((HC_w4.out).set (by have:=HLR.out;omega)).set (by have:=HLR.out;omega)).set (by have:=HLR.out;omega)).set (by have:=HLR.out;omega)).set (by have:=HLR.out;omega)).set (by have:=HLR.out;omega))
   have HG_w5 : Hid (w.grownBy w5 (some g)):=hd_ (by rw [hw];exact zqc (zqc (zqc (zqc (zqc (zqc (HG_w4.out) HLR.out _ _) HLR.out _ _) HLR.out _ _) HLR.out _ _) HLR.out _ _) HLR.out _ _)
   have HR_w5 : Hid (Hx w5 RB (bkC b C1 q1 C2 q2 C3 q3) 39):=hd_ (by rw [hw];exact zqa (zqa (zqa (zqa (zqa (zqa (HR_w4.out)))))))
   have HN_w5 : Hid (Hx w5 NB (bkC b C1 q1 C2 q2 C3 q3) 39):=hd_ (by rw [hw];exact zqb (by first | exact HNNR.out | exact fun e9 => HNRN.out e9.symm) (zqb (by first | exact HNNR.out | exact fun e9 => HNRN.out e9.symm) (zqb (by first | exact HNNR.out | exact fun e9 => HNRN.out e9.symm) (zqb (by first | exact HNNR.out | exact fun e9 => HNRN.out e9.symm) (zqb (by first | exact HNNR.out | exact fun e9 => HNRN.out e9.symm) (zqb (by first | exact HNNR.out | exact fun e9 => HNRN.out e9.symm) (HN_w4.out)))))))
   have OW_w5 : Hid (OwB w5 w.heap.size b C1 C2 C3 q1 q2 q3):=hd_ (by rw [hw];exact ((((((OW_w4.out).aside (HR_w4.out) (by decide) (by decide) (by decide) _).aside (zqa (HR_w4.out)) (by decide) (by decide) (by decide) _).aside (zqa (zqa (HR_w4.out))) (by decide) (by decide) (by decide) _).aside (zqa (zqa (zqa (HR_w4.out)))) (by decide) (by decide) (by decide) _).aside (zqa (zqa (zqa (zqa (HR_w4.out))))) (by decide) (by decide) (by decide) _).aside (zqa (zqa (zqa (zqa (zqa (HR_w4.out)))))) (by decide) (by decide) (by decide) _)
   clear hw
   clear R0 R1 R2 R3 R4 R5 N0 N1 N2 N3 N4 N5 Rf Nf Rz Nz
   obtain ⟨R0,R1,R2,R3,R4,R5,Rf,Rz⟩:=box6_ HR_w5.out
   obtain ⟨N0,N1,N2,N3,N4,N5,Nf,Nz⟩:=box6_ HN_w5.out
   refine bodyPost_ret (v:=.agg #[.int .i64 b.t,.int .i64 b.n,.int .i64 b.w,.slice C1 b.cs.length q1,.slice C2 b.hs.length q2,.slice C3 b.os.length q3]) (by simp [results,Tryz.results102,go_sem, *]) rfl ?_
   exact ⟨_,_,_,_,_,_,_,rfl,OW_w5.out,HLEN.out,HC_w5.out,HG_w5.out⟩
  ·
   have hl1 : 1 < b.cs.length:=by have:=of_decide_eq_true tl;omega
   have hl0 : 0 < b.cs.length:=by omega
   obtain ⟨G,hA,hBG⟩:=OW_w4.out.c.headW (by rw [List.length_map];exact hl0)
   subst hA
   have HLG:=hd_ hBG
   clear hBG
   obtain ⟨c,hc⟩ : ∃ c,b.cs[0] = c:=⟨_,rfl⟩
   have hci : b.cs[0]? = some c:=by rw [List.getElem?_eq_getElem hl0,hc]
   have hr : (b.cs.map Chan.cells)[0]? = some c.cells:=by rw [List.getElem?_map,hci];rfl
   obtain ⟨x0,x1,x2,x3,x4,x5,x6⟩:=c
   have HRow0:=hd_ hr
   clear hr hci hc
   obtain ⟨c,hc⟩ : ∃ c,b.cs[1] = c:=⟨_,rfl⟩
   have hci : b.cs[1]? = some c:=by rw [List.getElem?_eq_getElem hl1,hc]
   have hr : (b.cs.map Chan.cells)[1]? = some c.cells:=by rw [List.getElem?_map,hci];rfl
   obtain ⟨y0,y1,y2,y3,y4,y5,y6⟩:=c
   have HRow1:=hd_ hr
   clear hr hci hc
   clear tl
   have ix1 : (1 : Int) < (b.cs.length : Int):=by omega
   have ix0 : (0 : Int) < (b.cs.length : Int):=by omega
   have r00 : w4.cell? ⟨G,0,none⟩ = some (.int .i64 x0):=by have h9:=OW_w4.out.c.cellAt HRow0.out (j:=0) (by decide);exact h9.trans rfl
   have r01 : w4.cell? ⟨G,1,none⟩ = some (.int .i64 x1):=by have h9:=OW_w4.out.c.cellAt HRow0.out (j:=1) (by decide);exact h9.trans rfl
   have r02 : w4.cell? ⟨G,2,none⟩ = some (.int .i64 x2):=by have h9:=OW_w4.out.c.cellAt HRow0.out (j:=2) (by decide);exact h9.trans rfl
   have r03 : w4.cell? ⟨G,3,none⟩ = some (.int .i64 x3):=by have h9:=OW_w4.out.c.cellAt HRow0.out (j:=3) (by decide);exact h9.trans rfl
   have r04 : w4.cell? ⟨G,4,none⟩ = some (.int .i64 x4):=by have h9:=OW_w4.out.c.cellAt HRow0.out (j:=4) (by decide);exact h9.trans rfl
   have r05 : w4.cell? ⟨G,5,none⟩ = some (.int .i64 x5):=by have h9:=OW_w4.out.c.cellAt HRow0.out (j:=5) (by decide);exact h9.trans rfl
   have r06 : w4.cell? ⟨G,6,none⟩ = some (.int .i64 x6):=by have h9:=OW_w4.out.c.cellAt HRow0.out (j:=6) (by decide);exact h9.trans rfl
   have r10 : w4.cell? ⟨G,7,none⟩ = some (.int .i64 y0):=by have h9:=OW_w4.out.c.cellAt HRow1.out (j:=0) (by decide);exact h9.trans rfl
   have r11 : w4.cell? ⟨G,8,none⟩ = some (.int .i64 y1):=by have h9:=OW_w4.out.c.cellAt HRow1.out (j:=1) (by decide);exact h9.trans rfl
   have r12 : w4.cell? ⟨G,9,none⟩ = some (.int .i64 y2):=by have h9:=OW_w4.out.c.cellAt HRow1.out (j:=2) (by decide);exact h9.trans rfl
   have r13 : w4.cell? ⟨G,10,none⟩ = some (.int .i64 y3):=by have h9:=OW_w4.out.c.cellAt HRow1.out (j:=3) (by decide);exact h9.trans rfl
   have r14 : w4.cell? ⟨G,11,none⟩ = some (.int .i64 y4):=by have h9:=OW_w4.out.c.cellAt HRow1.out (j:=4) (by decide);exact h9.trans rfl
   have r15 : w4.cell? ⟨G,12,none⟩ = some (.int .i64 y5):=by have h9:=OW_w4.out.c.cellAt HRow1.out (j:=5) (by decide);exact h9.trans rfl
   have r16 : w4.cell? ⟨G,13,none⟩ = some (.int .i64 y6):=by have h9:=OW_w4.out.c.cellAt HRow1.out (j:=6) (by decide);exact h9.trans rfl
   go_upto_region 15 with fail
   clear r00 r01 r02 r03 r04 r05 r06 r10 r11 r12 r13 r14 r15 r16
   refine nm_ ?_
   intro w5 hw
   have HC_w5 : Hid (Crs w5 g):=hd_ (by rw [hw];exact (HC_w4.out).alloc _)
   have HG_w5 : Hid (w.grownBy w5 (some g)):=hd_ (by rw [hw];exact zxf (HG_w4.out) _)
   have HR_w5 : Hid (Hx w5 RB #[.int .i64 0,.int .i64 0,.int .i64 0,.slice none 0 0,.slice none 0 0,.slice none 0 0] 39):=hd_ (by rw [hw];exact zqg (by have:=(gz_ HR_w4.out).1;first | omega | (simp;omega)) (HR_w4.out))
   have HN_w5 : Hid (Hx w5 NB (bkC b (some ⟨G,0,none⟩) q1 C2 q2 C3 q3) 39):=hd_ (by rw [hw];exact zqg (by have:=(gz_ HN_w4.out).1;first | omega | (simp;omega)) (HN_w4.out))
   have OW_w5 : Hid (OwB w5 w.heap.size b (some ⟨G,0,none⟩) C2 C3 q1 q2 q3):=hd_ (by rw [hw];exact (OW_w4.out).alloc _)
   obtain ⟨XB,h9X⟩ : ∃ v,v = w4.heap.size:=⟨_,rfl⟩
   have HX_w5 : Hid (Hx w5 XB #[.int .i64 x0,.int .i64 x1,.int .i64 x2,.int .i64 x3,.int .i64 x4,.int .i64 x5,.int .i64 x6] 103):=hd_ (by rw [hw,h9X];exact zqm (by first | rfl | (simp;done)))
   have HLX : Hid (w.heap.size ≤ XB):=hd_ (by have:=HG_w4.out.size;omega)
   have HXG : Hid (XB ≠ G):=hd_ (by have:=(OW_w4.out.c.block G rfl).2;omega)
   try rw [← h9X]
   have HNXR : Hid (XB ≠ RB):=hd_ (by have:=(gz_ HR_w4.out).1;omega)
   have HNXN : Hid (XB ≠ NB):=hd_ (by have:=(gz_ HN_w4.out).1;omega)
   clear hw h9X
   clear R0 R1 R2 R3 R4 R5 N0 N1 N2 N3 N4 N5 Rf Nf Rz Nz
   obtain ⟨R0,R1,R2,R3,R4,R5,Rf,Rz⟩:=box6_ HR_w5.out
   obtain ⟨N0,N1,N2,N3,N4,N5,Nf,Nz⟩:=box6_ HN_w5.out
   obtain ⟨X0,X1,X2,X3,X4,X5,X6,Xf,Xz⟩:=box7_ HX_w5.out
   have r00 : w5.cell? ⟨G,0,none⟩ = some (.int .i64 x0):=by have h9:=OW_w5.out.c.cellAt HRow0.out (j:=0) (by decide);exact h9.trans rfl
   have r01 : w5.cell? ⟨G,1,none⟩ = some (.int .i64 x1):=by have h9:=OW_w5.out.c.cellAt HRow0.out (j:=1) (by decide);exact h9.trans rfl
   have r02 : w5.cell? ⟨G,2,none⟩ = some (.int .i64 x2):=by have h9:=OW_w5.out.c.cellAt HRow0.out (j:=2) (by decide);exact h9.trans rfl
   have r03 : w5.cell? ⟨G,3,none⟩ = some (.int .i64 x3):=by have h9:=OW_w5.out.c.cellAt HRow0.out (j:=3) (by decide);exact h9.trans rfl
   have r04 : w5.cell? ⟨G,4,none⟩ = some (.int .i64 x4):=by have h9:=OW_w5.out.c.cellAt HRow0.out (j:=4) (by decide);exact h9.trans rfl
   have r05 : w5.cell? ⟨G,5,none⟩ = some (.int .i64 x5):=by have h9:=OW_w5.out.c.cellAt HRow0.out (j:=5) (by decide);exact h9.trans rfl
   have r06 : w5.cell? ⟨G,6,none⟩ = some (.int .i64 x6):=by have h9:=OW_w5.out.c.cellAt HRow0.out (j:=6) (by decide);exact h9.trans rfl
   have r10 : w5.cell? ⟨G,7,none⟩ = some (.int .i64 y0):=by have h9:=OW_w5.out.c.cellAt HRow1.out (j:=0) (by decide);exact h9.trans rfl
   have r11 : w5.cell? ⟨G,8,none⟩ = some (.int .i64 y1):=by have h9:=OW_w5.out.c.cellAt HRow1.out (j:=1) (by decide);exact h9.trans rfl
   have r12 : w5.cell? ⟨G,9,none⟩ = some (.int .i64 y2):=by have h9:=OW_w5.out.c.cellAt HRow1.out (j:=2) (by decide);exact h9.trans rfl
   have r13 : w5.cell? ⟨G,10,none⟩ = some (.int .i64 y3):=by have h9:=OW_w5.out.c.cellAt HRow1.out (j:=3) (by decide);exact h9.trans rfl
   have r14 : w5.cell? ⟨G,11,none⟩ = some (.int .i64 y4):=by have h9:=OW_w5.out.c.cellAt HRow1.out (j:=4) (by decide);exact h9.trans rfl
   have r15 : w5.cell? ⟨G,12,none⟩ = some (.int .i64 y5):=by have h9:=OW_w5.out.c.cellAt HRow1.out (j:=5) (by decide);exact h9.trans rfl
   have r16 : w5.cell? ⟨G,13,none⟩ = some (.int .i64 y6):=by have h9:=OW_w5.out.c.cellAt HRow1.out (j:=6) (by decide);exact h9.trans rfl
   refine zxb (fun w' => kqiiisss w' NB b.t b.n b.w (some ⟨G,0,none⟩) b.cs.length q1 C2 b.hs.length q2 C3 b.os.length q3 (kqio w' G 7 y0 (kqio w' G 8 y1 (kqio w' G 9 y2 (kqio w' G 10 y3 (kqio w' G 11 y4 (kqio w' G 12 y5 (kqio_ w' G 13 y6)))))))) [yF 0 66,yF 1 67,yF 2 68,yF 3 69,yF 4 70,yF 5 71,yF 6 72] rfl (by kernel_rfl) (by kernel_rfl) (by kernel_rfl) (by kernel_rfl) (by kernel_rfl) (by kernel_rfl) ⟨N0,N1,N2,N3,N4,N5,r10,r11,r12,r13,r14,r15,r16⟩ (fun hHeld => ?_)
   obtain ⟨w6,hwd⟩ : ∃ wd,w5.drew = wd:=⟨_,rfl⟩
   have HC_w6 : Hid (Crs w6 g):=hd_ (by rw [← hwd];exact HC_w5.out)
   have HG_w6 : Hid (w.grownBy w6 (some g)):=hd_ (by rw [← hwd];exact zjn HG_w5.out)
   have HR_w6 : Hid (Hx w6 RB #[.int .i64 0,.int .i64 0,.int .i64 0,.slice none 0 0,.slice none 0 0,.slice none 0 0] 39):=hd_ (by rw [← hwd];exact zqk HR_w5.out)
   have HN_w6 : Hid (Hx w6 NB (bkC b (some ⟨G,0,none⟩) q1 C2 q2 C3 q3) 39):=hd_ (by rw [← hwd];exact zqk HN_w5.out)
   have HX_w6 : Hid (Hx w6 XB #[.int .i64 x0,.int .i64 x1,.int .i64 x2,.int .i64 x3,.int .i64 x4,.int .i64 x5,.int .i64 x6] 103):=hd_ (by rw [← hwd];exact zqk HX_w5.out)
   have OW_w6 : Hid (OwB w6 w.heap.size b (some ⟨G,0,none⟩) C2 C3 q1 q2 q3):=hd_ (by rw [← hwd];exact OW_w5.out.drew)
   clear R0 R1 R2 R3 R4 R5 N0 N1 N2 N3 N4 N5 X0 X1 X2 X3 X4 X5 X6 Rf Nf Xf Rz Nz Xz
   rw [hwd] at hHeld ⊢
   clear hwd
   obtain ⟨R0,R1,R2,R3,R4,R5,Rf,Rz⟩:=box6_ HR_w6.out
   obtain ⟨N0,N1,N2,N3,N4,N5,Nf,Nz⟩:=box6_ HN_w6.out
   obtain ⟨X0,X1,X2,X3,X4,X5,X6,Xf,Xz⟩:=box7_ HX_w6.out
   refine tk_ ?_
   clear r00 r01 r02 r03 r04 r05 r06 r10 r11 r12 r13 r14 r15 r16
   have r00 : w6.cell? ⟨G,0,none⟩ = some (.int .i64 x0):=by have h9:=OW_w6.out.c.cellAt HRow0.out (j:=0) (by decide);exact h9.trans rfl
   have r01 : w6.cell? ⟨G,1,none⟩ = some (.int .i64 x1):=by have h9:=OW_w6.out.c.cellAt HRow0.out (j:=1) (by decide);exact h9.trans rfl
   have r02 : w6.cell? ⟨G,2,none⟩ = some (.int .i64 x2):=by have h9:=OW_w6.out.c.cellAt HRow0.out (j:=2) (by decide);exact h9.trans rfl
   have r03 : w6.cell? ⟨G,3,none⟩ = some (.int .i64 x3):=by have h9:=OW_w6.out.c.cellAt HRow0.out (j:=3) (by decide);exact h9.trans rfl
   have r04 : w6.cell? ⟨G,4,none⟩ = some (.int .i64 x4):=by have h9:=OW_w6.out.c.cellAt HRow0.out (j:=4) (by decide);exact h9.trans rfl
   have r05 : w6.cell? ⟨G,5,none⟩ = some (.int .i64 x5):=by have h9:=OW_w6.out.c.cellAt HRow0.out (j:=5) (by decide);exact h9.trans rfl
   have r06 : w6.cell? ⟨G,6,none⟩ = some (.int .i64 x6):=by have h9:=OW_w6.out.c.cellAt HRow0.out (j:=6) (by decide);exact h9.trans rfl
   have r10 : w6.cell? ⟨G,7,none⟩ = some (.int .i64 y0):=by have h9:=OW_w6.out.c.cellAt HRow1.out (j:=0) (by decide);exact h9.trans rfl
   have r11 : w6.cell? ⟨G,8,none⟩ = some (.int .i64 y1):=by have h9:=OW_w6.out.c.cellAt HRow1.out (j:=1) (by decide);exact h9.trans rfl
   have r12 : w6.cell? ⟨G,9,none⟩ = some (.int .i64 y2):=by have h9:=OW_w6.out.c.cellAt HRow1.out (j:=2) (by decide);exact h9.trans rfl
   have r13 : w6.cell? ⟨G,10,none⟩ = some (.int .i64 y3):=by have h9:=OW_w6.out.c.cellAt HRow1.out (j:=3) (by decide);exact h9.trans rfl
   have r14 : w6.cell? ⟨G,11,none⟩ = some (.int .i64 y4):=by have h9:=OW_w6.out.c.cellAt HRow1.out (j:=4) (by decide);exact h9.trans rfl
   have r15 : w6.cell? ⟨G,12,none⟩ = some (.int .i64 y5):=by have h9:=OW_w6.out.c.cellAt HRow1.out (j:=5) (by decide);exact h9.trans rfl
   have r16 : w6.cell? ⟨G,13,none⟩ = some (.int .i64 y6):=by have h9:=OW_w6.out.c.cellAt HRow1.out (j:=6) (by decide);exact h9.trans rfl
   have yf:=fun j => OW_w6.out.c.frozenAt j
   refine Sq.done ?_
   intro KK hKK
   go_simp
   refine hKK _ _ (NoPanic.normal ?_)
   clear yf r00 r01 r02 r03 r04 r05 r06 r10 r11 r12 r13 r14 r15 r16
   refine nm_ ?_
   intro w7 hw
   have hw2 : w7 = Go.Proofs.YtdbmkfmenfcbiaaGreat.set7 w6 G (0 * 7) (.int .i64 y0) (.int .i64 y1) (.int .i64 y2) (.int .i64 y3) (.int .i64 y4) (.int .i64 y5) (.int .i64 y6):=hw
   have hg7:=zkv w6 G (0 * 7) (.int .i64 y0) (.int .i64 y1) (.int .i64 y2) (.int .i64 y3) (.int .i64 y4) (.int .i64 y5) (.int .i64 y6)
   rw [← hw2] at hg7
   have HC_w7 : Hid (Crs w7 g):=hd_ (HC_w6.out.grown hg7 (fun k9 e9 => by injection e9 with e9;have:=HLG.out;omega))
   have HG_w7 : Hid (w.grownBy w7 (some g)):=hd_ (zjr HG_w6.out OW_w6.out.c (by simpa [Value.ownBlock] using hg7))
   have HR_w7 : Hid (Hx w7 RB #[.int .i64 0,.int .i64 0,.int .i64 0,.slice none 0 0,.slice none 0 0,.slice none 0 0] 39):=hd_ (zqd hg7 (fun e9 => OW_w6.out.c.ne_ HR_w6.out (by decide) e9) HR_w6.out)
   have HN_w7 : Hid (Hx w7 NB (bkC b (some ⟨G,0,none⟩) q1 C2 q2 C3 q3) 39):=hd_ (zqd hg7 (fun e9 => OW_w6.out.c.ne_ HN_w6.out (by decide) e9) HN_w6.out)
   have HX_w7 : Hid (Hx w7 XB #[.int .i64 x0,.int .i64 x1,.int .i64 x2,.int .i64 x3,.int .i64 x4,.int .i64 x5,.int .i64 x6] 103):=hd_ (zqd hg7 (fun e9 => HXG.out (Option.some.inj e9)) HX_w6.out)
   have OW_w7 : Hid (OwB w7 w.heap.size ⟨b.t,b.n,b.w,b.cs.set 0 ⟨y0,y1,y2,y3,y4,y5,y6⟩,b.hs,b.os⟩ (some ⟨G,0,none⟩) C2 C3 q1 q2 q3):=hd_ (by rw [hw2];exact OW_w6.out.putC7 (c:=⟨y0,y1,y2,y3,y4,y5,y6⟩) (by omega))
   clear hw hw2 hg7
   clear R0 R1 R2 R3 R4 R5 N0 N1 N2 N3 N4 N5 X0 X1 X2 X3 X4 X5 X6 Rf Nf Xf Rz Nz Xz
   obtain ⟨R0,R1,R2,R3,R4,R5,Rf,Rz⟩:=box6_ HR_w7.out
   obtain ⟨N0,N1,N2,N3,N4,N5,Nf,Nz⟩:=box6_ HN_w7.out
   obtain ⟨X0,X1,X2,X3,X4,X5,X6,Xf,Xz⟩:=box7_ HX_w7.out
   have hr1 : (((b.cs.set 0 ⟨y0,y1,y2,y3,y4,y5,y6⟩).map Chan.cells)[1]?) = some (Chan.cells ⟨y0,y1,y2,y3,y4,y5,y6⟩):=by rw [List.map_set,List.getElem?_set_ne (by decide)];exact HRow1.out
   have r10 : w7.cell? ⟨G,7,none⟩ = some (.int .i64 y0):=by have h9:=OW_w7.out.c.cellAt hr1 (j:=0) (by decide);exact h9.trans rfl
   have r11 : w7.cell? ⟨G,8,none⟩ = some (.int .i64 y1):=by have h9:=OW_w7.out.c.cellAt hr1 (j:=1) (by decide);exact h9.trans rfl
   have r12 : w7.cell? ⟨G,9,none⟩ = some (.int .i64 y2):=by have h9:=OW_w7.out.c.cellAt hr1 (j:=2) (by decide);exact h9.trans rfl
   have r13 : w7.cell? ⟨G,10,none⟩ = some (.int .i64 y3):=by have h9:=OW_w7.out.c.cellAt hr1 (j:=3) (by decide);exact h9.trans rfl
   have r14 : w7.cell? ⟨G,11,none⟩ = some (.int .i64 y4):=by have h9:=OW_w7.out.c.cellAt hr1 (j:=4) (by decide);exact h9.trans rfl
   have r15 : w7.cell? ⟨G,12,none⟩ = some (.int .i64 y5):=by have h9:=OW_w7.out.c.cellAt hr1 (j:=5) (by decide);exact h9.trans rfl
   have r16 : w7.cell? ⟨G,13,none⟩ = some (.int .i64 y6):=by have h9:=OW_w7.out.c.cellAt hr1 (j:=6) (by decide);exact h9.trans rfl
   clear hr1
   have yf:=fun j => OW_w7.out.c.frozenAt j
   go_upto_region 21 with fail
   clear yf r10 r11 r12 r13 r14 r15 r16
   refine nm_ ?_
   intro w8 hw
   have hw2 : w8 = Go.Proofs.YtdbmkfmenfcbiaaGreat.set7 w7 G (1 * 7) (.int .i64 x0) (.int .i64 x1) (.int .i64 x2) (.int .i64 x3) (.int .i64 x4) (.int .i64 x5) (.int .i64 x6):=hw
   have hg7:=zkv w7 G (1 * 7) (.int .i64 x0) (.int .i64 x1) (.int .i64 x2) (.int .i64 x3) (.int .i64 x4) (.int .i64 x5) (.int .i64 x6)
   rw [← hw2] at hg7
   have HC_w8 : Hid (Crs w8 g):=hd_ (HC_w7.out.grown hg7 (fun k9 e9 => by injection e9 with e9;have:=HLG.out;omega))
   have HG_w8 : Hid (w.grownBy w8 (some g)):=hd_ (zjr HG_w7.out OW_w7.out.c (by simpa [Value.ownBlock] using hg7))
   have HR_w8 : Hid (Hx w8 RB #[.int .i64 0,.int .i64 0,.int .i64 0,.slice none 0 0,.slice none 0 0,.slice none 0 0] 39):=hd_ (zqd hg7 (fun e9 => OW_w7.out.c.ne_ HR_w7.out (by decide) e9) HR_w7.out)
   have HN_w8 : Hid (Hx w8 NB (bkC b (some ⟨G,0,none⟩) q1 C2 q2 C3 q3) 39):=hd_ (zqd hg7 (fun e9 => OW_w7.out.c.ne_ HN_w7.out (by decide) e9) HN_w7.out)
   have HX_w8 : Hid (Hx w8 XB #[.int .i64 x0,.int .i64 x1,.int .i64 x2,.int .i64 x3,.int .i64 x4,.int .i64 x5,.int .i64 x6] 103):=hd_ (zqd hg7 (fun e9 => HXG.out (Option.some.inj e9)) HX_w7.out)
   have OW_w8 : Hid (OwB w8 w.heap.size ⟨b.t,b.n,b.w,(b.cs.set 0 ⟨y0,y1,y2,y3,y4,y5,y6⟩).set 1 ⟨x0,x1,x2,x3,x4,x5,x6⟩,b.hs,b.os⟩ (some ⟨G,0,none⟩) C2 C3 q1 q2 q3):=hd_ (by rw [hw2];exact OW_w7.out.putC7 (c:=⟨x0,x1,x2,x3,x4,x5,x6⟩) (by simpa using hl1))
   clear hw hw2 hg7
   clear R0 R1 R2 R3 R4 R5 N0 N1 N2 N3 N4 N5 X0 X1 X2 X3 X4 X5 X6 Rf Nf Xf Rz Nz Xz
   obtain ⟨R0,R1,R2,R3,R4,R5,Rf,Rz⟩:=box6_ HR_w8.out
   obtain ⟨N0,N1,N2,N3,N4,N5,Nf,Nz⟩:=box6_ HN_w8.out
   obtain ⟨X0,X1,X2,X3,X4,X5,X6,Xf,Xz⟩:=box7_ HX_w8.out
   go_wp2_with fail
   refine nm_ ?_
   intro w9 hw
   have HC_w9 : Hid (Crs w9 g):=hd_ (by rw [hw];exact ((((((HC_w8.out).set (by have:=HLR.out;omega)).set (by have:=HLR.out;omega)).set (by have:=HLR.out;omega)).set (by have:=HLR.out;omega)).set (by have:=HLR.out;omega)).set (by have:=HLR.out;omega))
   have HG_w9 : Hid (w.grownBy w9 (some g)):=hd_ (by rw [hw];exact zqc (zqc (zqc (zqc (zqc (zqc (HG_w8.out) HLR.out _ _) HLR.out _ _) HLR.out _ _) HLR.out _ _) HLR.out _ _) HLR.out _ _)
   have HR_w9 : Hid (Hx w9 RB (bkC b (some ⟨G,0,none⟩) q1 C2 q2 C3 q3) 39):=hd_ (by rw [hw];exact zqa (zqa (zqa (zqa (zqa (zqa (HR_w8.out)))))))
   have HN_w9 : Hid (Hx w9 NB (bkC b (some ⟨G,0,none⟩) q1 C2 q2 C3 q3) 39):=hd_ (by rw [hw];exact zqb (by first | exact HNNR.out | exact fun e9 => HNRN.out e9.symm) (zqb (by first | exact HNNR.out | exact fun e9 => HNRN.out e9.symm) (zqb (by first | exact HNNR.out | exact fun e9 => HNRN.out e9.symm) (zqb (by first | exact HNNR.out | exact fun e9 => HNRN.out e9.symm) (zqb (by first | exact HNNR.out | exact fun e9 => HNRN.out e9.symm) (zqb (by first | exact HNNR.out | exact fun e9 => HNRN.out e9.symm) (HN_w8.out)))))))
   have HX_w9 : Hid (Hx w9 XB #[.int .i64 x0,.int .i64 x1,.int .i64 x2,.int .i64 x3,.int .i64 x4,.int .i64 x5,.int .i64 x6] 103):=hd_ (by rw [hw];exact zqb (by first | exact HNXR.out | exact fun e9 => HNRX.out e9.symm) (zqb (by first | exact HNXR.out | exact fun e9 => HNRX.out e9.symm) (zqb (by first | exact HNXR.out | exact fun e9 => HNRX.out e9.symm) (zqb (by first | exact HNXR.out | exact fun e9 => HNRX.out e9.symm) (zqb (by first | exact HNXR.out | exact fun e9 => HNRX.out e9.symm) (zqb (by first | exact HNXR.out | exact fun e9 => HNRX.out e9.symm) (HX_w8.out)))))))
   have OW_w9 : Hid (OwB w9 w.heap.size ⟨b.t,b.n,b.w,(b.cs.set 0 ⟨y0,y1,y2,y3,y4,y5,y6⟩).set 1 ⟨x0,x1,x2,x3,x4,x5,x6⟩,b.hs,b.os⟩ (some ⟨G,0,none⟩) C2 C3 q1 q2 q3):=hd_ (by rw [hw];exact ((((((OW_w8.out).aside (HR_w8.out) (by decide) (by decide) (by decide) _).aside (zqa (HR_w8.out)) (by decide) (by decide) (by decide) _).aside (zqa (zqa (HR_w8.out))) (by decide) (by decide) (by decide) _).aside (zqa (zqa (zqa (HR_w8.out)))) (by decide) (by decide) (by decide) _).aside (zqa (zqa (zqa (zqa (HR_w8.out))))) (by decide) (by decide) (by decide) _).aside (zqa (zqa (zqa (zqa (zqa (HR_w8.out)))))) (by decide) (by decide) (by decide) _)
   clear hw
   clear R0 R1 R2 R3 R4 R5 N0 N1 N2 N3 N4 N5 X0 X1 X2 X3 X4 X5 X6 Rf Nf Xf Rz Nz Xz
   obtain ⟨R0,R1,R2,R3,R4,R5,Rf,Rz⟩:=box6_ HR_w9.out
   obtain ⟨N0,N1,N2,N3,N4,N5,Nf,Nz⟩:=box6_ HN_w9.out
   obtain ⟨X0,X1,X2,X3,X4,X5,X6,Xf,Xz⟩:=box7_ HX_w9.out
   refine bodyPost_ret (v:=.agg #[.int .i64 b.t,.int .i64 b.n,.int .i64 b.w,.slice (some ⟨G,0,none⟩) b.cs.length q1,.slice C2 b.hs.length q2,.slice C3 b.os.length q3]) (by simp [results,Tryz.results102,go_sem, *]) rfl ?_
   have hl9:=HLEN.out
   exact ⟨⟨b.t,b.n,b.w,(b.cs.set 0 ⟨y0,y1,y2,y3,y4,y5,y6⟩).set 1 ⟨x0,x1,x2,x3,x4,x5,x6⟩,b.hs,b.os⟩,_,_,_,_,_,_,by first | rfl | (simp only [List.length_set]),OW_w9.out,⟨by simpa using hl9.1,hl9.2.1,hl9.2.2⟩,HC_w9.out,HG_w9.out⟩
 ·
  cases tl : decide (0 < b.os.length)
  ·
   go_wp2_with fail
   refine nm_ ?_
   intro w5 hw
   have HC_w5 : Hid (Crs w5 g):=hd_ (by rw [hw];exact ((((((HC_w4.out).set (by have:=HLR.out;omega)).set (by have:=HLR.out;omega)).set (by have:=HLR.out;omega)).set (by have:=HLR.out;omega)).set (by have:=HLR.out;omega)).set (by have:=HLR.out;omega))
   have HG_w5 : Hid (w.grownBy w5 (some g)):=hd_ (by rw [hw];exact zqc (zqc (zqc (zqc (zqc (zqc (HG_w4.out) HLR.out _ _) HLR.out _ _) HLR.out _ _) HLR.out _ _) HLR.out _ _) HLR.out _ _)
   have HR_w5 : Hid (Hx w5 RB (bkC b C1 q1 C2 q2 C3 q3) 39):=hd_ (by rw [hw];exact zqa (zqa (zqa (zqa (zqa (zqa (HR_w4.out)))))))
   have HN_w5 : Hid (Hx w5 NB (bkC b C1 q1 C2 q2 C3 q3) 39):=hd_ (by rw [hw];exact zqb (by first | exact HNNR.out | exact fun e9 => HNRN.out e9.symm) (zqb (by first | exact HNNR.out | exact fun e9 => HNRN.out e9.symm) (zqb (by first | exact HNNR.out | exact fun e9 => HNRN.out e9.symm) (zqb (by first | exact HNNR.out | exact fun e9 => HNRN.out e9.symm) (zqb (by first | exact HNNR.out | exact fun e9 => HNRN.out e9.symm) (zqb (by first | exact HNNR.out | exact fun e9 => HNRN.out e9.symm) (HN_w4.out)))))))
   have OW_w5 : Hid (OwB w5 w.heap.size b C1 C2 C3 q1 q2 q3):=hd_ (by rw [hw];exact ((((((OW_w4.out).aside (HR_w4.out) (by decide) (by decide) (by decide) _).aside (zqa (HR_w4.out)) (by decide) (by decide) (by decide) _).aside (zqa (zqa (HR_w4.out))) (by decide) (by decide) (by decide) _).aside (zqa (zqa (zqa (HR_w4.out)))) (by decide) (by decide) (by decide) _).aside (zqa (zqa (zqa (zqa (HR_w4.out))))) (by decide) (by decide) (by decide) _).aside (zqa (zqa (zqa (zqa (zqa (HR_w4.out)))))) (by decide) (by decide) (by decide) _)
   clear hw
   clear R0 R1 R2 R3 R4 R5 N0 N1 N2 N3 N4 N5 Rf Nf Rz Nz
   obtain ⟨R0,R1,R2,R3,R4,R5,Rf,Rz⟩:=box6_ HR_w5.out
   obtain ⟨N0,N1,N2,N3,N4,N5,Nf,Nz⟩:=box6_ HN_w5.out
   refine bodyPost_ret (v:=.agg #[.int .i64 b.t,.int .i64 b.n,.int .i64 b.w,.slice C1 b.cs.length q1,.slice C2 b.hs.length q2,.slice C3 b.os.length q3]) (by simp [results,Tryz.results102,go_sem, *]) rfl ?_
   exact ⟨_,_,_,_,_,_,_,rfl,OW_w5.out,HLEN.out,HC_w5.out,HG_w5.out⟩
  ·
   have hl0 : 0 < b.os.length:=by have:=of_decide_eq_true tl;omega
   obtain ⟨G,hA,hBG⟩:=OW_w4.out.o.headW (by rw [List.length_map];exact hl0)
   subst hA
   have HLG:=hd_ hBG
   clear hBG
   obtain ⟨c,hc⟩ : ∃ c,b.os[0] = c:=⟨_,rfl⟩
   have hci : b.os[0]? = some c:=by rw [List.getElem?_eq_getElem hl0,hc]
   have hr : (b.os.map Circle.cells)[0]? = some c.cells:=by rw [List.getElem?_map,hci];rfl
   obtain ⟨y0,y1,y2,y3,y4⟩:=c
   have HRow:=hd_ hr
   have HCI:=hd_ hci
   clear hr hci hc
   go_upto_region 18 with fail
   clear tl
   have ix1 : (0 : Int) < (b.os.length : Int):=by omega
   have yg : w4.cell? ⟨G,1,none⟩ = some (.int .i64 y1):=by have h9:=OW_w4.out.o.cellAt HRow.out (j:=1) (by decide);exact h9.trans rfl
   refine zxb (fun w' => kqiiisss w' NB b.t b.n b.w C1 b.cs.length q1 C2 b.hs.length q2 (some ⟨G,0,none⟩) b.os.length q3 (kqio_ w' G 1 y1)) [yF 0 85,yF 1 86,yF 2 87,yF 3 88,yF 4 89,yF 5 90,yF 6 91,yF 7 92,yF 8 93] rfl (by kernel_rfl) (by kernel_rfl) (by kernel_rfl) (by kernel_rfl) (by kernel_rfl) (by kernel_rfl) ⟨N0,N1,N2,N3,N4,N5,yg⟩ (fun hHeld => ?_)
   obtain ⟨w5,hwd⟩ : ∃ wd,w4.drew = wd:=⟨_,rfl⟩
   have HC_w5 : Hid (Crs w5 g):=hd_ (by rw [← hwd];exact HC_w4.out)
   have HG_w5 : Hid (w.grownBy w5 (some g)):=hd_ (by rw [← hwd];exact zjn HG_w4.out)
   have HR_w5 : Hid (Hx w5 RB #[.int .i64 0,.int .i64 0,.int .i64 0,.slice none 0 0,.slice none 0 0,.slice none 0 0] 39):=hd_ (by rw [← hwd];exact zqk HR_w4.out)
   have HN_w5 : Hid (Hx w5 NB (bkC b C1 q1 C2 q2 (some ⟨G,0,none⟩) q3) 39):=hd_ (by rw [← hwd];exact zqk HN_w4.out)
   have OW_w5 : Hid (OwB w5 w.heap.size b C1 C2 (some ⟨G,0,none⟩) q1 q2 q3):=hd_ (by rw [← hwd];exact OW_w4.out.drew)
   clear R0 R1 R2 R3 R4 R5 N0 N1 N2 N3 N4 N5 Rf Nf Rz Nz
   rw [hwd] at hHeld ⊢
   clear hwd
   obtain ⟨R0,R1,R2,R3,R4,R5,Rf,Rz⟩:=box6_ HR_w5.out
   obtain ⟨N0,N1,N2,N3,N4,N5,Nf,Nz⟩:=box6_ HN_w5.out
   refine tk_ ?_
   clear yg
   have yc : w5.cell? ⟨G,2,none⟩ = some (.int .i64 y2):=by have h9:=OW_w5.out.o.cellAt HRow.out (j:=2) (by decide);exact h9.trans rfl
   have yf:=fun j => OW_w5.out.o.frozenAt j
   refine Sq.done ?_
   intro KK hKK
   go_simp
   refine hKK _ _ (NoPanic.normal ?_)
   clear yc yf
   refine nm_ ?_
   intro w6 hw
   have HC_w6 : Hid (Crs w6 g):=hd_ (by rw [hw];exact HC_w5.out.set (by have:=HLG.out;omega))
   have HG_w6 : Hid (w.grownBy w6 (some g)):=hd_ (by rw [hw];exact zqc HG_w5.out HLG.out _ _)
   have HR_w6 : Hid (Hx w6 RB #[.int .i64 0,.int .i64 0,.int .i64 0,.slice none 0 0,.slice none 0 0,.slice none 0 0] 39):=hd_ (by rw [hw];exact zqb (fun e9 => OW_w5.out.o.ne_ HR_w5.out (by decide) (by rw [e9];rfl)) HR_w5.out)
   have HN_w6 : Hid (Hx w6 NB (bkC b C1 q1 C2 q2 (some ⟨G,0,none⟩) q3) 39):=hd_ (by rw [hw];exact zqb (fun e9 => OW_w5.out.o.ne_ HN_w5.out (by decide) (by rw [e9];rfl)) HN_w5.out)
   have OW_w6 : Hid (OwB w6 w.heap.size ⟨b.t,b.n,b.w,b.cs,b.hs,(b.os.set 0 ⟨y0,y1,y1,y3,y4⟩)⟩ C1 C2 (some ⟨G,0,none⟩) q1 q2 q3):=hd_ (by rw [hw];exact OW_w5.out.putO (j:=2) (c':=⟨y0,y1,y1,y3,y4⟩) HCI.out (by decide) (by decide) rfl)
   clear hw
   clear R0 R1 R2 R3 R4 R5 N0 N1 N2 N3 N4 N5 Rf Nf Rz Nz
   obtain ⟨R0,R1,R2,R3,R4,R5,Rf,Rz⟩:=box6_ HR_w6.out
   obtain ⟨N0,N1,N2,N3,N4,N5,Nf,Nz⟩:=box6_ HN_w6.out
   go_wp2_with fail
   refine nm_ ?_
   intro w7 hw
   have HC_w7 : Hid (Crs w7 g):=hd_ (by rw [hw];exact ((((((HC_w6.out).set (by have:=HLR.out;omega)).set (by have:=HLR.out;omega)).set (by have:=HLR.out;omega)).set (by have:=HLR.out;omega)).set (by have:=HLR.out;omega)).set (by have:=HLR.out;omega))
   have HG_w7 : Hid (w.grownBy w7 (some g)):=hd_ (by rw [hw];exact zqc (zqc (zqc (zqc (zqc (zqc (HG_w6.out) HLR.out _ _) HLR.out _ _) HLR.out _ _) HLR.out _ _) HLR.out _ _) HLR.out _ _)
   have HR_w7 : Hid (Hx w7 RB (bkC b C1 q1 C2 q2 (some ⟨G,0,none⟩) q3) 39):=hd_ (by rw [hw];exact zqa (zqa (zqa (zqa (zqa (zqa (HR_w6.out)))))))
   have HN_w7 : Hid (Hx w7 NB (bkC b C1 q1 C2 q2 (some ⟨G,0,none⟩) q3) 39):=hd_ (by rw [hw];exact zqb (by first | exact HNNR.out | exact fun e9 => HNRN.out e9.symm) (zqb (by first | exact HNNR.out | exact fun e9 => HNRN.out e9.symm) (zqb (by first | exact HNNR.out | exact fun e9 => HNRN.out e9.symm) (zqb (by first | exact HNNR.out | exact fun e9 => HNRN.out e9.symm) (zqb (by first | exact HNNR.out | exact fun e9 => HNRN.out e9.symm) (zqb (by first | exact HNNR.out | exact fun e9 => HNRN.out e9.symm) (HN_w6.out)))))))
   have OW_w7 : Hid (OwB w7 w.heap.size ⟨b.t,b.n,b.w,b.cs,b.hs,(b.os.set 0 ⟨y0,y1,y1,y3,y4⟩)⟩ C1 C2 (some ⟨G,0,none⟩) q1 q2 q3):=hd_ (by rw [hw];exact ((((((OW_w6.out).aside (HR_w6.out) (by decide) (by decide) (by decide) _).aside (zqa (HR_w6.out)) (by decide) (by decide) (by decide) _).aside (zqa (zqa (HR_w6.out))) (by decide) (by decide) (by decide) _).aside (zqa (zqa (zqa (HR_w6.out)))) (by decide) (by decide) (by decide) _).aside (zqa (zqa (zqa (zqa (HR_w6.out))))) (by decide) (by decide) (by decide) _).aside (zqa (zqa (zqa (zqa (zqa (HR_w6.out)))))) (by decide) (by decide) (by decide) _)
   clear hw
   clear R0 R1 R2 R3 R4 R5 N0 N1 N2 N3 N4 N5 Rf Nf Rz Nz
   obtain ⟨R0,R1,R2,R3,R4,R5,Rf,Rz⟩:=box6_ HR_w7.out
   obtain ⟨N0,N1,N2,N3,N4,N5,Nf,Nz⟩:=box6_ HN_w7.out
   refine bodyPost_ret (v:=.agg #[.int .i64 b.t,.int .i64 b.n,.int .i64 b.w,.slice C1 b.cs.length q1,.slice C2 b.hs.length q2,.slice (some ⟨G,0,none⟩) b.os.length q3]) (by simp [results,Tryz.results102,go_sem, *]) rfl ?_
   have hl9:=HLEN.out
   exact ⟨⟨b.t,b.n,b.w,b.cs,b.hs,(b.os.set 0 ⟨y0,y1,y1,y3,y4⟩)⟩,_,_,_,_,_,_,by first | rfl | (simp only [List.length_set]),OW_w7.out,⟨hl9.1,hl9.2.1,by simpa using hl9.2.2⟩,HC_w7.out,HG_w7.out⟩
 ·
  cases tl : decide (0 < b.cs.length)
  ·
   go_wp2_with fail
   refine nm_ ?_
   intro w5 hw
   have HC_w5 : Hid (Crs w5 g):=hd_ (by rw [hw];exact ((((((HC_w4.out).set (by have:=HLR.out;omega)).set (by have:=HLR.out;omega)).set (by have:=HLR.out;omega)).set (by have:=HLR.out;omega)).set (by have:=HLR.out;omega)).set (by have:=HLR.out;omega))
   have HG_w5 : Hid (w.grownBy w5 (some g)):=hd_ (by rw [hw];exact zqc (zqc (zqc (zqc (zqc (zqc (HG_w4.out) HLR.out _ _) HLR.out _ _) HLR.out _ _) HLR.out _ _) HLR.out _ _) HLR.out _ _)
   have HR_w5 : Hid (Hx w5 RB (bkC b C1 q1 C2 q2 C3 q3) 39):=hd_ (by rw [hw];exact zqa (zqa (zqa (zqa (zqa (zqa (HR_w4.out)))))))
   have HN_w5 : Hid (Hx w5 NB (bkC b C1 q1 C2 q2 C3 q3) 39):=hd_ (by rw [hw];exact zqb (by first | exact HNNR.out | exact fun e9 => HNRN.out e9.symm) (zqb (by first | exact HNNR.out | exact fun e9 => HNRN.out e9.symm) (zqb (by first | exact HNNR.out | exact fun e9 => HNRN.out e9.symm) (zqb (by first | exact HNNR.out | exact fun e9 => HNRN.out e9.symm) (zqb (by first | exact HNNR.out | exact fun e9 => HNRN.out e9.symm) (zqb (by first | exact HNNR.out | exact fun e9 => HNRN.out e9.symm) (HN_w4.out)))))))
   have OW_w5 : Hid (OwB w5 w.heap.size b C1 C2 C3 q1 q2 q3):=hd_ (by rw [hw];exact ((((((OW_w4.out).aside (HR_w4.out) (by decide) (by decide) (by decide) _).aside (zqa (HR_w4.out)) (by decide) (by decide) (by decide) _).aside (zqa (zqa (HR_w4.out))) (by decide) (by decide) (by decide) _).aside (zqa (zqa (zqa (HR_w4.out)))) (by decide) (by decide) (by decide) _).aside (zqa (zqa (zqa (zqa (HR_w4.out))))) (by decide) (by decide) (by decide) _).aside (zqa (zqa (zqa (zqa (zqa (HR_w4.out)))))) (by decide) (by decide) (by decide) _)
   clear hw
   clear R0 R1 R2 R3 R4 R5 N0 N1 N2 N3 N4 N5 Rf Nf Rz Nz
   obtain ⟨R0,R1,R2,R3,R4,R5,Rf,Rz⟩:=box6_ HR_w5.out
   obtain ⟨N0,N1,N2,N3,N4,N5,Nf,Nz⟩:=box6_ HN_w5.out
   refine bodyPost_ret (v:=.agg #[.int .i64 b.t,.int .i64 b.n,.int .i64 b.w,.slice C1 b.cs.length q1,.slice C2 b.hs.length q2,.slice C3 b.os.length q3]) (by simp [results,Tryz.results102,go_sem, *]) rfl ?_
   exact ⟨_,_,_,_,_,_,_,rfl,OW_w5.out,HLEN.out,HC_w5.out,HG_w5.out⟩
  ·
   have hl0 : 0 < b.cs.length:=by have:=of_decide_eq_true tl;omega
   obtain ⟨G,hA,hBG⟩:=OW_w4.out.c.headW (by rw [List.length_map];exact hl0)
   subst hA
   have HLG:=hd_ hBG
   clear hBG
   obtain ⟨c,hc⟩ : ∃ c,b.cs[0] = c:=⟨_,rfl⟩
   have hci : b.cs[0]? = some c:=by rw [List.getElem?_eq_getElem hl0,hc]
   have hr : (b.cs.map Chan.cells)[0]? = some c.cells:=by rw [List.getElem?_map,hci];rfl
   obtain ⟨y0,y1,y2,y3,y4,y5,y6⟩:=c
   have HRow:=hd_ hr
   have HCI:=hd_ hci
   clear hr hci hc
   go_upto_region 20 with fail
   clear tl
   have ix1 : (0 : Int) < (b.cs.length : Int):=by omega
   refine zxb (fun w' => kqiiisss_ w' NB b.t b.n b.w (some ⟨G,0,none⟩) b.cs.length q1 C2 b.hs.length q2 C3 b.os.length q3) [yF 0 102,yF 1 103,yF 2 104,yT 3 105,yF 4 106,yF 5 107] rfl (by kernel_rfl) (by kernel_rfl) (by kernel_rfl) (by kernel_rfl) (by kernel_rfl) (by kernel_rfl) ⟨N0,N1,N2,N3,N4,N5⟩ (fun hHeld => ?_)
   obtain ⟨w5,hwd⟩ : ∃ wd,w4.drew = wd:=⟨_,rfl⟩
   have HC_w5 : Hid (Crs w5 g):=hd_ (by rw [← hwd];exact HC_w4.out)
   have HG_w5 : Hid (w.grownBy w5 (some g)):=hd_ (by rw [← hwd];exact zjn HG_w4.out)
   have HR_w5 : Hid (Hx w5 RB #[.int .i64 0,.int .i64 0,.int .i64 0,.slice none 0 0,.slice none 0 0,.slice none 0 0] 39):=hd_ (by rw [← hwd];exact zqk HR_w4.out)
   have HN_w5 : Hid (Hx w5 NB (bkC b (some ⟨G,0,none⟩) q1 C2 q2 C3 q3) 39):=hd_ (by rw [← hwd];exact zqk HN_w4.out)
   have OW_w5 : Hid (OwB w5 w.heap.size b (some ⟨G,0,none⟩) C2 C3 q1 q2 q3):=hd_ (by rw [← hwd];exact OW_w4.out.drew)
   clear R0 R1 R2 R3 R4 R5 N0 N1 N2 N3 N4 N5 Rf Nf Rz Nz
   rw [hwd] at hHeld ⊢
   clear hwd
   obtain ⟨R0,R1,R2,R3,R4,R5,Rf,Rz⟩:=box6_ HR_w5.out
   obtain ⟨N0,N1,N2,N3,N4,N5,Nf,Nz⟩:=box6_ HN_w5.out
   refine tk_ ?_
   refine Sq.step rfl (by rfl) (fun K hK => ?_)
   go_simp
   refine (zpi g _ HC_w5.out).mono ?_
   rintro e' w6 ⟨z,z1,z2,rfl,hcn,hg⟩
   have HC_w6:=hd_ hcn
   have HG_w6:=hd_ (zql HG_w5.out hg)
   have HR_w6:=hd_ (zqd hg (zqy (by have:=HLR.out;omega)) HR_w5.out)
   have HN_w6:=hd_ (zqd hg (zqy (by have:=HLN.out;omega)) HN_w5.out)
   have OW_w6:=hd_ (OW_w5.out.pastL hg hgw)
   clear hcn hg
   clear R0 R1 R2 R3 R4 R5 N0 N1 N2 N3 N4 N5 Rf Nf Rz Nz
   obtain ⟨R0,R1,R2,R3,R4,R5,Rf,Rz⟩:=box6_ HR_w6.out
   obtain ⟨N0,N1,N2,N3,N4,N5,Nf,Nz⟩:=box6_ HN_w6.out
   go_simp
   refine hK.out _ _ ⟨N0,N1,N2,N3,N4,N5⟩ (fun hHeld => ?_)
   clear hK K
   refine tk_ ?_
   have yc : w6.cell? ⟨G,6,none⟩ = some (.int .i64 y6):=by have h9:=OW_w6.out.c.cellAt HRow.out (j:=6) (by decide);exact h9.trans rfl
   have yf:=fun j => OW_w6.out.c.frozenAt j
   refine Sq.done ?_
   intro KK hKK
   go_simp
   refine hKK _ _ (NoPanic.normal ?_)
   clear yc yf
   refine nm_ ?_
   intro w7 hw
   have HC_w7 : Hid (Crs w7 g):=hd_ (by rw [hw];exact HC_w6.out.set (by have:=HLG.out;omega))
   have HG_w7 : Hid (w.grownBy w7 (some g)):=hd_ (by rw [hw];exact zqc HG_w6.out HLG.out _ _)
   have HR_w7 : Hid (Hx w7 RB #[.int .i64 0,.int .i64 0,.int .i64 0,.slice none 0 0,.slice none 0 0,.slice none 0 0] 39):=hd_ (by rw [hw];exact zqb (fun e9 => OW_w6.out.c.ne_ HR_w6.out (by decide) (by rw [e9];rfl)) HR_w6.out)
   have HN_w7 : Hid (Hx w7 NB (bkC b (some ⟨G,0,none⟩) q1 C2 q2 C3 q3) 39):=hd_ (by rw [hw];exact zqb (fun e9 => OW_w6.out.c.ne_ HN_w6.out (by decide) (by rw [e9];rfl)) HN_w6.out)
   have OW_w7 : Hid (OwB w7 w.heap.size ⟨b.t,b.n,b.w,(b.cs.set 0 ⟨y0,y1,y2,y3,y4,y5,z⟩),b.hs,b.os⟩ (some ⟨G,0,none⟩) C2 C3 q1 q2 q3):=hd_ (by rw [hw];exact OW_w6.out.putC (j:=6) (c':=⟨y0,y1,y2,y3,y4,y5,z⟩) HCI.out (by decide) (by decide) rfl)
   clear hw
   clear R0 R1 R2 R3 R4 R5 N0 N1 N2 N3 N4 N5 Rf Nf Rz Nz
   obtain ⟨R0,R1,R2,R3,R4,R5,Rf,Rz⟩:=box6_ HR_w7.out
   obtain ⟨N0,N1,N2,N3,N4,N5,Nf,Nz⟩:=box6_ HN_w7.out
   go_wp2_with fail
   refine nm_ ?_
   intro w8 hw
   have HC_w8 : Hid (Crs w8 g):=hd_ (by rw [hw];exact ((((((HC_w7.out).set (by have:=HLR.out;omega)).set (by have:=HLR.out;omega)).set (by have:=HLR.out;omega)).set (by have:=HLR.out;omega)).set (by have:=HLR.out;omega)).set (by have:=HLR.out;omega))
   have HG_w8 : Hid (w.grownBy w8 (some g)):=hd_ (by rw [hw];exact zqc (zqc (zqc (zqc (zqc (zqc (HG_w7.out) HLR.out _ _) HLR.out _ _) HLR.out _ _) HLR.out _ _) HLR.out _ _) HLR.out _ _)
   have HR_w8 : Hid (Hx w8 RB (bkC b (some ⟨G,0,none⟩) q1 C2 q2 C3 q3) 39):=hd_ (by rw [hw];exact zqa (zqa (zqa (zqa (zqa (zqa (HR_w7.out)))))))
   have HN_w8 : Hid (Hx w8 NB (bkC b (some ⟨G,0,none⟩) q1 C2 q2 C3 q3) 39):=hd_ (by rw [hw];exact zqb (by first | exact HNNR.out | exact fun e9 => HNRN.out e9.symm) (zqb (by first | exact HNNR.out | exact fun e9 => HNRN.out e9.symm) (zqb (by first | exact HNNR.out | exact fun e9 => HNRN.out e9.symm) (zqb (by first | exact HNNR.out | exact fun e9 => HNRN.out e9.symm) (zqb (by first | exact HNNR.out | exact fun e9 => HNRN.out e9.symm) (zqb (by first | exact HNNR.out | exact fun e9 => HNRN.out e9.symm) (HN_w7.out)))))))
   have OW_w8 : Hid (OwB w8 w.heap.size ⟨b.t,b.n,b.w,(b.cs.set 0 ⟨y0,y1,y2,y3,y4,y5,z⟩),b.hs,b.os⟩ (some ⟨G,0,none⟩) C2 C3 q1 q2 q3):=hd_ (by rw [hw];exact ((((((OW_w7.out).aside (HR_w7.out) (by decide) (by decide) (by decide) _).aside (zqa (HR_w7.out)) (by decide) (by decide) (by decide) _).aside (zqa (zqa (HR_w7.out))) (by decide) (by decide) (by decide) _).aside (zqa (zqa (zqa (HR_w7.out)))) (by decide) (by decide) (by decide) _).aside (zqa (zqa (zqa (zqa (HR_w7.out))))) (by decide) (by decide) (by decide) _).aside (zqa (zqa (zqa (zqa (zqa (HR_w7.out)))))) (by decide) (by decide) (by decide) _)
   clear hw
   clear R0 R1 R2 R3 R4 R5 N0 N1 N2 N3 N4 N5 Rf Nf Rz Nz
   obtain ⟨R0,R1,R2,R3,R4,R5,Rf,Rz⟩:=box6_ HR_w8.out
   obtain ⟨N0,N1,N2,N3,N4,N5,Nf,Nz⟩:=box6_ HN_w8.out
   refine bodyPost_ret (v:=.agg #[.int .i64 b.t,.int .i64 b.n,.int .i64 b.w,.slice (some ⟨G,0,none⟩) b.cs.length q1,.slice C2 b.hs.length q2,.slice C3 b.os.length q3]) (by simp [results,Tryz.results102,go_sem, *]) rfl ?_
   have hl9:=HLEN.out
   exact ⟨⟨b.t,b.n,b.w,(b.cs.set 0 ⟨y0,y1,y2,y3,y4,y5,z⟩),b.hs,b.os⟩,_,_,_,_,_,_,by first | rfl | (simp only [List.length_set]),OW_w8.out,⟨by simpa using hl9.1,hl9.2.1,hl9.2.2⟩,HC_w8.out,HG_w8.out⟩
 ·
  have t0 : (k == 0) = false:=by rw [beq_eq_false_iff_ne];omega
  have t1 : (k == 1) = false:=by rw [beq_eq_false_iff_ne];omega
  have t2 : (k == 2) = false:=by rw [beq_eq_false_iff_ne];omega
  have t3 : (k == 3) = false:=by rw [beq_eq_false_iff_ne];omega
  have t4 : (k == 4) = false:=by rw [beq_eq_false_iff_ne];omega
  have t5 : (k == 5) = false:=by rw [beq_eq_false_iff_ne];omega
  have t6 : (k == 6) = false:=by rw [beq_eq_false_iff_ne];omega
  have t7 : (k == 7) = false:=by rw [beq_eq_false_iff_ne];omega
  go_wp2_with fail
  refine nm_ ?_
  intro w5 hw
  have HC_w5 : Hid (Crs w5 g):=hd_ (by rw [hw];exact ((((((HC_w4.out).set (by have:=HLR.out;omega)).set (by have:=HLR.out;omega)).set (by have:=HLR.out;omega)).set (by have:=HLR.out;omega)).set (by have:=HLR.out;omega)).set (by have:=HLR.out;omega))
  have HG_w5 : Hid (w.grownBy w5 (some g)):=hd_ (by rw [hw];exact zqc (zqc (zqc (zqc (zqc (zqc (HG_w4.out) HLR.out _ _) HLR.out _ _) HLR.out _ _) HLR.out _ _) HLR.out _ _) HLR.out _ _)
  have HR_w5 : Hid (Hx w5 RB (bkC b C1 q1 C2 q2 C3 q3) 39):=hd_ (by rw [hw];exact zqa (zqa (zqa (zqa (zqa (zqa (HR_w4.out)))))))
  have HN_w5 : Hid (Hx w5 NB (bkC b C1 q1 C2 q2 C3 q3) 39):=hd_ (by rw [hw];exact zqb (by first | exact HNNR.out | exact fun e9 => HNRN.out e9.symm) (zqb (by first | exact HNNR.out | exact fun e9 => HNRN.out e9.symm) (zqb (by first | exact HNNR.out | exact fun e9 => HNRN.out e9.symm) (zqb (by first | exact HNNR.out | exact fun e9 => HNRN.out e9.symm) (zqb (by first | exact HNNR.out | exact fun e9 => HNRN.out e9.symm) (zqb (by first | exact HNNR.out | exact fun e9 => HNRN.out e9.symm) (HN_w4.out)))))))
  have OW_w5 : Hid (OwB w5 w.heap.size b C1 C2 C3 q1 q2 q3):=hd_ (by rw [hw];exact ((((((OW_w4.out).aside (HR_w4.out) (by decide) (by decide) (by decide) _).aside (zqa (HR_w4.out)) (by decide) (by decide) (by decide) _).aside (zqa (zqa (HR_w4.out))) (by decide) (by decide) (by decide) _).aside (zqa (zqa (zqa (HR_w4.out)))) (by decide) (by decide) (by decide) _).aside (zqa (zqa (zqa (zqa (HR_w4.out))))) (by decide) (by decide) (by decide) _).aside (zqa (zqa (zqa (zqa (zqa (HR_w4.out)))))) (by decide) (by decide) (by decide) _)
  clear hw
  clear R0 R1 R2 R3 R4 R5 N0 N1 N2 N3 N4 N5 Rf Nf Rz Nz
  obtain ⟨R0,R1,R2,R3,R4,R5,Rf,Rz⟩:=box6_ HR_w5.out
  obtain ⟨N0,N1,N2,N3,N4,N5,Nf,Nz⟩:=box6_ HN_w5.out
  refine bodyPost_ret (v:=.agg #[.int .i64 b.t,.int .i64 b.n,.int .i64 b.w,.slice C1 b.cs.length q1,.slice C2 b.hs.length q2,.slice C3 b.os.length q3]) (by simp [results,Tryz.results102,go_sem, *]) rfl ?_
  exact ⟨_,_,_,_,_,_,_,rfl,OW_w5.out,HLEN.out,HC_w5.out,HG_w5.out⟩
end Go.Proofs.YtdbmkfmenfcbiaaGreat
