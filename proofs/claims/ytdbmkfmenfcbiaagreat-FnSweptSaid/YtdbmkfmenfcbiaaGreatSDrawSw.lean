/- Draws: a book and an age. -/
import Derived.Test.YtdbmkfmenfcbiaaGreatRows
import Derived.Test.YtdbmkfmenfcbiaaGreatSDrawAg
import Derived.Test.YtdbmkfmenfcbiaaGreatSM1
namespace Go.Proofs.YtdbmkfmenfcbiaaGreat
open Go.RowKit Go.Deep
theorem Ow.pastG {w w' : World} {B n g : Nat} {e : TypeId} {v : Value} {rows : List (List Value)} (h : Ow w B e n v rows) (hgB : g < B) (hg : w.grownBy w' (some g)) : Ow w' B e n v rows:=by
 refine h.grown hg ?_
 cases hv : v.ownBlock with
 | none => exact .inl rfl
 | some k =>
  refine .inr (fun e => ?_)
  have h1:=(h.block k hv).1
  injection e with e
  omega
theorem OwB.pastG {w w' : World} {B g : Nat} {b : Bk} {C1 C2 C3 : Option Addr} {q1 q2 q3 : Nat} (h : OwB w B b C1 C2 C3 q1 q2 q3) (hgB : g < B) (hg : w.grownBy w' (some g)) : OwB w' B b C1 C2 C3 q1 q2 q3:=⟨h.c.pastG hgB hg,h.h.pastG hgB hg,h.o.pastG hgB hg⟩
theorem OwB.box {w w' : World} {B X : Nat} {b : Bk} {C1 C2 C3 : Option Addr} {q1 q2 q3 : Nat} {cs : Array Value} (h : OwB w B b C1 C2 C3 q1 q2 q3) (hx : w.heap[X]? = some (.cells cs 39 (0,0))) (hg : w.grownBy w' (some X)) : OwB w' B b C1 C2 C3 q1 q2 q3:=⟨h.c.grown hg (Or.inr (h.c.ne_ hx (by decide)).symm),h.h.grown hg (Or.inr (h.h.ne_ hx (by decide)).symm),h.o.grown hg (Or.inr (h.o.ne_ hx (by decide)).symm)⟩
theorem Crs.bookBox {w w' : World} {g R : Nat} {t : TypeId} (h : Crs w g) (hR : w.heap[R]? = some (.cells #[.int .i64 0,.int .i64 0,.int .i64 0,.slice none 0 0,.slice none 0 0,.slice none 0 0] t (0,0))) (hne : R ≠ g) (hg : w.grownBy w' (some R)) : Crs w' g:=by
 have hlt:=h.lt
 obtain ⟨A,n,cap,i,x,h1,h2,zs,k1,k2,k3,k4,k5⟩:=h
 refine ⟨A,n,cap,i,x,h1,zqd hg (fun e => hne (Option.some.inj e).symm) h2,zs,k1,k2,k3,k4,k5.1,fun hn => ?_⟩
 obtain ⟨b,off,e,hb,hc⟩:=k5.2 hn
 refine ⟨b,off,e,hb,fun i r j u hr hu => ?_⟩
 have hcell:=hc i r j u hr hu
 have hbR : b ≠ R:=by
  rintro rfl
  obtain ⟨z,hz,rfl⟩ : ∃ z,z ∈ zs∧byteC z = r:=List.mem_map.1 (List.mem_of_getElem? hr)
  have hu2 : u = .int .u8 z:=by
   match j,hu with
   | 0,hu => simpa [byteC] using hu.symm
   | j + 1,hu => simp [byteC] at hu
  rw [zqf hR,hu2] at hcell
  generalize off + i * 1 + j = k at hcell
  rcases k with _ | _ | _ | _ | _ | _ | k <;> simp at hcell
 rw [← hcell]
 exact World.cell?_of_block (a:=⟨b,off + i * 1 + j,none⟩) (hg.block b (by omega) (fun e => hbR (Option.some.inj e)))
def DrewSw (w : World) (e : Ending) (w' : World) : Prop:=∃ (b : Bk) (age : Int) (C1 C2 C3 : Option Addr) (q1 q2 q3 : Nat),e = .returned (.tuple #[.agg #[.int .i64 b.t,.int .i64 b.n,.int .i64 b.w,.slice C1 b.cs.length q1,.slice C2 b.hs.length q2,.slice C3 b.os.length q3],.int .i64 age])∧OwB w' w.heap.size b C1 C2 C3 q1 q2 q3∧LenOk b∧(-9223372036854775808 ≤ age∧age ≤ 9223372036854775807)∧Below w.heap.size w w'
theorem s_l21Age (g : Nat) (w : World) (hc : Crs w g) :
  Calls Tryz.prog 54 #[.pointer (some ⟨g,0,none⟩)] w (DrewI g w (-9223372036854775808) 9223372036854775807):=by
 have hgw:=hc.lt
 have HC_w:=hd_ hc
 have HG_w:=hd_ (World.grownBy.refl w (some g))
 clear hc
 go_enter Tryz.func54,Tryz.ntmps54
 go_wp2_with fail
 refine (zqp g 9 _ HC_w.out (by first | decide | omega) (by first | decide | omega)).mono ?_
 rintro e' w1 ⟨x,x1,x2,rfl,hcn,hg⟩
 have HC_w1:=hd_ hcn
 have HG_w1:=hd_ (zql HG_w.out hg)
 clear hcn hg
 cases t0 : (x == 0)
 ·
  go_wp2_with fail
  refine (zqp g 5 _ HC_w1.out (by first | decide | omega) (by first | decide | omega)).mono ?_
  rintro e' w2 ⟨k,k1,k2,rfl,hcn,hg⟩
  have HC_w2:=hd_ hcn
  have HG_w2:=hd_ (zql HG_w1.out hg)
  clear hcn hg
  go_wp2_with fail
  go_ret
  exact ⟨_,by omega,by omega,rfl,HC_w2.out,HG_w2.out⟩
 ·
  go_wp2_with fail
  refine (zvb g _ HC_w1.out).mono ?_
  rintro e' w2 ⟨k,k1,k2,rfl,hcn,hg⟩
  have HC_w2:=hd_ hcn
  have HG_w2:=hd_ (zql HG_w1.out hg)
  clear hcn hg
  go_wp2_with fail
  go_ret
  exact ⟨_,by omega,by omega,rfl,HC_w2.out,HG_w2.out⟩
set_option maxRecDepth 100000 in
set_option maxHeartbeats 2000000 in
theorem ztw (A : Option Addr) (n cap : Nat) (w : World) (hc : Code w w.heap.size A n cap) :
  Calls Tryz.prog 22 #[.slice A n cap] w (DrewSw w):=by
 obtain ⟨R,hR⟩ : ∃ R,R = w.heap.size:=⟨_,rfl⟩
 have HSR:=hd_ hR
 rw [← hR] at hc
 go_enter Tryz.func22,Tryz.ntmps22
 go_wp2_with fail
 refine zja (fun v hw => ?_)
 rw [← hR]
 have r0 : v.heap[R]? = some (.cells #[.int .i64 0,.int .i64 0,.int .i64 0,.slice none 0 0,.slice none 0 0,.slice none 0 0] 39 (0,0)):=by rw [hw,hR];exact zqm (by first | rfl | (simp;done))
 have z0 : v.heap.size = R + 1:=by rw [hw,hR];simp
 have b0 : Below R w v:=by rw [hw,hR];exact (Below.refl _ _).alloc (Nat.le_refl _) _
 clear hw hR
 refine (s_l01New A n cap _ ((hc.below b0).more (by omega))).mono ?_
 rintro e w1 ⟨rfl,hc1,hb1,z1⟩
 obtain ⟨g,hg⟩ : ∃ g,g = v.heap.size:=⟨_,rfl⟩
 rw [← hg] at hc1 hb1 z1 ⊢
 have r1:=zqe hb1 (by omega : R < g) r0
 have b1 : Below R w w1:=b0.trans (Below.mono hb1 (by omega))
 have hRg : R < g:=by omega
 have hRw : g < w1.heap.size:=by omega
 clear r0 b0 hb1 hc z0 z1 hg
 go_wp2_with fail
 refine (zsg g _ hc1).mono ?_
 rintro e w2 ⟨b,C1,C2,C3,q1,q2,q3,rfl,hob,hlen,hc2,hg2⟩
 have hs2:=hg2.size
 have HR_w2:=hd_ (zqd hg2 (zqy (by omega)) r1)
 have HB_w2 : Hid (Below R w w2):=hd_ (b1.grown hg2 (by omega) (fun k e => by cases e;omega))
 obtain ⟨B1,hB1⟩ : ∃ v,v = w1.heap.size:=⟨_,rfl⟩
 have hgB : g < B1:=by omega
 have hRB : R < B1:=by omega
 rw [← hB1] at hob
 have OW_w2:=hd_ hob
 have HC_w2:=hd_ hc2
 have HZ : Hid (g < w2.heap.size∧R < w2.heap.size∧B1 ≤ w2.heap.size):=hd_ ⟨by omega,by omega,by omega⟩
 clear r1 b1 hob hc1 hc2 hg2 hs2 hB1 hRw
 go_upto_region 3 with fail
 refine nm_ ?_
 intro w3 hw
 obtain ⟨NB,hN⟩ : ∃ v,v = w2.heap.size:=⟨_,rfl⟩
 have hz:=HZ.out
 have HR_w3 : Hid (Hx w3 R #[.int .i64 0,.int .i64 0,.int .i64 0,.slice none 0 0,.slice none 0 0,.slice none 0 0] 39):=hd_ (by rw [hw];exact zqg (by omega) HR_w2.out)
 have HN_w3 : Hid (Hx w3 NB (bkC b C1 q1 C2 q2 C3 q3) 39):=hd_ (by rw [hw,hN];exact zqm (by first | rfl | (simp;done)))
 have OW_w3 : Hid (OwB w3 B1 b C1 C2 C3 q1 q2 q3):=hd_ (by rw [hw];exact OW_w2.out.alloc _)
 have HB_w3 : Hid (Below R w w3):=hd_ (by rw [hw];exact HB_w2.out.alloc (by omega) _)
 have HC_w3 : Hid (Crs w3 g):=hd_ (by rw [hw];exact HC_w2.out.alloc _)
 have HNE : Hid (R ≠ NB∧g ≠ NB∧R ≠ g):=hd_ ⟨by omega,by omega,by omega⟩
 try rw [← hN]
 clear hw hN hz HR_w2 OW_w2 HB_w2 HC_w2 HZ
 obtain ⟨N0,N1,N2,N3,N4,N5,-,-⟩:=box6_ HN_w3.out
 refine zqw (fun w' => kqiiisss_ w' NB b.t b.n b.w C1 b.cs.length q1 C2 b.hs.length q2 C3 b.os.length q3) [yF 0 10,yF 1 11,yT 2 12,yN 3,yF 4 3] (by kernel_rfl) (by kernel_rfl) (by kernel_rfl) ⟨N0,N1,N2,N3,N4,N5⟩ (fun hHeld => ?_)
 obtain ⟨w4,hwd⟩ : ∃ wd,w3.drew = wd:=⟨_,rfl⟩
 have HR_w4 : Hid (Hx w4 R #[.int .i64 0,.int .i64 0,.int .i64 0,.slice none 0 0,.slice none 0 0,.slice none 0 0] 39):=hd_ (by rw [← hwd];exact zqk HR_w3.out)
 have HN_w4 : Hid (Hx w4 NB (bkC b C1 q1 C2 q2 C3 q3) 39):=hd_ (by rw [← hwd];exact zqk HN_w3.out)
 have OW_w4 : Hid (OwB w4 B1 b C1 C2 C3 q1 q2 q3):=hd_ (by rw [← hwd];exact OW_w3.out.drew)
 have HB_w4 : Hid (Below R w w4):=hd_ (by rw [← hwd];exact HB_w3.out.drew)
 have HC_w4 : Hid (Crs w4 g):=hd_ (by rw [← hwd];exact HC_w3.out)
 clear N0 N1 N2 N3 N4 N5
 rw [hwd] at hHeld ⊢
 clear hwd HR_w3 HN_w3 OW_w3 HB_w3 HC_w3
 obtain ⟨N0,N1,N2,N3,N4,N5,-,-⟩:=box6_ HN_w4.out
 refine tk_ ?_
 refine Sq.step rfl (by rfl) (fun K hK => ?_)
 go_simp
 refine (s_l21Age g _ HC_w4.out).mono ?_
 rintro e' w5 ⟨age,a1,a2,rfl,hcn,hg⟩
 have HR_w5 : Hid (Hx w5 R #[.int .i64 0,.int .i64 0,.int .i64 0,.slice none 0 0,.slice none 0 0,.slice none 0 0] 39):=hd_ (zqd hg (zqy HNE.out.2.2) HR_w4.out)
 have HN_w5 : Hid (Hx w5 NB (bkC b C1 q1 C2 q2 C3 q3) 39):=hd_ (zqd hg (zqy HNE.out.2.1.symm) HN_w4.out)
 have OW_w5:=hd_ (OW_w4.out.pastG hgB hg)
 have HB_w5 : Hid (Below R w w5):=hd_ (HB_w4.out.grown hg (Nat.le_of_lt (gz_ HR_w4.out).1) (fun k e => by cases e;omega))
 have HC_w5:=hd_ hcn
 clear hcn hg
 clear N0 N1 N2 N3 N4 N5
 obtain ⟨N0,N1,N2,N3,N4,N5,-,-⟩:=box6_ HN_w5.out
 go_simp
 refine hK.out _ _ ⟨N0,N1,N2,N3,N4,N5⟩ (fun hHeld => ?_)
 clear hK K
 try refine tk_ ?_
 have fR:=zqo HR_w5.out
 obtain ⟨Q0,Q1,Q2,Q3,Q4,Q5,-,-⟩:=box6_ HR_w5.out
 refine Sq.step rfl (by rfl) (fun K hK => ?_)
 go_simp
 refine zjc (fun w6 hw => ?_)
 have hg9 : w5.grownBy w6 (some R):=by rw [hw];exact zqh (zqh (zqh (zqh (zqh (zqh (World.grownBy.refl w5 (some R)) _ _) _ _) _ _) _ _) _ _) _ _
 have HR_w6 : Hid (Hx w6 R (bkC b C1 q1 C2 q2 C3 q3) 39):=hd_ (by rw [hw];exact zqa (zqa (zqa (zqa (zqa (zqa (HR_w5.out)))))))
 have HN_w6 : Hid (Hx w6 NB (bkC b C1 q1 C2 q2 C3 q3) 39):=hd_ (zqd hg9 (zqy HNE.out.1.symm) HN_w5.out)
 have OW_w6 : Hid (OwB w6 B1 b C1 C2 C3 q1 q2 q3):=hd_ (OW_w5.out.box HR_w5.out hg9)
 have HB_w6 : Hid (Below R w w6):=hd_ (HB_w5.out.grown hg9 (Nat.le_of_lt (gz_ HR_w5.out).1) (fun k e => by cases e;omega))
 have HC_w6 : Hid (Crs w6 g):=hd_ (HC_w5.out.bookBox HR_w5.out HNE.out.2.2 hg9)
 clear hw hg9 fR Q0 Q1 Q2 Q3 Q4 Q5
 clear N0 N1 N2 N3 N4 N5
 obtain ⟨N0,N1,N2,N3,N4,N5,-,-⟩:=box6_ HN_w6.out
 go_simp
 refine hK.out _ _ ⟨N0,N1,N2,N3,N4,N5⟩ (fun hHeld => ?_)
 clear hK K
 try refine tk_ ?_
 refine Sq.done (NoPanic.normal ?_)
 go_wp2_with fail
 clear N0 N1 N2 N3 N4 N5
 obtain ⟨R0,R1,R2,R3,R4,R5,-,-⟩:=box6_ HR_w6.out
 refine bodyPost_ret (v:=.tuple #[.agg #[.int .i64 b.t,.int .i64 b.n,.int .i64 b.w,.slice C1 b.cs.length q1,.slice C2 b.hs.length q2,.slice C3 b.os.length q3],.int .i64 age]) (by simp [results,Tryz.results22,go_sem,R0,R1,R2,R3,R4,R5]) rfl ⟨b,age,C1,C2,C3,q1,q2,q3,rfl,?_,hlen,⟨a1,a2⟩,?_⟩
 ·
  rw [← HSR.out];exact OW_w6.out.more (by omega)
 ·
  rw [← HSR.out];exact HB_w6.out
end Go.Proofs.YtdbmkfmenfcbiaaGreat
