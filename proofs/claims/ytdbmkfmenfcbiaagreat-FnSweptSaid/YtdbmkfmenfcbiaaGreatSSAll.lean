/- Events are applied one after the other: the reference's walk. -/
import Derived.Test.YtdbmkfmenfcbiaaGreatRows
import Derived.Test.YtdbmkfmenfcbiaaGreatSSApply
import Derived.Test.YtdbmkfmenfcbiaaGreatSM1
namespace Go.Proofs.YtdbmkfmenfcbiaaGreat
open Go.RowKit Go.Deep
def LenOk (b : Bk) : Prop:=b.cs.length ≤ 21∧b.hs.length ≤ 61∧b.os.length ≤ 21
theorem LenOk.zero : LenOk bk0:=⟨by decide,by decide,by decide⟩
theorem zya {b : Bk} (h : b.ok = true) : LenOk b:=by
 have hF:=zxp h
 exact ⟨Nat.le_trans hF.cl (by decide),Nat.le_trans hF.small.hl (by decide),Nat.le_trans hF.small.ol (by decide)⟩
theorem insC_len (c : Chan) (cs : List Chan) : (insC c cs).length = cs.length + 1:=by
 unfold insC
 rw [List.length_append,List.length_cons]
 have h:=congrArg List.length (List.takeWhile_append_dropWhile (p:=fun x : Chan => decide (x.Id < c.Id)) (l:=cs))
 rw [List.length_append] at h
 omega
theorem zwz (cs : List Chan) (ch : Int) (f : Chan → Chan) : (setCh cs ch f).length = cs.length:=List.length_modify ..
theorem zsj {b : Bk} {e : Event} (h : b.ok = true) : LenOk (stepS b e).b:=by
 have hF:=zxp h
 have h1:=hF.cl
 have h2:=hF.small.hl
 have h3:=hF.small.ol
 have z : LenOk bk0:=LenOk.zero
 have hb : LenOk b:=zya h
 have fh : ∀ p : Htlc → Bool,(b.hs.filter p).length ≤ 61:=fun p => Nat.le_trans (List.length_filter_le _ _) (by omega)
 have fo : ∀ p : Circle → Bool,(b.os.filter p).length ≤ 21:=fun p => Nat.le_trans (List.length_filter_le _ _) (by omega)
 have fc : ∀ p : Chan → Bool,(b.cs.filter p).length ≤ 21:=fun p => Nat.le_trans (List.length_filter_le _ _) (by omega)
 unfold stepS
 split
 ·
  unfold depB;split
  ·
   exact z
  ·
   exact hb
 split
 ·
  unfold openB;(repeat' split) <;> first | exact z | exact ⟨by simp only [done,insC_len];omega,hb.2⟩
 split
 ·
  unfold closeA closeB;(repeat' split) <;> first | exact z | exact ⟨fc _,hb.2⟩
 split
 ·
  unfold priceB;(repeat' split) <;> first | exact z | exact ⟨by simp only [done,zwz];omega,hb.2⟩
 split
 ·
  unfold admitS;(repeat' split) <;> first | exact z | exact ⟨by simp only [done,zxj];omega,by simp only [done,List.length_append,List.length_singleton];omega,hb.2.2⟩
 split
 ·
  unfold settleS;(repeat' split) <;> first | exact z | exact ⟨by simp only [done,zxj,zwz];omega,fh _,hb.2.2⟩
 split
 ·
  unfold settleS;(repeat' split) <;> first | exact z | exact ⟨by simp only [done,zxj,zwz];omega,fh _,hb.2.2⟩
 split
 ·
  unfold tickB;split
  ·
   exact z
  ·
   refine ⟨?_,by simp only [done,List.length_map];omega,hb.2.2⟩
   simp only [done]
   split
   ·
    rw [List.length_map];omega
   ·
    omega
 split
 ·
  unfold launchS;(repeat' split) <;> first | exact z | exact ⟨by simp only [done,zxj];omega,hb.2.1,by simp only [done,List.length_append,List.length_singleton];omega⟩
 split
 ·
  unfold landS;(repeat' split) <;> first | exact z | exact ⟨by simp only [done,zxj];omega,hb.2.1,fo _⟩
 ·
  unfold landS;(repeat' split) <;> first | exact z | exact ⟨by simp only [done,zxj];omega,hb.2.1,fo _⟩
theorem zhj (b : Bk) (e : Event) : LenOk (applyS b e).b:=by
 unfold applyS
 split
 ·
  exact LenOk.zero
 ·
  rename_i h
  split
  ·
   exact LenOk.zero
  ·
   refine zsj ?_
   cases h9 : b.ok
   ·
    rw [h9] at h;exact absurd rfl h
   ·
    rfl
def nextB (b : Bk) (e : Event) : Bk:=if (applyS b e).code = 0 then (applyS b e).b else b
def AllP (w : World) (b : Bk) (es : List Event) (e : Ending) (w' : World) : Prop :=
 ∃ (b' : Bk) (C1 C2 C3 D1 D2 : Option Addr) (q1 q2 q3 n1 d1 n2 d2 : Nat),e = .returned (.tuple #[.agg #[.int .i64 b'.t,.int .i64 b'.n,.int .i64 b'.w,.slice C1 b'.cs.length q1,.slice C2 b'.hs.length q2,.slice C3 b'.os.length q3],.slice D1 n1 d1,.slice D2 n2 d2]) ∧
  OwB w' w.heap.size b' C1 C2 C3 q1 q2 q3∧Below w.heap.size w w'∧LenOk b'∧b' = (if b.ok = true then es.foldl nextB b else bk0)
theorem zkb {w w' : World} {B B' n : Nat} {b : Bk} {C1 C2 C3 : Option Addr} {q1 q2 q3 : Nat} {e : TypeId} {v : Value} {rows : List (List Value)} (h : OwB w B b C1 C2 C3 q1 q2 q3) (hv : Ow w B' e n v rows) (hg : w.grownBy w' v.ownBlock) (h1 : 103 ≠ e:=by decide) (h2 : 70 ≠ e:=by decide) (h3 : 93 ≠ e:=by decide) : OwB w' B b C1 C2 C3 q1 q2 q3:=⟨h.c.apart_ hv h1 hg,h.h.apart_ hv h2 hg,h.o.apart_ hv h3 hg⟩
theorem zjd {P : Program} {ops : Array Oper} {Q : Exit → Act → World → Prop} {l : List Oper} {a : Act} {w : World} (h : ∀ wq,wq = w → wpList P ops Q l a wq) : wpList P ops Q l a w:=h w rfl
theorem zvi : (Tryz.prog.info? 66).map (fun i => (i.zero,i.size,i.bytes)) = some (some (.agg #[.int .i64 0,.slice none 0 0]),2,32):=by kernel_rfl
theorem zyu : (Tryz.prog.info? 3).map (fun i => (i.zero,i.size,i.bytes)) = some (some (.int .i64 0),1,8):=by kernel_rfl
set_option maxRecDepth 100000 in
set_option maxHeartbeats 4000000 in
theorem zhp (b : Bk) (es : List Event) (A1 A2 A3 AE : Option Addr) (p1 p2 p3 pe : Nat) (w : World) (hlc : b.cs.length ≤ 1048576) (hlh : b.hs.length ≤ 1048576) (hlo : b.os.length ≤ 1048576) (hle : es.length ≤ 1048576) (hr : RdBook w w.heap.size A1 b.cs A2 b.hs A3 b.os) (hre : Rd w w.heap.size 7 AE (es.map Event.cells)) :
  Calls Tryz.prog 101 #[.agg #[.int .i64 b.t,.int .i64 b.n,.int .i64 b.w,.slice A1 b.cs.length p1,.slice A2 b.hs.length p2,.slice A3 b.os.length p3],.slice AE es.length pe] w (AllP w b es):=by
 obtain ⟨i0,hi,hz0,hz1,hz2⟩:=info_parts zvi
 have HI0:=hd_ hi
 have HI1:=hd_ hz0
 have HI2:=hd_ hz1
 have HI3:=hd_ hz2
 clear hi hz0 hz1 hz2
 obtain ⟨j0,hi,hz0,hz1,hz2⟩:=info_parts zyu
 have HJ0:=hd_ hi
 have HJ1:=hd_ hz0
 have HJ2:=hd_ hz1
 have HJ3:=hd_ hz2
 clear hi hz0 hz1 hz2
 have HRd:=hd_ hr
 have HRe:=hd_ hre
 clear hr hre
 cases hok : b.ok
 ·
  have HOK : Hid (bookB b.t b.n b.w b.cs b.hs b.os = false):=hd_ hok
  have HOk2:=hd_ hok
  clear hok
  go_enter Tryz.func101,Tryz.ntmps101
  go_wp2_with fail
  obtain ⟨RB,hRB⟩ : ∃ v,v = w.heap.size + 1:=⟨_,rfl⟩
  rw [← hRB]
  obtain ⟨BB,hBB⟩ : ∃ v,v = w.heap.size:=⟨_,rfl⟩
  rw [← hBB]
  refine zja (fun w1 hw => ?_)
  have HU_w1 : Hid (Hx w1 BB (bkC b A1 p1 A2 p2 A3 p3) 39):=hd_ (by rw [hw,hBB];exact hp_)
  have HR_w1 : Hid (Hx w1 RB #[.int .i64 0,.int .i64 0,.int .i64 0,.slice none 0 0,.slice none 0 0,.slice none 0 0] 39):=hd_ (by rw [hw,hRB];exact hp_)
  have HB_w1 : Hid (Below w.heap.size w w1):=hd_ (by rw [hw];exact bl_)
  have HGR : Hid (w.heap.size ≤ RB):=hd_ (by omega)
  clear hw hBB hRB
  refine (zjm b.t b.n b.w b.cs b.hs b.os _ _ _ _ _ _ _ hlc hlh hlo ((HRd.out.below HB_w1.out).more HB_w1.out.size)).mono ?_
  rintro e' w2 ⟨rfl,hb⟩
  rw [HOK.out]
  have HU_w2:=hd_ (zqe hb (gz_ HU_w1.out).1 HU_w1.out)
  have HR_w2:=hd_ (zqe hb (gz_ HR_w1.out).1 HR_w1.out)
  have HB_w2:=hd_ (HB_w1.out.trans (hb.mono HB_w1.out.size))
  clear hb
  have fR:=zqo HR_w2.out
  obtain ⟨R0,R1,R2,R3,R4,R5,-,-⟩:=box6_ HR_w2.out
  go_wp2_with fail
  refine nm_ ?_
  intro wz hw
  have hz1 : Hid (Hx wz RB #[.int .i64 0,.int .i64 0,.int .i64 0,.slice none 0 0,.slice none 0 0,.slice none 0 0] 39):=hd_ (by rw [hw];exact zqa (zqa (zqa (zqa (zqa (zqa (HR_w2.out)))))))
  have hz3 : Hid (Below w.heap.size w wz):=hd_ (by rw [hw];exact Below.setCell (Below.setCell (Below.setCell (Below.setCell (Below.setCell (Below.setCell (HB_w2.out) HGR.out _) HGR.out _) HGR.out _) HGR.out _) HGR.out _) HGR.out _)
  clear hw fR R0 R1 R2 R3 R4 R5
  obtain ⟨R0,R1,R2,R3,R4,R5,-,-⟩:=box6_ hz1.out
  refine bodyPost_ret (v:=.tuple #[.agg #[.int .i64 0,.int .i64 0,.int .i64 0,.slice none 0 0,.slice none 0 0,.slice none 0 0],.slice none 0 0,.slice none 0 0]) (by simp [results,Tryz.results101,go_sem, *]) rfl ?_
  exact ⟨bk0,none,none,none,none,none,0,0,0,0,0,0,0,rfl,OwB.nil_ _ _ _ _ _,hz3.out,LenOk.zero,by rw [HOk2.out];rfl⟩
 ·
  have HLb:=hd_ (zya hok)
  have HOK : Hid (bookB b.t b.n b.w b.cs b.hs b.os = true):=hd_ hok
  have HOk2:=hd_ hok
  clear hok
  go_enter Tryz.func101,Tryz.ntmps101
  go_wp2_with fail
  obtain ⟨RB,hRB⟩ : ∃ v,v = w.heap.size + 1:=⟨_,rfl⟩
  rw [← hRB]
  obtain ⟨BB,hBB⟩ : ∃ v,v = w.heap.size:=⟨_,rfl⟩
  rw [← hBB]
  refine zja (fun w1 hw => ?_)
  have HU_w1 : Hid (Hx w1 BB (bkC b A1 p1 A2 p2 A3 p3) 39):=hd_ (by rw [hw,hBB];exact hp_)
  have HR_w1 : Hid (Hx w1 RB #[.int .i64 0,.int .i64 0,.int .i64 0,.slice none 0 0,.slice none 0 0,.slice none 0 0] 39):=hd_ (by rw [hw,hRB];exact hp_)
  have HB_w1 : Hid (Below w.heap.size w w1):=hd_ (by rw [hw];exact bl_)
  have HGR : Hid (w.heap.size ≤ RB):=hd_ (by omega)
  clear hw hBB hRB
  refine (zjm b.t b.n b.w b.cs b.hs b.os _ _ _ _ _ _ _ hlc hlh hlo ((HRd.out.below HB_w1.out).more HB_w1.out.size)).mono ?_
  rintro e' w2 ⟨rfl,hb⟩
  rw [HOK.out]
  have HU_w2:=hd_ (zqe hb (gz_ HU_w1.out).1 HU_w1.out)
  have HR_w2:=hd_ (zqe hb (gz_ HR_w1.out).1 HR_w1.out)
  have HB_w2:=hd_ (HB_w1.out.trans (hb.mono HB_w1.out.size))
  clear hb
  obtain ⟨U0,U1,U2,U3,U4,U5,-,-⟩:=box6_ HU_w2.out
  go_wp2_with fail
  refine (zth b _ _ _ _ _ _ _ hlc hlh hlo ((HRd.out.below HB_w2.out).more HB_w2.out.size)).mono ?_
  rintro e' w3 ⟨C1,C2,C3,q1,q2,q3,rfl,hC,hb⟩
  have HC:=hd_ hC
  have HR_w3:=hd_ (zqe hb (gz_ HR_w2.out).1 HR_w2.out)
  have HB_w3:=hd_ (HB_w2.out.trans (hb.mono HB_w2.out.size))
  clear hb hC U0 U1 U2 U3 U4 U5
  have HSZ2:=hd_ HB_w2.out.size
  have HSZ3:=hd_ HB_w3.out.size
  go_wp2_with fail
  refine zka (fun wl hw => ?_)
  obtain ⟨NB,hNB⟩ : ∃ v,v = w3.heap.size:=⟨_,rfl⟩
  have hz3:=HSZ3.out
  have HN : Hid (Hx wl NB (bkC b C1 q1 C2 q2 C3 q3) 39):=hd_ (by rw [hw,hNB];exact zqg (by simp;omega) (zqg (by simp) (zqm rfl)))
  have HR : Hid (Hx wl RB #[.int .i64 0,.int .i64 0,.int .i64 0,.slice none 0 0,.slice none 0 0,.slice none 0 0] 39):=hd_ (by have hz:=(gz_ HR_w3.out).1;rw [hw];exact zqg (by simp;omega) (zqg (by simp;omega) (zqg hz HR_w3.out)))
  have HO : Hid (OwB wl w.heap.size b C1 C2 C3 q1 q2 q3):=hd_ (by rw [hw];exact (((HC.out.more HSZ2.out).alloc _).alloc _).alloc _)
  have HPs : Hid (Ow wl w.heap.size 66 2 (.slice (some ⟨w3.heap.size + 1,0,none⟩) 0 0) []):=hd_ (by rw [hw];exact (Ow.empty_ (by simp) (by omega)).alloc _)
  have HCs : Hid (Ow wl w.heap.size 3 1 (.slice (some ⟨w3.heap.size + 1 + 1,0,none⟩) 0 0) []):=hd_ (by rw [hw];exact Ow.empty_ (by simp) (by omega))
  have HBl : Hid (Below w.heap.size w wl):=hd_ (by rw [hw];exact ((HB_w3.out.alloc (by omega) _).alloc (by simp;omega) _).alloc (by simp;omega) _)
  have HGN : Hid (w.heap.size ≤ NB):=hd_ (by omega)
  have HNR : Hid (RB ≠ NB):=hd_ (by have:=(gz_ HR_w3.out).1;omega)
  have hps0:=HPs.out
  skip
  clear hw hz3
  rw [← hNB]
  have HPs2 : Hid (Ow wl w.heap.size 66 2 (.slice (some ⟨NB + 1,0,none⟩) 0 0) []):=hd_ (by rw [hNB];exact HPs.out)
  have HCs2 : Hid (Ow wl w.heap.size 3 1 (.slice (some ⟨NB + 1 + 1,0,none⟩) 0 0) []):=hd_ (by rw [hNB];exact HCs.out)
  clear HPs HCs hps0 hNB
  go_loopw [8,9,25] (fun vp vc i wr => ∃ (k : Nat) (b' : Bk) (C1 C2 C3 P1 P2 : Option Addr) (q1 q2 q3 c1 c2 : Nat) (R1 R2 : List (List Value)),k ≤ es.length∧i = .int .i64 k∧vp = .slice P1 R1.length c1∧vc = .slice P2 R2.length c2∧R1.length ≤ k∧R2.length ≤ k∧Hid ((es.take k).foldl nextB b = b')∧Hid (LenOk b')∧Hid (OwB wr w.heap.size b' C1 C2 C3 q1 q2 q3)∧Hid (Ow wr w.heap.size 66 2 (.slice P1 R1.length c1) R1)∧Hid (Ow wr w.heap.size 3 1 (.slice P2 R2.length c2) R2)∧Hid (Hx wr NB (bkC b' C1 q1 C2 q2 C3 q3) 39)∧Hid (Hx wr RB #[.int .i64 0,.int .i64 0,.int .i64 0,.slice none 0 0,.slice none 0 0,.slice none 0 0] 39)∧Hid (Below w.heap.size w wr)) (fun _ _ i _ => es.length - (intOf i).toNat)
  case atStart => exact ⟨0,b,C1,C2,C3,_,_,q1,q2,q3,0,0,[],[],Nat.zero_le _,rfl,rfl,rfl,Nat.le_refl _,Nat.le_refl _,hd_ rfl,HLb,HO,HPs2,HCs2,HN,HR,HBl⟩
  case round =>
   clear HN HR HO HPs2 HCs2 HBl HC
   obtain ⟨k,b',C1,C2,C3,P1,P2,q1,q2,q3,c1,c2,R1,R2,hk,rfl,rfl,rfl,hr1,hr2,HF,HL,HO,HPs,HCs,HN,HR,HB⟩:=hrel
   obtain ⟨n0,n1,n2,n3,n4,n5,-,nz⟩:=box6_ HN.out
   have hbz:=HB.out.size
   by_cases hlt : k < es.length
   ·
    obtain ⟨bb,off,hA1,hbB,e0,e1,e2,e3,e4,e5,e6⟩:=Event.rd (HRe.out.below HB.out) hlt
    subst hA1
    have Fx:=hd_ (zqq es nextB b hlt)
    have ix0 : (0 : Int) ≤ (k : Int):=by omega
    have ix1 : (k : Int) < (es.length : Int):=by omega
    obtain ⟨l1,l2,l3⟩:=HL.out
    go_wp2_with fail
    refine (s_Apply b' es[k] _ _ _ _ _ _ _ (by omega) (by omega) (by omega) (HO.out.alloc _).rd).mono ?_
    rintro e' w4 ⟨b2,L2,id,D1,D2,D3,D4,s1,s2,s3,s4,rfl,hob,hol,hb,rfl,rfl,-⟩
    have HO2 : Hid (OwB w4 w.heap.size (applyS b' es[k]).b D1 D2 D3 s1 s2 s3):=hd_ (hob.more (by simp;omega))
    have HO4:=hd_ ((HO.out.alloc _).below hb)
    have HPs4:=hd_ ((HPs.out.alloc _).below hb)
    have HCs4:=hd_ ((HCs.out.alloc _).below hb)
    have HB4:=hd_ ((HB.out.alloc (by omega) _).trans (hb.mono (by simp;omega)))
    have HN4:=hd_ (zqe hb (by simp;omega) (zqg nz HN.out))
    have HR4:=hd_ (zqe hb (by simp;have:=(gz_ HR.out).1;omega) (zqg (gz_ HR.out).1 HR.out))
    have hl2:=hd_ (zhj b' es[k])
    clear hob hol hb HO HPs HCs HB HN HR n0 n1 n2 n3 n4 n5 nz hbz e0 e1 e2 e3 e4 e5 e6
    obtain ⟨o,ho⟩ : ∃ o,applyS b' es[k] = o:=⟨_,rfl⟩
    rw [ho] at HO2 hl2 ⊢
    have HNX : Hid (nextB b' es[k] = if o.code = 0 then o.b else b'):=hd_ (by unfold nextB;rw [ho])
    clear ho
    have nz:=(gz_ HN4.out).1
    have hbz:=HB4.out.size
    have fN:=zqo HN4.out
    obtain ⟨n0,n1,n2,n3,n4,n5,-,-⟩:=box6_ HN4.out
    cases t0 : (o.code == 0)
    ·
     have HNX2 : Hid (nextB b' es[k] = b'):=hd_ (by rw [HNX.out,if_neg (beq_eq_false_iff_ne.1 t0)])
     go_wp2_with (at_builtin;refine Stop.go ?_)
     refine Stop.on ?_
     clear n0 n1 n2 n3 n4 n5 fN nz
     refine zjd (fun wq hw => ?_)
     have HOq : Hid (OwB wq w.heap.size b' C1 C2 C3 q1 q2 q3):=hd_ (by rw [hw];exact (((HO4.out.alloc _).alloc _).alloc _))
     have HPq:=hd_ (show Ow wq w.heap.size 66 2 (.slice P1 R1.length c1) R1 by rw [hw];exact (((HPs4.out.alloc _).alloc _).alloc _))
     have HCq:=hd_ (show Ow wq w.heap.size 3 1 (.slice P2 R2.length c2) R2 by rw [hw];exact (((HCs4.out.alloc _).alloc _).alloc _))
     have HNq : Hid (Hx wq NB (bkC b' C1 q1 C2 q2 C3 q3) 39):=hd_ (by rw [hw];exact zqg (by have:=(gz_ HN4.out).1;simp;omega) (zqg (by have:=(gz_ HN4.out).1;simp;omega) (zqg (gz_ HN4.out).1 HN4.out)))
     have HRq : Hid (Hx wq RB #[.int .i64 0,.int .i64 0,.int .i64 0,.slice none 0 0,.slice none 0 0,.slice none 0 0] 39):=hd_ (by rw [hw];exact zqg (by have:=(gz_ HR4.out).1;simp;omega) (zqg (by have:=(gz_ HR4.out).1;simp;omega) (zqg (gz_ HR4.out).1 HR4.out)))
     have HBq : Hid (Below w.heap.size w wq):=hd_ (by rw [hw];exact (((HB4.out).alloc (by first | omega | (simp;omega)) _).alloc (by first | omega | (simp;omega)) _).alloc (by first | omega | (simp;omega)) _)
     have HXq : Hid (wq.heap[(w4.heap.size + 1 + 1)]? = some (.cells #[.int .i64 o.code] 3 (0,0))):=hd_ (by rw [hw];exact zqm (by first | rfl | (simp;done)))
     clear hw
     have hqz:=HBq.out.size
     refine zqr rfl _ _ _ rfl w.heap.size 3 j0 _ 1 8 Tryz.underlying41 HJ0.out HJ1.out HJ2.out HJ3.out rfl (by decide) (.slice P2 R2.length c2) R2 rfl HCq.out (w4.heap.size + 1 + 1) 1 [.int .i64 o.code] 3 (by rfl) HXq.out rfl (by simp [Value.oneCell']) (by omega) (by decide) hqz ?_
     intro g5 cap5 x5 how5 hgr5 hat5 hlt5
     go_wp2_with fail
     go_roundw
     case rel => exact ⟨k + 1,b',C1,C2,C3,P1,some ⟨g5,0,none⟩,q1,q2,q3,c1,cap5,R1,R2 ++ [[.int .i64 o.code]],by omega,by go_num,rfl,by rw [List.length_append];rfl,by omega,by rw [List.length_append,List.length_singleton];omega,hd_ (by rw [Fx.out,HF.out,HNX2.out]),HL,hd_ (zkb HOq.out HCq.out hgr5),hd_ (HPq.out.apart_ HCq.out (by decide) hgr5),hd_ (by rw [List.length_append,List.length_singleton];exact how5),hd_ (zqd hgr5 (HCq.out.ne_ HNq.out (by decide)) HNq.out),hd_ (zqd hgr5 (HCq.out.ne_ HRq.out (by decide)) HRq.out),hd_ (HBq.out.grown hgr5 hqz (fun k9 e9 => (HCq.out.block k9 e9).1))⟩
     case measure => simp [intOf];omega
    ·
     have HNX2 : Hid (nextB b' es[k] = o.b):=hd_ (by rw [HNX.out,if_pos (eq_of_beq t0)])
     obtain ⟨wn,hwn⟩ : ∃ v,((((((w4.setCell ⟨NB,0,none⟩ (.int .i64 o.b.t)).setCell ⟨NB,1,none⟩ (.int .i64 o.b.n)).setCell ⟨NB,2,none⟩ (.int .i64 o.b.w)).setCell ⟨NB,3,none⟩ (.slice D1 o.b.cs.length s1)).setCell ⟨NB,4,none⟩ (.slice D2 o.b.hs.length s2)).setCell ⟨NB,5,none⟩ (.slice D3 o.b.os.length s3)) = v:=⟨_,rfl⟩
     have hgn : w4.grownBy wn (some NB):=by rw [← hwn];exact zqh (zqh (zqh (zqh (zqh (zqh (World.grownBy.refl w4 (some NB)) _ _) _ _) _ _) _ _) _ _) _ _
     have HNn : Hid (Hx wn NB (bkC o.b D1 s1 D2 s2 D3 s3) 39):=hd_ (by rw [← hwn];exact zqa (zqa (zqa (zqa (zqa (zqa (HN4.out)))))))
     have HRn : Hid (Hx wn RB #[.int .i64 0,.int .i64 0,.int .i64 0,.slice none 0 0,.slice none 0 0,.slice none 0 0] 39):=hd_ (zqd hgn (fun e9 => HNR.out (Option.some.inj e9)) HR4.out)
     have HOn : Hid (OwB wn w.heap.size o.b D1 D2 D3 s1 s2 s3):=hd_ ⟨HO2.out.c.grown hgn (Or.inr (HO2.out.c.ne_ HN4.out (by decide)).symm),HO2.out.h.grown hgn (Or.inr (HO2.out.h.ne_ HN4.out (by decide)).symm),HO2.out.o.grown hgn (Or.inr (HO2.out.o.ne_ HN4.out (by decide)).symm)⟩
     have HPn:=hd_ (HPs4.out.grown hgn (Or.inr (HPs4.out.ne_ HN4.out (by decide)).symm))
     have HCn:=hd_ (HCs4.out.grown hgn (Or.inr (HCs4.out.ne_ HN4.out (by decide)).symm))
     have HBn : Hid (Below w.heap.size w wn):=hd_ (HB4.out.grown hgn (by omega) (fun k9 e9 => by injection e9 with e9;have:=HGN.out;omega))
     have hsz : wn.heap.size = w4.heap.size:=by rw [← hwn];simp
     have HWN:=hd_ hwn
     have HSZ:=hd_ hsz
     have hbn:=HBn.out.size
     clear hwn hgn hsz
     cases t1 : decide (id > 0)
     ·
      go_wp2_with (at_builtin;refine Stop.go ?_)
      refine Stop.on ?_
      rw [HWN.out]
      clear HWN n0 n1 n2 n3 n4 n5 fN nz
      rw [← HSZ.out]
      refine zjd (fun wq hw => ?_)
      have HOq : Hid (OwB wq w.heap.size o.b D1 D2 D3 s1 s2 s3):=hd_ (by rw [hw];exact (((HOn.out.alloc _).alloc _).alloc _))
      have HPq:=hd_ (show Ow wq w.heap.size 66 2 (.slice P1 R1.length c1) R1 by rw [hw];exact (((HPn.out.alloc _).alloc _).alloc _))
      have HCq:=hd_ (show Ow wq w.heap.size 3 1 (.slice P2 R2.length c2) R2 by rw [hw];exact (((HCn.out.alloc _).alloc _).alloc _))
      have HNq : Hid (Hx wq NB (bkC o.b D1 s1 D2 s2 D3 s3) 39):=hd_ (by rw [hw];exact zqg (by have:=(gz_ HNn.out).1;simp;omega) (zqg (by have:=(gz_ HNn.out).1;simp;omega) (zqg (gz_ HNn.out).1 HNn.out)))
      have HRq : Hid (Hx wq RB #[.int .i64 0,.int .i64 0,.int .i64 0,.slice none 0 0,.slice none 0 0,.slice none 0 0] 39):=hd_ (by rw [hw];exact zqg (by have:=(gz_ HRn.out).1;simp;omega) (zqg (by have:=(gz_ HRn.out).1;simp;omega) (zqg (gz_ HRn.out).1 HRn.out)))
      have HBq : Hid (Below w.heap.size w wq):=hd_ (by rw [hw];exact (((HBn.out).alloc (by first | omega | (simp;omega)) _).alloc (by first | omega | (simp;omega)) _).alloc (by first | omega | (simp;omega)) _)
      have HXq : Hid (wq.heap[(wn.heap.size + 1 + 1)]? = some (.cells #[.int .i64 o.code] 3 (0,0))):=hd_ (by rw [hw];exact zqm (by first | rfl | (simp;done)))
      clear hw
      have hqz:=HBq.out.size
      refine zqr rfl _ _ _ rfl w.heap.size 3 j0 _ 1 8 Tryz.underlying41 HJ0.out HJ1.out HJ2.out HJ3.out rfl (by decide) (.slice P2 R2.length c2) R2 rfl HCq.out (wn.heap.size + 1 + 1) 1 [.int .i64 o.code] 3 (by rfl) HXq.out rfl (by simp [Value.oneCell']) (by omega) (by decide) hqz ?_
      intro g5 cap5 x5 how5 hgr5 hat5 hlt5
      go_wp2_with fail
      go_roundw
      case rel => exact ⟨k + 1,o.b,D1,D2,D3,P1,some ⟨g5,0,none⟩,s1,s2,s3,c1,cap5,R1,R2 ++ [[.int .i64 o.code]],by omega,by go_num,rfl,by rw [List.length_append];rfl,by omega,by rw [List.length_append,List.length_singleton];omega,hd_ (by rw [Fx.out,HF.out,HNX2.out]),hl2,hd_ (zkb HOq.out HCq.out hgr5),hd_ (HPq.out.apart_ HCq.out (by decide) hgr5),hd_ (by rw [List.length_append,List.length_singleton];exact how5),hd_ (zqd hgr5 (HCq.out.ne_ HNq.out (by decide)) HNq.out),hd_ (zqd hgr5 (HCq.out.ne_ HRq.out (by decide)) HRq.out),hd_ (HBq.out.grown hgr5 hqz (fun k9 e9 => (HCq.out.block k9 e9).1))⟩
      case measure => simp [intOf];omega
     ·
      go_wp2_with (at_builtin;refine Stop.go ?_)
      refine Stop.on ?_
      rw [HWN.out]
      clear HWN n0 n1 n2 n3 n4 n5 fN nz
      rw [← HSZ.out]
      refine zjd (fun wq hw => ?_)
      have HOq : Hid (OwB wq w.heap.size o.b D1 D2 D3 s1 s2 s3):=hd_ (by rw [hw];exact (((HOn.out.alloc _).alloc _).alloc _))
      have HPq:=hd_ (show Ow wq w.heap.size 66 2 (.slice P1 R1.length c1) R1 by rw [hw];exact (((HPn.out.alloc _).alloc _).alloc _))
      have HCq:=hd_ (show Ow wq w.heap.size 3 1 (.slice P2 R2.length c2) R2 by rw [hw];exact (((HCn.out.alloc _).alloc _).alloc _))
      have HNq : Hid (Hx wq NB (bkC o.b D1 s1 D2 s2 D3 s3) 39):=hd_ (by rw [hw];exact zqg (by have:=(gz_ HNn.out).1;simp;omega) (zqg (by have:=(gz_ HNn.out).1;simp;omega) (zqg (gz_ HNn.out).1 HNn.out)))
      have HRq : Hid (Hx wq RB #[.int .i64 0,.int .i64 0,.int .i64 0,.slice none 0 0,.slice none 0 0,.slice none 0 0] 39):=hd_ (by rw [hw];exact zqg (by have:=(gz_ HRn.out).1;simp;omega) (zqg (by have:=(gz_ HRn.out).1;simp;omega) (zqg (gz_ HRn.out).1 HRn.out)))
      have HBq : Hid (Below w.heap.size w wq):=hd_ (by rw [hw];exact (((HBn.out).alloc (by first | omega | (simp;omega)) _).alloc (by first | omega | (simp;omega)) _).alloc (by first | omega | (simp;omega)) _)
      have HXq : Hid (wq.heap[(wn.heap.size + 1 + 1)]? = some (.cells #[.int .i64 id,.slice D4 o.l.length s4] 66 (0,0))):=hd_ (by rw [hw];exact zqm (by first | rfl | (simp;done)))
      clear hw
      have hqz:=HBq.out.size
      refine zqr rfl _ _ _ rfl w.heap.size 66 i0 _ 2 32 Tryz.underlying40 HI0.out HI1.out HI2.out HI3.out rfl (by decide) (.slice P1 R1.length c1) R1 rfl HPq.out (wn.heap.size + 1 + 1) 1 [.int .i64 id,.slice D4 o.l.length s4] 66 (by rfl) HXq.out rfl (by simp [Value.oneCell']) (by omega) (by decide) hqz ?_
      intro g4 cap4 x4 how4 hgr4 hat4 hlt4
      have HNm : Hid (Hx x4 NB (bkC o.b D1 s1 D2 s2 D3 s3) 39):=hd_ (zqd hgr4 (HPq.out.ne_ HNq.out (by decide)) HNq.out)
      have HRm : Hid (Hx x4 RB #[.int .i64 0,.int .i64 0,.int .i64 0,.slice none 0 0,.slice none 0 0,.slice none 0 0] 39):=hd_ (zqd hgr4 (HPq.out.ne_ HRq.out (by decide)) HRq.out)
      have HOm:=hd_ (zkb HOq.out HPq.out hgr4)
      have HCm:=hd_ (HCq.out.apart_ HPq.out (by decide) hgr4)
      have HBm:=hd_ (HBq.out.grown hgr4 hqz (fun k9 e9 => (HPq.out.block k9 e9).1))
      have HPm:=hd_ how4
      have hbz4:=HBm.out.size
      clear how4 hgr4 hat4 HPq HCq HBq HOq HNq HRq HXq hqz HOn HPn HCn HNn HRn HBn
      obtain ⟨R3,hR3⟩ : ∃ R3,R1 ++ [[.int .i64 id,.slice D4 o.l.length s4]] = R3:=⟨_,rfl⟩
      have hl3 : R3.length = R1.length + 1:=by rw [← hR3,List.length_append,List.length_singleton]
      rw [hR3,← hl3] at HPm
      rw [← hl3]
      have HL3:=hd_ hl3
      clear hR3 hl3
      go_wp2_with (at_builtin;refine Stop.go ?_)
      refine Stop.on ?_
      refine zjd (fun wq hw => ?_)
      have HOq : Hid (OwB wq w.heap.size o.b D1 D2 D3 s1 s2 s3):=hd_ (by rw [hw];exact (HOm.out.alloc _))
      have HPq:=hd_ (show Ow wq w.heap.size 66 2 (.slice (some ⟨g4,0,none⟩) R3.length cap4) R3 by rw [hw];exact (HPm.out.alloc _))
      have HCq:=hd_ (show Ow wq w.heap.size 3 1 (.slice P2 R2.length c2) R2 by rw [hw];exact (HCm.out.alloc _))
      have HNq : Hid (Hx wq NB (bkC o.b D1 s1 D2 s2 D3 s3) 39):=hd_ (by rw [hw];exact zqg (gz_ HNm.out).1 HNm.out)
      have HRq : Hid (Hx wq RB #[.int .i64 0,.int .i64 0,.int .i64 0,.slice none 0 0,.slice none 0 0,.slice none 0 0] 39):=hd_ (by rw [hw];exact zqg (gz_ HRm.out).1 HRm.out)
      have HBq : Hid (Below w.heap.size w wq):=hd_ (by rw [hw];exact (HBm.out).alloc (by first | omega | (simp;omega)) _)
      have HXq : Hid (wq.heap[x4.heap.size]? = some (.cells #[.int .i64 o.code] 3 (0,0))):=hd_ (by rw [hw];exact zqm (by first | rfl | (simp;done)))
      clear hw
      have hqz:=HBq.out.size
      refine zqr rfl _ _ _ rfl w.heap.size 3 j0 _ 1 8 Tryz.underlying41 HJ0.out HJ1.out HJ2.out HJ3.out rfl (by decide) (.slice P2 R2.length c2) R2 rfl HCq.out x4.heap.size 1 [.int .i64 o.code] 3 (by rfl) HXq.out rfl (by simp [Value.oneCell']) (by omega) (by decide) hqz ?_
      intro g5 cap5 x5 how5 hgr5 hat5 hlt5
      go_wp2_with fail
      go_roundw
      case rel => exact ⟨k + 1,o.b,D1,D2,D3,(some ⟨g4,0,none⟩),some ⟨g5,0,none⟩,s1,s2,s3,cap4,cap5,R3,R2 ++ [[.int .i64 o.code]],by omega,by go_num,rfl,by rw [List.length_append];rfl,by have:=HL3.out;omega,by rw [List.length_append,List.length_singleton];omega,hd_ (by rw [Fx.out,HF.out,HNX2.out]),hl2,hd_ (zkb HOq.out HCq.out hgr5),hd_ (HPq.out.apart_ HCq.out (by decide) hgr5),hd_ (by rw [List.length_append,List.length_singleton];exact how5),hd_ (zqd hgr5 (HCq.out.ne_ HNq.out (by decide)) HNq.out),hd_ (zqd hgr5 (HCq.out.ne_ HRq.out (by decide)) HRq.out),hd_ (HBq.out.grown hgr5 hqz (fun k9 e9 => (HCq.out.block k9 e9).1))⟩
      case measure => simp [intOf];omega
   ·
    obtain rfl : k = es.length:=by omega
    have qf:=HF.out
    rw [List.take_length] at qf
    have HQ:=hd_ qf
    clear qf HF
    have fR:=zqo HR.out
    have hn1 : ¬ RB = NB:=HNR.out
    have hn2 : ¬ NB = RB:=fun e9 => HNR.out e9.symm
    obtain ⟨r0,r1,r2,r3,r4,r5,-,-⟩:=box6_ HR.out
    go_wp2_with fail
    refine nm_ ?_
    intro wz hw
    have hz1 : Hid (Hx wz RB (bkC b' C1 q1 C2 q2 C3 q3) 39):=hd_ (by rw [hw];exact zqa (zqa (zqa (zqa (zqa (zqa (HR.out)))))))
    have hgz : wr.grownBy wz (some RB):=by rw [hw];exact zqh (zqh (zqh (zqh (zqh (zqh (World.grownBy.refl wr (some RB)) _ _) _ _) _ _) _ _) _ _) _ _
    clear hw fR hn1 hn2 r0 r1 r2 r3 r4 r5 n0 n1 n2 n3 n4 n5
    obtain ⟨r0,r1,r2,r3,r4,r5,-,-⟩:=box6_ hz1.out
    refine bodyPost_ret (v:=.tuple #[.agg #[.int .i64 b'.t,.int .i64 b'.n,.int .i64 b'.w,.slice C1 b'.cs.length q1,.slice C2 b'.hs.length q2,.slice C3 b'.os.length q3],.slice P1 R1.length c1,.slice P2 R2.length c2]) (by simp [results,Tryz.results101,go_sem, *]) rfl ?_
    exact ⟨b',C1,C2,C3,P1,P2,q1,q2,q3,R1.length,c1,R2.length,c2,rfl,⟨HO.out.c.grown hgz (Or.inr (HO.out.c.ne_ HR.out (by decide)).symm),HO.out.h.grown hgz (Or.inr (HO.out.h.ne_ HR.out (by decide)).symm),HO.out.o.grown hgz (Or.inr (HO.out.o.ne_ HR.out (by decide)).symm)⟩,HB.out.grown hgz HB.out.size (fun k9 e9 => by injection e9 with e9;have:=HGR.out;omega),HL.out,by rw [HOk2.out,if_pos rfl,HQ.out]⟩
end Go.Proofs.YtdbmkfmenfcbiaaGreat
