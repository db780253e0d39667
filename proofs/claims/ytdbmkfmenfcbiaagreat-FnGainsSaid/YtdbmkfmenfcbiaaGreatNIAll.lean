/- Events are applied one after the other: the program's walk. -/
import Derived.Test.YtdbmkfmenfcbiaaGreatRows
import Derived.Test.YtdbmkfmenfcbiaaGreatNM5
import Derived.Test.YtdbmkfmenfcbiaaGreatNIAp
import Derived.Test.YtdbmkfmenfcbiaaGreatNM3
import Derived.Test.YtdbmkfmenfcbiaaGreatNM2
namespace Go.Proofs.YtdbmkfmenfcbiaaGreat
open Go.RowKit Go.Deep
structure AllS (w0 w : World) (NB RB : Nat) (b : Bk) (C1 C2 C3 P1 P2 : Option Addr) (q1 q2 q3 c1 c2 : Nat) (ps : List Pst) (cs : List Int) : Prop where
 o : OwB w w0.heap.size b C1 C2 C3 q1 q2 q3
 p : Ow w w0.heap.size 66 2 (.slice P1 ps.length c1) (ps.map Pst.cells)
 pl : ∀ x ∈ ps,Ow w w0.heap.size 99 3 x.val (x.L.map Line.cells)
 c : Ow w w0.heap.size 3 1 (.slice P2 cs.length c2) (cs.map intCells)
 n : w.heap[NB]? = some (.cells #[.int .i64 b.t,.int .i64 b.n,.int .i64 b.w,.slice C1 b.cs.length q1,.slice C2 b.hs.length q2,.slice C3 b.os.length q3] 39 (0,0))
 r : w.heap[RB]? = some (.cells #[.int .i64 0,.int .i64 0,.int .i64 0,.slice none 0 0,.slice none 0 0,.slice none 0 0] 39 (0,0))
 b : Below w0.heap.size w0 w
section
variable {w0 w w' : World} {NB RB : Nat} {b : Bk} {C1 C2 C3 P1 P2 : Option Addr} {q1 q2 q3 c1 c2 : Nat} {ps : List Pst} {cs : List Int}
theorem AllS.below (h : AllS w0 w NB RB b C1 C2 C3 P1 P2 q1 q2 q3 c1 c2 ps cs) (hb : Below w.heap.size w w') : AllS w0 w' NB RB b C1 C2 C3 P1 P2 q1 q2 q3 c1 c2 ps cs :=
 ⟨h.o.below hb,h.p.below hb,fun x hx => (h.pl x hx).below hb,h.c.below hb,zqr hb (gz_ h.n).1 h.n,zqr hb (gz_ h.r).1 h.r,h.b.trans (hb.mono h.b.size)⟩
theorem AllS.alloc (h : AllS w0 w NB RB b C1 C2 C3 P1 P2 q1 q2 q3 c1 c2 ps cs) (o : Obj) : AllS w0 (w.alloc o) NB RB b C1 C2 C3 P1 P2 q1 q2 q3 c1 c2 ps cs:=h.below ((Below.refl _ _).alloc (Nat.le_refl _) o)
theorem AllS.pushC (h : AllS w0 w NB RB b C1 C2 C3 P1 P2 q1 q2 q3 c1 c2 ps cs) {code : Int} {D : Option Addr} {d : Nat} (ho : Ow w' w0.heap.size 3 1 (.slice D (cs.length + 1) d) (cs.map intCells ++ [[.int .i64 code]])) (hg : w.grownBy w' (Value.slice P2 cs.length c2).ownBlock) : AllS w0 w' NB RB b C1 C2 C3 P1 D q1 q2 q3 c1 d ps (cs ++ [code]) :=
 ⟨ztc h.o h.c hg,h.p.apart_ h.c (by decide) hg,fun x hx => (h.pl x hx).apart_ h.c (by decide) hg,by rw [List.length_append,List.length_singleton,List.map_append];exact ho,zqe hg (h.c.ne_ h.n (by decide)) h.n,zqe hg (h.c.ne_ h.r (by decide)) h.r,h.b.grown hg h.b.size (fun k e => (h.c.block k e).1)⟩
theorem AllS.pushP (h : AllS w0 w NB RB b C1 C2 C3 P1 P2 q1 q2 q3 c1 c2 ps cs) {x : Pst} (hx : Ow w w0.heap.size 99 3 x.val (x.L.map Line.cells)) {D : Option Addr} {d : Nat} (ho : Ow w' w0.heap.size 66 2 (.slice D (ps.length + 1) d) (ps.map Pst.cells ++ [x.cells])) (hg : w.grownBy w' (Value.slice P1 ps.length c1).ownBlock) : AllS w0 w' NB RB b C1 C2 C3 D P2 q1 q2 q3 d c2 (ps ++ [x]) cs :=
 ⟨ztc h.o h.p hg,by rw [List.length_append,List.length_singleton,List.map_append];exact ho,fun y hy => by
   rcases List.mem_append.1 hy with hy | hy
   ·
    exact (h.pl y hy).apart_ h.p (by decide) hg
   rw [List.mem_singleton.1 hy];exact hx.apart_ h.p (by decide) hg,h.c.apart_ h.p (by decide) hg,zqe hg (h.p.ne_ h.n (by decide)) h.n,zqe hg (h.p.ne_ h.r (by decide)) h.r,h.b.grown hg h.b.size (fun k e => (h.p.block k e).1)⟩
theorem AllS.next (h : AllS w0 w NB RB b C1 C2 C3 P1 P2 q1 q2 q3 c1 c2 ps cs) {b' : Bk} {D1 D2 D3 : Option Addr} {s1 s2 s3 : Nat} (ho : OwB w w0.heap.size b' D1 D2 D3 s1 s2 s3) (hne : NB ≠ RB) (hN : w0.heap.size ≤ NB) (hg : w.grownBy w' (some NB)) (hn : w'.heap[NB]? = some (.cells #[.int .i64 b'.t,.int .i64 b'.n,.int .i64 b'.w,.slice D1 b'.cs.length s1,.slice D2 b'.hs.length s2,.slice D3 b'.os.length s3] 39 (0,0))) : AllS w0 w' NB RB b' D1 D2 D3 P1 P2 s1 s2 s3 c1 c2 ps cs :=
 ⟨⟨ho.c.grown hg (Or.inr (ho.c.ne_ h.n (by decide)).symm),ho.h.grown hg (Or.inr (ho.h.ne_ h.n (by decide)).symm),ho.o.grown hg (Or.inr (ho.o.ne_ h.n (by decide)).symm)⟩,h.p.grown hg (Or.inr (h.p.ne_ h.n (by decide)).symm),fun x hx => (h.pl x hx).grown hg (Or.inr ((h.pl x hx).ne_ h.n (by decide)).symm),h.c.grown hg (Or.inr (h.c.ne_ h.n (by decide)).symm),hn,zqe hg (fun e => hne (Option.some.inj e).symm) h.r,h.b.grown hg h.b.size (fun k e => by injection e with e;omega)⟩
end
def AllQ (w : World) (b : Bk) (es : List Event) (e : Ending) (w' : World) : Prop :=
 ∃ (b' : Bk) (ps : List Pst) (cs : List Int) (C1 C2 C3 D1 D2 : Option Addr) (q1 q2 q3 d1 d2 : Nat),e = .returned (.tuple #[.agg #[.int .i64 b'.t,.int .i64 b'.n,.int .i64 b'.w,.slice C1 b'.cs.length q1,.slice C2 b'.hs.length q2,.slice C3 b'.os.length q3],.slice D1 ps.length d1,.slice D2 cs.length d2]) ∧
  OwB w' w.heap.size b' C1 C2 C3 q1 q2 q3∧Ow w' w.heap.size 66 2 (.slice D1 ps.length d1) (ps.map Pst.cells)∧(∀ x ∈ ps,Ow w' w.heap.size 99 3 x.val (x.L.map Line.cells))∧Ow w' w.heap.size 3 1 (.slice D2 cs.length d2) (cs.map intCells)∧Below w.heap.size w w'∧LenOk b'∧(b',ps.map Pst.pl,cs) = (if b.ok = true then allF b es else (bk0,[],[]))
set_option maxRecDepth 100000 in
set_option maxHeartbeats 4000000 in
theorem i_ApplyAll (b : Bk) (es : List Event) (A1 A2 A3 AE : Option Addr) (p1 p2 p3 pe : Nat) (w : World) (hlc : b.cs.length ≤ 1048576) (hlh : b.hs.length ≤ 1048576) (hlo : b.os.length ≤ 1048576) (hle : es.length ≤ 1048576) (hr : RdBook w w.heap.size A1 b.cs A2 b.hs A3 b.os) (hre : Rd w w.heap.size 7 AE (es.map Event.cells)) :
  Calls Tryz.prog 16 #[.agg #[.int .i64 b.t,.int .i64 b.n,.int .i64 b.w,.slice A1 b.cs.length p1,.slice A2 b.hs.length p2,.slice A3 b.os.length p3],.slice AE es.length pe] w (AllQ w b es):=by
 obtain ⟨i0,hi,hz0,hz1,hz2⟩:=info_parts zpe
 have HI0:=hd_ hi
 have HI1:=hd_ hz0
 have HI2:=hd_ hz1
 have HI3:=hd_ hz2
 clear hi hz0 hz1 hz2
 obtain ⟨j0,hi,hz0,hz1,hz2⟩:=info_parts info_intA
 have HJ0:=hd_ hi
 have HJ1:=hd_ hz0
 have HJ2:=hd_ hz1
 have HJ3:=hd_ hz2
 clear hi hz0 hz1 hz2
 have HRd:=hd_ hr
 have HRe:=hd_ hre
 clear hr hre
 cases hok : b.ok
 ·
  have HOK : Hid (bookB b.t b.n b.w b.cs b.hs b.os = false):=hd_ hok
  have HOk2:=hd_ hok
  clear hok
  go_enter Tryz.func16,Tryz.ntmps16
  go_wp2_with fail
  obtain ⟨RB,hRB⟩ : ∃ v,v = w.heap.size + 1:=⟨_,rfl⟩
  rw [← hRB]
  obtain ⟨BB,hBB⟩ : ∃ v,v = w.heap.size:=⟨_,rfl⟩
  rw [← hBB]
  refine zju (fun w1 hw => ?_)
  have HU1 : Hid (Hx w1 BB (bkC b A1 p1 A2 p2 A3 p3) 39):=hd_ (by rw [hw,hBB];exact hp_)
  have HR1 : Hid (Hx w1 RB (qaiiisss 0 0 0 none 0 0 none 0 0 none 0 0) 39):=hd_ (by rw [hw,hRB];exact hp_)
  have HB1 : Hid (Below w.heap.size w w1):=hd_ (by rw [hw];exact bl_)
  have HGR : Hid (w.heap.size ≤ RB):=hd_ (by omega)
  clear hw hBB hRB
  refine (zwc b.t b.n b.w b.cs b.hs b.os _ _ _ _ _ _ _ hlc hlh hlo ((HRd.out.below HB1).more HB1.out.size)).mono ?_
  rintro e' w2 ⟨rfl,hb⟩
  rw [HOK.out]
  have HU2:=hb_ hb HU1
  have HR2:=hb_ hb HR1
  have HB2:=hd_ (HB1.out.trans (hb.mono HB1.out.size))
  clear hb
  have fR:=zqm HR2
  have R:=bd6_ HR2
  go_wp2_with fail
  refine nm_ ?_
  intro wz hw
  have hz1 : Hid (Hx wz RB (qaiiisss 0 0 0 none 0 0 none 0 0 none 0 0) 39):=hd_ (by rw [hw];exact zqa (zqa (zqa (zqa (zqa (zqa (HR2.out)))))))
  have hz3 : Hid (Below w.heap.size w wz):=hd_ (by rw [hw];exact Below.setCell (Below.setCell (Below.setCell (Below.setCell (Below.setCell (Below.setCell (HB2.out) HGR.out _) HGR.out _) HGR.out _) HGR.out _) HGR.out _) HGR.out _)
  clear hw fR R
  have R:=bd6_ hz1.out
  refine bodyPost_ret (v:=.tuple #[.agg #[.int .i64 0,.int .i64 0,.int .i64 0,.slice none 0 0,.slice none 0 0,.slice none 0 0],.slice none 0 0,.slice none 0 0]) (by simp [results,Tryz.results16,go_sem, *]) rfl ?_
  exact ⟨bk0,[],[],none,none,none,none,none,0,0,0,0,0,rfl,OwB.nil_ _ _ _ _ _,Ow.nil_,by simp,Ow.nil_,hz3.out,LenOk.zero,by rw [HOk2.out];rfl⟩
 have HLb:=hd_ (lenOk_of hok)
 have HOK : Hid (bookB b.t b.n b.w b.cs b.hs b.os = true):=hd_ hok
 have HOk2:=hd_ hok
 clear hok
 go_enter Tryz.func16,Tryz.ntmps16
 go_wp2_with fail
 obtain ⟨RB,hRB⟩ : ∃ v,v = w.heap.size + 1:=⟨_,rfl⟩
 rw [← hRB]
 obtain ⟨BB,hBB⟩ : ∃ v,v = w.heap.size:=⟨_,rfl⟩
 rw [← hBB]
 refine zju (fun w1 hw => ?_)
 have HU1 : Hid (Hx w1 BB (bkC b A1 p1 A2 p2 A3 p3) 39):=hd_ (by rw [hw,hBB];exact hp_)
 have HR1 : Hid (Hx w1 RB (qaiiisss 0 0 0 none 0 0 none 0 0 none 0 0) 39):=hd_ (by rw [hw,hRB];exact hp_)
 have HB1 : Hid (Below w.heap.size w w1):=hd_ (by rw [hw];exact bl_)
 have HGR : Hid (w.heap.size ≤ RB):=hd_ (by omega)
 clear hw hBB hRB
 refine (zwc b.t b.n b.w b.cs b.hs b.os _ _ _ _ _ _ _ hlc hlh hlo ((HRd.out.below HB1).more HB1.out.size)).mono ?_
 rintro e' w2 ⟨rfl,hb⟩
 rw [HOK.out]
 have HU2:=hb_ hb HU1
 have HR2:=hb_ hb HR1
 have HB2:=hd_ (HB1.out.trans (hb.mono HB1.out.size))
 clear hb
 have U:=bd6_ HU2
 go_wp2_with fail
 refine (zmb b _ _ _ _ _ _ _ hlc hlh hlo ((HRd.out.below HB2).more HB2.out.size)).mono ?_
 rintro e' w3 ⟨C1,C2,C3,q1,q2,q3,rfl,hC,hb⟩
 have HC:=hd_ hC
 have HR3:=hb_ hb HR2
 have HB3:=hd_ (HB2.out.trans (hb.mono HB2.out.size))
 have HSZ2:=hd_ HB2.out.size
 have HSZ3:=hd_ HB3.out.size
 clear hb hC U
 go_wp2_with fail
 refine nm_ ?_
 intro wl hw
 obtain ⟨NB,hNB⟩ : ∃ v,v = w3.heap.size:=⟨_,rfl⟩
 have hz3:=HSZ3.out
 have hzR:=(gz_ HR3).1
 have HGN : Hid (w.heap.size ≤ NB):=hd_ (by omega)
 have HNR : Hid (NB ≠ RB):=hd_ (by omega)
 have HA : Hid (AllS w wl NB RB b C1 C2 C3 none none q1 q2 q3 0 0 [] []):=hd_ (by rw [hw,hNB];exact ⟨(HC.out.more HSZ2).alloc _,Ow.nil_,by simp,Ow.nil_,zqi rfl,zqd hzR HR3.out,HB3.out.alloc (by omega) _⟩)
 try rw [← hNB]
 clear hw hNB hz3 hzR HC HR3 HB3 HSZ2 HSZ3 HR2 HU2 HB2 HU1 HR1 HB1
 go_wp2_with fail
 go_loopw [8,9,23] (fun vp vc i wr => ∃ (k : Nat) (b' : Bk) (C1 C2 C3 P1 P2 : Option Addr) (q1 q2 q3 c1 c2 : Nat) (ps : List Pst) (cs : List Int),k ≤ es.length∧i = .int .i64 k∧vp = .slice P1 ps.length c1∧vc = .slice P2 cs.length c2∧ps.length ≤ k∧cs.length ≤ k∧Hid ((es.take k).foldl allStep (b,[],[]) = (b',ps.map Pst.pl,cs))∧Hid (LenOk b')∧Hid (AllS w wr NB RB b' C1 C2 C3 P1 P2 q1 q2 q3 c1 c2 ps cs)) (fun _ _ i _ => es.length - (intOf i).toNat)
 case atStart => exact ⟨0,b,C1,C2,C3,none,none,q1,q2,q3,0,0,[],[],Nat.zero_le _,rfl,rfl,rfl,Nat.le_refl _,Nat.le_refl _,hd_ rfl,HLb,HA⟩
 case round =>
  clear HA
  obtain ⟨k,b',C1,C2,C3,P1,P2,q1,q2,q3,c1,c2,ps,cs,hk,rfl,rfl,rfl,hp1,hc1,HF,HL,HA⟩:=hrel
  obtain ⟨jn,-,nz⟩:=bc6_ HA.out.n
  have hbz:=HA.out.b.size
  by_cases hlt : k < es.length
  rotate_left
  ·
   obtain rfl : k = es.length:=by omega
   have qf:=HF.out
   rw [List.take_length] at qf
   have HQ : Hid (allF b es = (b',ps.map Pst.pl,cs)):=hd_ qf
   clear qf HF
   have fR:=zqm HA.out.r
   have hn1 : ¬ RB = NB:=fun e9 => HNR.out e9.symm
   have hn2 : ¬ NB = RB:=HNR.out
   have jr:=bd6_ HA.out.r
   go_wp2_with fail
   refine nm_ ?_
   intro wz hw
   have hz1 : Hid (Hx wz RB (bkC b' C1 q1 C2 q2 C3 q3) 39):=hd_ (by rw [hw];exact zqa (zqa (zqa (zqa (zqa (zqa (HA.out.r)))))))
   have hgz : wr.grownBy wz (some RB):=by rw [hw];exact zqg (zqg (zqg (zqg (zqg (zqg (World.grownBy.refl wr (some RB)) _ _) _ _) _ _) _ _) _ _) _ _
   clear hw fR hn1 hn2 jr jn
   have jr:=bd6_ hz1.out
   refine bodyPost_ret (v:=.tuple #[.agg #[.int .i64 b'.t,.int .i64 b'.n,.int .i64 b'.w,.slice C1 b'.cs.length q1,.slice C2 b'.hs.length q2,.slice C3 b'.os.length q3],.slice P1 ps.length c1,.slice P2 cs.length c2]) (by simp [results,Tryz.results16,go_sem, *]) rfl ?_
   have HS:=HA.out
   exact ⟨b',ps,cs,C1,C2,C3,P1,P2,q1,q2,q3,c1,c2,rfl,⟨HS.o.c.grown hgz (Or.inr (HS.o.c.ne_ HS.r (by decide)).symm),HS.o.h.grown hgz (Or.inr (HS.o.h.ne_ HS.r (by decide)).symm),HS.o.o.grown hgz (Or.inr (HS.o.o.ne_ HS.r (by decide)).symm)⟩,HS.p.grown hgz (Or.inr (HS.p.ne_ HS.r (by decide)).symm),fun x hx => (HS.pl x hx).grown hgz (Or.inr ((HS.pl x hx).ne_ HS.r (by decide)).symm),HS.c.grown hgz (Or.inr (HS.c.ne_ HS.r (by decide)).symm),HS.b.grown hgz HS.b.size (fun k9 e9 => by injection e9 with e9;have:=HGR.out;omega),HL.out,by rw [HOk2.out,if_pos rfl,HQ.out]⟩
  obtain ⟨bb,off,hA1,hbB,e0,e1,e2,e3,e4,e5,e6⟩:=Event.rd (HRe.out.below HA.out.b) hlt
  subst hA1
  have Fx:=hd_ (zqq es allStep (b,[],[]) hlt)
  have ix0 : (0 : Int) ≤ (k : Int):=by omega
  have ix1 : (k : Int) < (es.length : Int):=by omega
  obtain ⟨l1,l2,l3⟩:=HL.out
  go_wp2_with fail
  refine (i_Apply b' es[k] _ _ _ _ _ _ _ (by omega) (by omega) (by omega) (HA.out.o.alloc _).rd).mono ?_
  rintro e' w4 ⟨b2,L2,id,D1,D2,D3,D4,s1,s2,s3,s4,rfl,hob,hol,hb,rfl,rfl,hid⟩
  have HA4:=hd_ ((HA.out.alloc _).below hb)
  have HO4 : Hid (OwB w4 w.heap.size (applyS b' es[k]).b D1 D2 D3 s1 s2 s3):=hd_ (hob.more (by simp;omega))
  have HL4 : Hid (Ow w4 w.heap.size 99 3 (.slice D4 (applyS b' es[k]).l.length s4) ((applyS b' es[k]).l.map Line.cells)):=hd_ (hol.more (by simp;omega))
  have HL2:=hd_ (zvz b' es[k])
  have HID:=hd_ hid
  clear hob hol hb hid HA jn nz hbz e0 e1 e2 e3 e4 e5 e6
  obtain ⟨o,ho⟩ : ∃ o,applyS b' es[k] = o:=⟨_,rfl⟩
  have HST : Hid (∀ ps' cs',allStep (b',ps',cs') es[k] = ((if o.code = 0 then o.b else b'),(if o.code = 0∧o.l ≠ [] then ps' ++ [(b'.n,o.l)] else ps'),cs' ++ [o.code])):=hd_ (by intro ps' cs';unfold allStep psStep nextB;rw [ho])
  rw [ho] at HO4 HL4 HL2 HID ⊢
  clear ho
  go_wp2_with (at_builtin;refine Stop.go ?_)
  refine Stop.on ?_
  refine zva (fun wq hw => ?_)
  obtain ⟨XB,hXB⟩ : ∃ v,v = w4.heap.size:=⟨_,rfl⟩
  obtain ⟨YB,hYB⟩ : ∃ v,v = w4.heap.size + 1:=⟨_,rfl⟩
  obtain ⟨ZC,hZC⟩ : ∃ v,v = w4.heap.size + 1 + 1:=⟨_,rfl⟩
  have HAq:=hd_ (show AllS w wq NB RB b' C1 C2 C3 P1 P2 q1 q2 q3 c1 c2 ps cs by rw [hw];exact ((HA4.out.alloc _).alloc _).alloc _)
  have HOq:=hd_ (show OwB wq w.heap.size o.b D1 D2 D3 s1 s2 s3 by rw [hw];exact ((HO4.out.alloc _).alloc _).alloc _)
  have HLq:=hd_ (show Ow wq w.heap.size 99 3 (.slice D4 o.l.length s4) (o.l.map Line.cells) by rw [hw];exact ((HL4.out.alloc _).alloc _).alloc _)
  have HXq : Hid (Hx wq XB (bkC o.b D1 s1 D2 s2 D3 s3) 39):=hd_ (by rw [hw,hXB];exact zqd (by simp;omega) (zqd (by simp) (zqi rfl)))
  have HYq : Hid (Hx wq YB #[.int .i64 id,.slice D4 o.l.length s4] 66):=hd_ (by rw [hw,hYB];exact zqd (by simp) (zqi (by first | rfl | (simp;done))))
  have HZq : Hid (Hx wq ZC #[.int .i64 o.code] 3):=hd_ (by rw [hw,hZC];exact zqi (by first | rfl | (simp;done)))
  have HXNB : Hid (XB ≠ NB∧w.heap.size ≤ XB):=hd_ ⟨by have:=(gz_ HA4.out.n).1;omega,by have:=HA4.out.b.size;omega⟩
  clear hw HA4 HO4 HL4
  try rw [← hZC]
  try rw [← hYB]
  try rw [← hXB]
  clear hXB hYB hZC
  refine zqz rfl _ _ _ rfl w.heap.size 3 j0 _ 1 8 Tryz.underlying41 HJ0 HJ1 HJ2 HJ3 rfl (by decide) (.slice P2 cs.length c2) (cs.map intCells) (by first | rfl | (rw [List.length_map];rfl)) HAq.out.c ZC 1 [.int .i64 o.code] 3 (by rfl) HZq rfl (by simp [Value.oneCell']) (by rw [List.length_map];omega) (by decide) HAq.out.b.size ?_
  intro g5 cap5 x5 how5 hgr5 hat5 hlt5
  rw [List.length_map] at how5
  have HB:=hd_ (HAq.out.pushC how5 hgr5)
  have HO5:=hd_ (ztc HOq HAq.out.c hgr5)
  have HL5:=hd_ (HLq.out.apart_ HAq.out.c (by decide) hgr5)
  have HX5:=hd_ (zqe hgr5 (HAq.out.c.ne_ HXq (by decide)) HXq)
  have HY5:=hd_ (zqe hgr5 (HAq.out.c.ne_ HYq (by decide)) HYq)
  clear how5 hgr5 hat5 hlt5 HAq HOq HLq HXq HYq HZq
  try rw [List.length_map]
  cases t0 : (o.code == 0)
  ·
   have hc0 : ¬ o.code = 0:=beq_eq_false_iff_ne.1 t0
   have HS2 : Hid ((es.take (k + 1)).foldl allStep (b,[],[]) = (b',ps.map Pst.pl,cs ++ [o.code])):=hd_ (by rw [Fx.out,HF.out,HST.out,if_neg hc0,if_neg fun h => hc0 h.1])
   clear hc0
   go_wp2_with fail
   go_roundw
   case rel => exact ⟨k + 1,b',C1,C2,C3,P1,some ⟨g5,0,none⟩,q1,q2,q3,c1,cap5,ps,cs ++ [o.code],by omega,by go_num,rfl,by rw [List.length_append];rfl,by omega,by rw [List.length_append,List.length_singleton];omega,HS2,HL,HB⟩
   case measure => simp [intOf];omega
  have hc0 : o.code = 0:=eq_of_beq t0
  have jn:=bd6_ HB.out.n
  have m:=bd6_ HX5
  have fN:=zqm HB.out.n
  have jy:=bd2_ HY5
  obtain ⟨wn,hwn⟩ : ∃ v,((((((x5.setCell ⟨NB,0,none⟩ (.int .i64 o.b.t)).setCell ⟨NB,1,none⟩ (.int .i64 o.b.n)).setCell ⟨NB,2,none⟩ (.int .i64 o.b.w)).setCell ⟨NB,3,none⟩ (.slice D1 o.b.cs.length s1)).setCell ⟨NB,4,none⟩ (.slice D2 o.b.hs.length s2)).setCell ⟨NB,5,none⟩ (.slice D3 o.b.os.length s3)) = v:=⟨_,rfl⟩
  have hgn : x5.grownBy wn (some NB):=by rw [← hwn];exact zqg (zqg (zqg (zqg (zqg (zqg (World.grownBy.refl x5 (some NB)) _ _) _ _) _ _) _ _) _ _) _ _
  have HBn : Hid (AllS w wn NB RB o.b D1 D2 D3 P1 (some ⟨g5,0,none⟩) s1 s2 s3 c1 cap5 ps (cs ++ [o.code])):=hd_ (HB.out.next HO5 HNR HGN hgn (by rw [← hwn];exact zqa (zqa (zqa (zqa (zqa (zqa (HB.out.n))))))))
  have HLn : Hid (Ow wn w.heap.size 99 3 (.slice D4 o.l.length s4) (o.l.map Line.cells)):=hd_ (HL5.out.grown hgn (Or.inr (HL5.out.ne_ HB.out.n (by decide)).symm))
  have HYn : Hid (Hx wn YB #[.int .i64 id,.slice D4 o.l.length s4] 66):=hd_ (zqe hgn (fun e9 => by injection e9 with e9;have h8:=HY5.out;rw [e9,HB.out.n] at h8;injection h8 with h8;injection h8 with _ h8;exact absurd h8 (by decide)) HY5)
  have jv:=bd2_ HYn
  have hn1 : ¬ NB = XB:=fun e9 => HXNB.out.1 e9.symm
  have hn2 : ¬ XB = NB:=HXNB.out.1
  clear hgn HB HO5 HL5 HX5 HY5
  cases t1 : decide ((0 : Nat) < o.l.length)
  ·
   have hl0 : o.l = []:=List.eq_nil_of_length_eq_zero (by have:=of_decide_eq_false t1;omega)
   have HS2 : Hid ((es.take (k + 1)).foldl allStep (b,[],[]) = (o.b,ps.map Pst.pl,cs ++ [o.code])):=hd_ (by rw [Fx.out,HF.out,HST.out,if_pos hc0,if_neg fun h => h.2 hl0])
   clear hc0 hl0
   go_wp2_with fail
   try simp only [hwn]
   go_roundw
   case rel => exact ⟨k + 1,o.b,D1,D2,D3,P1,some ⟨g5,0,none⟩,s1,s2,s3,c1,cap5,ps,cs ++ [o.code],by omega,by go_num,rfl,by rw [List.length_append];rfl,by omega,by rw [List.length_append,List.length_singleton];omega,HS2,HL2,by first | exact HBn | (rw [hwn];exact HBn)⟩
   case measure => simp [intOf];omega
  have hl0 : o.l ≠ []:=fun e9 => by have:=of_decide_eq_true t1;rw [e9] at this;exact absurd this (by decide)
  have hid : id = b'.n:=by rw [HID.out,if_neg hl0]
  have HS2 : Hid ((es.take (k + 1)).foldl allStep (b,[],[]) = (o.b,(ps ++ [(⟨id,D4,s4,o.l⟩ : Pst)]).map Pst.pl,cs ++ [o.code])):=hd_ (by rw [Fx.out,HF.out,HST.out,if_pos hc0,if_pos ⟨hc0,hl0⟩,List.map_append,hid];rfl)
  clear hc0 hl0 hid
  go_wp2_with (at_builtin;refine Stop.go ?_)
  refine Stop.on ?_
  try rw [hwn]
  refine zva (fun wp hw => ?_)
  have HAp:=hd_ (show AllS w wp NB RB o.b D1 D2 D3 P1 (some ⟨g5,0,none⟩) s1 s2 s3 c1 cap5 ps (cs ++ [o.code]) by rw [hw];exact HBn.out.alloc _)
  have HLp:=hd_ (show Ow wp w.heap.size 99 3 (.slice D4 o.l.length s4) (o.l.map Line.cells) by rw [hw];exact HLn.out.alloc _)
  have HZp : Hid (wp.heap[wn.heap.size]? = some (.cells #[.int .i64 id,.slice D4 o.l.length s4] 66 (0,0))):=hd_ (by rw [hw];exact zqi rfl)
  clear hw HBn HLn HYn
  refine zqz rfl _ _ _ rfl w.heap.size 66 i0 _ 2 32 Tryz.underlying40 HI0 HI1 HI2 HI3 rfl (by decide) (.slice P1 ps.length c1) (ps.map Pst.cells) (by first | rfl | (rw [List.length_map];rfl)) HAp.out.p wn.heap.size 1 [.int .i64 id,.slice D4 o.l.length s4] 66 (by rfl) HZp rfl (by simp [Value.oneCell']) (by rw [List.length_map];omega) (by decide) HAp.out.b.size ?_
  intro g6 cap6 x6 how6 hgr6 hat6 hlt6
  rw [List.length_map] at how6
  have HB6:=hd_ (HAp.out.pushP (x:=⟨id,D4,s4,o.l⟩) HLp how6 hgr6)
  clear how6 hgr6 hat6 hlt6 HAp HLp HZp hwn
  try rw [List.length_map]
  go_wp2_with fail
  go_roundw
  case rel => exact ⟨k + 1,o.b,D1,D2,D3,some ⟨g6,0,none⟩,some ⟨g5,0,none⟩,s1,s2,s3,cap6,cap5,ps ++ [⟨id,D4,s4,o.l⟩],cs ++ [o.code],by omega,by go_num,by rw [List.length_append];rfl,by rw [List.length_append];rfl,by rw [List.length_append,List.length_singleton];omega,by rw [List.length_append,List.length_singleton];omega,HS2,HL2,HB6⟩
  case measure => simp [intOf];omega
end Go.Proofs.YtdbmkfmenfcbiaaGreat
