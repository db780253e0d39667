/- A channel is closed: the reference's walk. -/
import Derived.Test.YtdbmkfmenfcbiaaGreatRows
import Derived.Test.YtdbmkfmenfcbiaaGreatNM3
import Derived.Test.YtdbmkfmenfcbiaaGreatNM1
import Derived.Test.YtdbmkfmenfcbiaaGreatNM2
namespace Go.Proofs.YtdbmkfmenfcbiaaGreat
open Go.RowKit Go.Deep
def notCh (ch : Int) (c : Chan) : Bool:=c.Id != ch
def closeB (b : Bk) (e : Event) : Out :=
 if chanIx b.cs e.Ch < 0 then bad 6
 else if busyB b.hs b.os e.Ch = true then bad 7
 else if (chanOf b.cs e.Ch).Local < e.Fee then bad 8
 else done ⟨b.t,b.n,b.w + (chanOf b.cs e.Ch).Local - e.Fee,b.cs.filter (notCh e.Ch),b.hs,b.os⟩ (nz [⟨1,0,(chanOf b.cs e.Ch).Local - e.Fee⟩,⟨5,0,e.Fee⟩,⟨6,e.Ch,-(chanOf b.cs e.Ch).Local⟩])
theorem closeB_6 {b : Bk} {e : Event} (h : chanIx b.cs e.Ch < 0) : closeB b e = bad 6:=by unfold closeB;rw [if_pos h]
theorem closeB_7 {b : Bk} {e : Event} (h : 0 ≤ chanIx b.cs e.Ch) (h2 : busyB b.hs b.os e.Ch = true) : closeB b e = bad 7:=by unfold closeB;rw [if_neg (by omega),if_pos h2]
theorem closeB_8 {b : Bk} {e : Event} {c : Chan} (h : 0 ≤ chanIx b.cs e.Ch) (h2 : busyB b.hs b.os e.Ch = false) (hc : chanOf b.cs e.Ch = c) (h3 : c.Local < e.Fee) : closeB b e = bad 8:=by subst hc;unfold closeB;rw [if_neg (by omega),if_neg (by rw [h2];decide),if_pos h3]
theorem zgc {b : Bk} {e : Event} {c : Chan} (h : 0 ≤ chanIx b.cs e.Ch) (h2 : busyB b.hs b.os e.Ch = false) (hc : chanOf b.cs e.Ch = c) (h3 : e.Fee ≤ c.Local) : closeB b e = done ⟨b.t,b.n,b.w + c.Local - e.Fee,b.cs.filter (notCh e.Ch),b.hs,b.os⟩ (nz [⟨1,0,c.Local - e.Fee⟩,⟨5,0,e.Fee⟩,⟨6,e.Ch,-c.Local⟩]):=by
 subst hc;unfold closeB;rw [if_neg (by omega),if_neg (by rw [h2];decide),if_neg (by omega)]
set_option maxRecDepth 100000 in
set_option maxHeartbeats 4000000 in
theorem zml (w0 w : World) (B X : Nat) (b : Bk) (A1 A2 A3 A4 : Option Addr) (p1 p2 p3 p4 : Nat) (e : Event) (hF : BookFacts b.t b.n b.w b.cs b.hs b.os) (hf : amtB e.Fee = true) (h : Wk 108 w0 w B X b [] 0 A1 A2 A3 A4 p1 p2 p3 p4) :
  Calls Tryz.prog 69 #[.pointer (some ⟨X,0,none⟩),.agg #[.int .i64 e.Kind,.int .i64 e.Key,.int .i64 e.Ch,.int .i64 e.To,.int .i64 e.Amt,.int .i64 e.Fee,.bool e.Yes]] w (Acts 108 w B X (closeB b e)):=by
 have H:=hd_ h.here
 clear h
 obtain ⟨L,hL⟩ : ∃ L : List Line,L = []:=⟨_,rfl⟩
 rw [← hL] at H
 have HL:=hd_ hL
 clear hL
 obtain ⟨E,hE⟩ : ∃ E,E = w.heap.size:=⟨_,rfl⟩
 obtain ⟨m1,m2⟩:=zja.1 hf
 obtain ⟨m5,m6⟩:=hF.w
 have hcl:=hF.cl
 have h60:=hF.small.hl
 have h20:=hF.small.ol
 have HC:=hd_ hF.ch
 clear hF
 obtain ⟨i0,hi,hz0,hz1,hz2⟩:=info_parts zjx
 have HI0:=hd_ hi
 have HI1:=hd_ hz0
 have HI2:=hd_ hz1
 have HI3:=hd_ hz2
 clear hi hz0 hz1 hz2
 go_enter Tryz.func69,Tryz.ntmps69
 go_wp2_with fail
 rw [← hE]
 refine nm_ ?_
 intro w1 hw
 have HW1:=wka_ hw H
 have HE1 : Hid (Hx w1 E (evC e) 64):=hd_ (by rw [hw];exact (hE ▸ zqi rfl))
 clear hw
 obtain ⟨a,af,az⟩:=opc_ HW1.out.open_
 have jE:=bd7_ HE1
 have hEB : Hid (w.heap.size ≤ E):=hd_ (by omega)
 have HXE : Hid (E ≠ X):=hd_ (by have:=H.out.lt;omega)
 clear hE
 refine zql (fun w' => kqiiissss w' X b.t b.n b.w A1 b.cs.length p1 A2 b.hs.length p2 A3 b.os.length p3 A4 L.length p4 (kqE_ w' E e)) [yF 0 9,yF 1 10,yF 2 11,yF 3 12,yF 4 13,yF 5 14,yT 6 15,yF 7 4] (by kernel_rfl) (by kernel_rfl) (by kernel_rfl) (q78_ a jE) (fun hH => ?_)
 obtain ⟨w2,hwd⟩ : ∃ wd,w1.drew = wd:=⟨_,rfl⟩
 have HW2:=wkd_ hwd HW1
 have HE2:=hr_ hwd HE1
 clear a af az jE
 rw [hwd] at hH ⊢
 clear hwd
 obtain ⟨a,af,az⟩:=opc_ HW2.out.open_
 have jE:=bd7_ HE2
 refine tk_ ?_
 refine ss_ (fun K hK => ?_)
 go_simp
 refine (zjk b.t b.n b.w b.cs b.hs b.os _ _ _ _ _ _ e.Ch _ (by omega) HW2.out.o.rd).mono ?_
 rintro e' w3 ⟨rfl,hb⟩
 have HW3:=hd_ (HW2.out.below hb)
 have HE3:=hb_ hb HE2
 clear hb
 clear a af az jE
 obtain ⟨a,af,az⟩:=opc_ HW3.out.open_
 have jE:=bd7_ HE3
 go_simp
 refine hK.out _ _ (q78_ a jE) (fun hH => ?_)
 clear hK K
 refine tk_ ?_
 refine Sq.done (NoPanic.normal ?_)
 cases t1 : decide (chanIx b.cs e.Ch < 0)
 rotate_left
 ·
  have t1x:=of_decide_eq_true t1
  go_wp2_with fail
  refine (zqy _ _ B X b L A1 A2 A3 A4 p1 p2 p3 p4 6 (by decide) HW3).mono ?_
  rintro e' w4 ⟨rfl,hh,ho⟩
  have HW4:=hd_ (HW3.out.trans hh)
  have HE4:=hd_ (ho _ _ HXE HE3)
  clear hh ho
  clear a af az jE
  obtain ⟨a,af,az⟩:=opc_ HW4.out.open_
  have jE:=bd7_ HE4
  go_wp2_with fail
  go_end0
  rw [closeB_6 t1x]
  exact Acts.no (by decide) ⟨_,_,_,_,_,_,_,_,rfl,HW4.out⟩
 have t1x:=of_decide_eq_false t1
 obtain ⟨i,hi⟩:=Int.eq_ofNat_of_zero_le (show 0 ≤ chanIx b.cs e.Ch by omega)
 have hix : 0 ≤ chanIx b.cs e.Ch:=by omega
 clear t1x
 have hlt:=zxm hi
 obtain ⟨c,hc⟩ : ∃ c,chanOf b.cs e.Ch = c:=⟨_,rfl⟩
 have hci : b.cs[i] = c:=by rw [← hc];unfold chanOf;rw [hi,Int.toNat_natCast,List.getD_eq_getElem?_getD,List.getElem?_eq_getElem hlt];rfl
 have hch:=HC.out i hlt
 rw [hci] at hch
 have hr : (b.cs.map Chan.cells)[i]? = some c.cells:=by rw [List.getElem?_map,List.getElem?_eq_getElem hlt,hci];rfl
 obtain ⟨k0,k1,k2,k3,k4,k5,k6⟩:=c
 simp only [chB,Bool.and_eq_true] at hch
 obtain ⟨m3,m4⟩:=zja.1 hch.1.1.1.1.1.1.2
 (try simp only at m3 m4)
 have HCC:=hd_ hc
 have HIX:=hd_ hix
 have HRow:=hd_ hr
 clear hch hc hci hix hr
 obtain ⟨g,hA,hBg⟩:=HW3.out.o.c.headW (by rw [List.length_map];omega)
 subst hA
 go_wp2_with fail
 refine (zqp _ _ B X b L (some ⟨g,0,none⟩) A2 A3 A4 p1 p2 p3 p4 6 HW3).mono ?_
 rintro e' wz ⟨rfl,rfl⟩
 rw [hi] at t1 ⊢
 have ix0 : (0 : Int) ≤ (i : Int):=by omega
 have ix1 : (i : Int) < (b.cs.length : Int):=by omega
 clear t1 hi
 have c0:=HW3.out.o.c.cellAt HRow (j:=0) (by decide)
 have c1:=HW3.out.o.c.cellAt HRow (j:=1) (by decide)
 have c2:=HW3.out.o.c.cellAt HRow (j:=2) (by decide)
 have c3:=HW3.out.o.c.cellAt HRow (j:=3) (by decide)
 have c4:=HW3.out.o.c.cellAt HRow (j:=4) (by decide)
 have c5:=HW3.out.o.c.cellAt HRow (j:=5) (by decide)
 have c6:=HW3.out.o.c.cellAt HRow (j:=6) (by decide)
 simp only [Chan.cells,List.getElem?_cons_zero,List.getElem?_cons_succ,Nat.add_zero] at c0 c1 c2 c3 c4 c5 c6
 go_wp2_with fail
 clear c0 c1 c2 c3 c4 c5 c6
 obtain ⟨C,hC⟩ : ∃ C,C = w3.heap.size:=⟨_,rfl⟩
 rw [← hC]
 have HXC : Hid (C ≠ X):=hd_ (by omega)
 clear a af az jE
 refine nm_ ?_
 intro w4 hw
 have HW4:=wka_ hw HW3
 have HE4:=ha_ hw HE3
 have HC4 : Hid (Hx w4 C (qaiiiiiii k0 k1 k2 k3 k4 k5 k6) 103):=hd_ (by rw [hw];exact (hC ▸ zqi rfl))
 clear hw
 obtain ⟨a,af,az⟩:=opc_ HW4.out.open_
 have jE:=bd7_ HE4
 have jC:=bd7_ HC4
 clear hC
 cases t2 : busyB b.hs b.os e.Ch
 rotate_left
 ·
  have HB:=hd_ t2
  refine zql (fun w' => kqiiissss w' X b.t b.n b.w (some ⟨g,0,none⟩) b.cs.length p1 A2 b.hs.length p2 A3 b.os.length p3 A4 L.length p4 (kqE w' E e (kqiiiiiii_ w' C k0 k1 k2 k3 k4 k5 k6))) [yF 0 28,yF 1 29,yF 2 30,yF 3 31,yF 4 32,yF 5 33,yF 6 34,yT 7 35,yT 8 36,yF 9 37,yH 10 38 37,yH 11 39 37,yH 12 40 37,yH 13 41 37,yH 14 42 37,yH 15 43 37,(16,some 44,true,some (37,false)),yF 17 45] (by kernel_rfl) (by kernel_rfl) (by kernel_rfl) (q78_ a (q7_ jE jC)) (fun hH => ?_)
  obtain ⟨w5,hwd⟩ : ∃ wd,w4.drew = wd:=⟨_,rfl⟩
  have HW5:=wkd_ hwd HW4
  have HE5:=hr_ hwd HE4
  have HC5:=hr_ hwd HC4
  clear a af az jE jC
  rw [hwd] at hH ⊢
  clear hwd
  obtain ⟨a,af,az⟩:=opc_ HW5.out.open_
  have jE:=bd7_ HE5
  have jC:=bd7_ HC5
  refine tk_ ?_
  refine ss_ (fun K hK => ?_)
  go_simp
  refine (ztd b.t b.n b.w b.cs b.hs b.os _ _ _ _ _ _ e.Ch _ h60 h20 HW5.out.o.rd).mono ?_
  rintro e' w6 ⟨rfl,hb⟩
  have HW6:=hd_ (HW5.out.below hb)
  have HE6:=hb_ hb HE5
  have HC6:=hb_ hb HC5
  clear hb
  go_simp
  refine hK.out _ _ (q78_ (opc_ HW6.out.open_).1 (q7_ (bd7_ HE6) (bd7_ HC6))) (fun hH => ?_)
  clear hK K
  refine tk_ ?_
  refine ss_ (fun K hK => ?_)
  go_simp
  refine (zqy _ _ B X b L (some ⟨g,0,none⟩) A2 A3 A4 p1 p2 p3 p4 7 (by decide) HW6).mono ?_
  rintro e' w7 ⟨rfl,hh,ho⟩
  have HW7:=hd_ (HW6.out.trans hh)
  have HE7:=hd_ (ho _ _ HXE HE6)
  have HC7:=hd_ (ho _ _ HXC HC6)
  clear hh ho
  clear a af az jE jC
  obtain ⟨a,af,az⟩:=opc_ HW7.out.open_
  have jE:=bd7_ HE7
  have jC:=bd7_ HC7
  go_simp
  refine hK.out _ _ (q78_ a (q7_ jE jC)) (fun hH => ?_)
  clear hK K
  refine tk_ ?_
  refine Sq.done (NoPanic.normal ?_)
  go_wp2_with fail
  go_end0
  rw [closeB_7 HIX HB.out]
  exact Acts.no (by decide) ⟨_,_,_,_,_,_,_,_,rfl,HW7.out⟩
 cases t3 : decide (e.Fee > k2)
 rotate_left
 ·
  have m7:=of_decide_eq_true t3
  refine zql (fun w' => kqiiissss w' X b.t b.n b.w (some ⟨g,0,none⟩) b.cs.length p1 A2 b.hs.length p2 A3 b.os.length p3 A4 L.length p4 (kqE w' E e (kqiiiiiii_ w' C k0 k1 k2 k3 k4 k5 k6))) [yF 0 28,yF 1 29,yF 2 30,yF 3 31,yF 4 32,yF 5 33,yF 6 34,yT 7 35,yT 8 36,yF 9 37,yH 10 38 37,yH 11 39 37,yH 12 40 37,yH 13 41 37,yH 14 42 37,yH 15 43 37,(16,some 44,true,some (37,false)),yF 17 45] (by kernel_rfl) (by kernel_rfl) (by kernel_rfl) (q78_ a (q7_ jE jC)) (fun hH => ?_)
  obtain ⟨w5,hwd⟩ : ∃ wd,w4.drew = wd:=⟨_,rfl⟩
  have HW5:=wkd_ hwd HW4
  have HE5:=hr_ hwd HE4
  have HC5:=hr_ hwd HC4
  clear a af az jE jC
  rw [hwd] at hH ⊢
  clear hwd
  obtain ⟨a,af,az⟩:=opc_ HW5.out.open_
  have jE:=bd7_ HE5
  have jC:=bd7_ HC5
  refine tk_ ?_
  refine ss_ (fun K hK => ?_)
  go_simp
  refine (ztd b.t b.n b.w b.cs b.hs b.os _ _ _ _ _ _ e.Ch _ h60 h20 HW5.out.o.rd).mono ?_
  rintro e' w6 ⟨rfl,hb⟩
  have HW6:=hd_ (HW5.out.below hb)
  have HE6:=hb_ hb HE5
  have HC6:=hb_ hb HC5
  clear hb
  clear a af az jE jC
  obtain ⟨a,af,az⟩:=opc_ HW6.out.open_
  have jE:=bd7_ HE6
  have jC:=bd7_ HC6
  go_simp
  refine hK.out _ _ (q78_ a (q7_ jE jC)) (fun hH => ?_)
  clear hK K
  refine tk_ ?_
  refine ss_ (fun K hK => ?_)
  go_simp
  refine (zqp _ _ B X b L (some ⟨g,0,none⟩) A2 A3 A4 p1 p2 p3 p4 7 HW6).mono ?_
  rintro e' wz ⟨rfl,rfl⟩
  go_simp
  refine hK.out _ _ (q78_ a (q7_ jE jC)) (fun hH => ?_)
  clear hK K
  refine tk_ ?_
  refine ss_ (fun K hK => ?_)
  go_simp
  refine (zqy _ _ B X b L (some ⟨g,0,none⟩) A2 A3 A4 p1 p2 p3 p4 8 (by decide) HW6).mono ?_
  rintro e' w7 ⟨rfl,hh,ho⟩
  have HW7:=hd_ (HW6.out.trans hh)
  have HE7:=hd_ (ho _ _ HXE HE6)
  have HC7:=hd_ (ho _ _ HXC HC6)
  clear hh ho
  clear a af az jE jC
  obtain ⟨a,af,az⟩:=opc_ HW7.out.open_
  have jE:=bd7_ HE7
  have jC:=bd7_ HC7
  go_simp
  refine hK.out _ _ (q78_ a (q7_ jE jC)) (fun hH => ?_)
  clear hK K
  refine tk_ ?_
  refine Sq.done (NoPanic.normal ?_)
  go_wp2_with fail
  go_end0
  rw [closeB_8 HIX t2 HCC m7]
  exact Acts.no (by decide) ⟨_,_,_,_,_,_,_,_,rfl,HW7.out⟩
 refine zql (fun w' => kqiiissss w' X b.t b.n b.w (some ⟨g,0,none⟩) b.cs.length p1 A2 b.hs.length p2 A3 b.os.length p3 A4 L.length p4 (kqE w' E e (kqiiiiiii_ w' C k0 k1 k2 k3 k4 k5 k6))) [yF 0 28,yF 1 29,yF 2 30,yF 3 31,yF 4 32,yF 5 33,yF 6 34,yT 7 35,yT 8 36,yF 9 37,yH 10 38 37,yH 11 39 37,yH 12 40 37,yH 13 41 37,yH 14 42 37,yH 15 43 37,(16,some 44,true,some (37,false)),yF 17 45] (by kernel_rfl) (by kernel_rfl) (by kernel_rfl) (q78_ a (q7_ jE jC)) (fun hH => ?_)
 obtain ⟨w5,hwd⟩ : ∃ wd,w4.drew = wd:=⟨_,rfl⟩
 have HW5:=wkd_ hwd HW4
 have HE5:=hr_ hwd HE4
 have HC5:=hr_ hwd HC4
 clear a af az jE jC
 rw [hwd] at hH ⊢
 clear hwd
 obtain ⟨a,af,az⟩:=opc_ HW5.out.open_
 have jE:=bd7_ HE5
 have jC:=bd7_ HC5
 refine tk_ ?_
 refine ss_ (fun K hK => ?_)
 go_simp
 refine (ztd b.t b.n b.w b.cs b.hs b.os _ _ _ _ _ _ e.Ch _ h60 h20 HW5.out.o.rd).mono ?_
 rintro e' w6 ⟨rfl,hb⟩
 have HW6:=hd_ (HW5.out.below hb)
 have HE6:=hb_ hb HE5
 have HC6:=hb_ hb HC5
 clear hb
 clear a af az jE jC
 obtain ⟨a,af,az⟩:=opc_ HW6.out.open_
 have jE:=bd7_ HE6
 have jC:=bd7_ HC6
 go_simp
 refine hK.out _ _ (q78_ a (q7_ jE jC)) (fun hH => ?_)
 clear hK K
 refine tk_ ?_
 refine ss_ (fun K hK => ?_)
 go_simp
 refine (zqp _ _ B X b L (some ⟨g,0,none⟩) A2 A3 A4 p1 p2 p3 p4 7 HW6).mono ?_
 rintro e' wz ⟨rfl,rfl⟩
 go_simp
 refine hK.out _ _ (q78_ a (q7_ jE jC)) (fun hH => ?_)
 clear hK K
 refine tk_ ?_
 refine ss_ (fun K hK => ?_)
 go_simp
 refine (zqp _ _ B X b L (some ⟨g,0,none⟩) A2 A3 A4 p1 p2 p3 p4 8 HW6).mono ?_
 rintro e' wz ⟨rfl,rfl⟩
 go_simp
 refine hK.out _ _ (q78_ a (q7_ jE jC)) (fun hH => ?_)
 clear hK K
 refine tk_ ?_
 refine Sq.done (NoPanic.normal ?_)
 have m7:=of_decide_eq_false t3
 have HO:=hd_ (zgc (b:=b) (e:=e) HIX t2 HCC (by simp only;omega))
 clear t2 t3
 have hEl:=(gz_ HE6).1
 have hCl:=(gz_ HC6).1
 go_wp2_with fail
 refine nm_ ?_
 intro wl hw
 have HP : Hid (Ow wl w6.heap.size 103 7 (.slice (some ⟨w6.heap.size,0,none⟩) 0 0) []):=hd_ (by rw [hw];exact Ow.empty_ rfl (Nat.le_refl _))
 have hBl : Below w6.heap.size w6 wl:=by rw [hw];exact bl_
 clear hw a af az jE jC
 go_loopw [6,53] (fun vo i wr => ∃ (k : Nat) (out : List Chan) (A' : Option Addr) (cap' : Nat),k ≤ b.cs.length∧i = .int .i64 k∧vo = .slice A' out.length cap'∧Hid ((b.cs.take k).filter (notCh e.Ch) = out)∧Hid (Ow wr w6.heap.size 103 7 (.slice A' out.length cap') (out.map Chan.cells))∧Below w6.heap.size w6 wr) (fun _ i _ => b.cs.length - (intOf i).toNat)
 case atStart => exact ⟨0,[],some ⟨w6.heap.size,0,none⟩,0,Nat.zero_le _,rfl,rfl,hd_ rfl,HP,hBl⟩
 case round =>
  obtain ⟨k,out,A',cap',hk,rfl,rfl,HF,HO1,hbw1⟩:=hrel
  have hbz:=hbw1.size
  have hol : out.length ≤ 60:=by
   rw [← HF.out]
   exact Nat.le_trans (List.length_filter_le _ _) (by rw [List.length_take];omega)
  have e2 : wr.cell? ⟨E,2,none⟩ = some (.int .i64 e.Ch):=zqc (zqr hbw1 hEl HE6) 2
  have ez : E < wr.heap.size:=by omega
  by_cases hlt : k < b.cs.length
  ·
   obtain ⟨bb,off,hA1,hbB,c0,c1,c2,c3,c4,c5,c6⟩:=Chan.rd (HW6.out.o.rd.c.below hbw1) hlt
   first | subst hA1 | (simp only [Option.some.injEq,Addr.mk.injEq,and_true] at hA1;obtain ⟨rfl,rfl⟩:=hA1;simp only [Nat.zero_add] at c0 c1 c2 c3 c4 c5 c6)
   have Fx:=hd_ (zkg (p:=(notCh e.Ch)) hlt)
   have j0 : (0 : Int) ≤ (k : Int):=by omega
   have j1 : (k : Int) < (b.cs.length : Int):=by omega
   cases tx : (b.cs[k].Id != e.Ch)
   ·
    have KS:=hd_ (show (if (notCh e.Ch) b.cs[k] = true then [b.cs[k]] else []) = [] by simp [notCh,tx])
    go_wp2_with fail
    go_roundw
    case rel => exact ⟨k + 1,out,A',cap',by omega,by go_num,rfl,hd_ (by rw [Fx.out,HF.out,KS.out,List.append_nil]),hd_ (HO1.out.alloc _),hbw1.alloc (by omega) _⟩
    case measure => simp [intOf];omega
   have KS:=hd_ (show (if (notCh e.Ch) b.cs[k] = true then [b.cs[k]] else []) = [b.cs[k]] by simp [notCh,tx])
   go_wp2_with (at_builtin;refine Stop.go ?_)
   refine Stop.on ?_
   refine zqz rfl _ _ _ rfl w6.heap.size 103 i0 _ 7 56 Tryz.underlying35 HI0 HI1 HI2 HI3 rfl (by decide) (.slice A' out.length cap') _ (by rfl) ((HO1.out.alloc _).alloc _) (wr.heap.size + 1) 1 [.int .i64 b.cs[k].Id,.int .i64 b.cs[k].Size,.int .i64 b.cs[k].Local,.int .i64 b.cs[k].Remote,.int .i64 b.cs[k].Base,.int .i64 b.cs[k].Ppm,.int .i64 b.cs[k].Score] 103 (by rfl) (zqi (by first | rfl | (simp;done))) rfl (by simp [Value.oneCell']) (by rw [List.length_map];omega) (by decide) (by first | omega | (simp;done) | (simp;omega)) ?_
   intro g2 cap2 x2 how2 hgr2 hat2 hlt2
   have hb2 : Below w6.heap.size w6 x2:=Below.grown (((hbw1.alloc (by omega) _).alloc (by simp;omega) _)) hgr2 (by simp;omega) (fun k9 e9 => (HO1.out.block k9 e9).1)
   clear hat2 hgr2 HO1
   rw [List.length_map] at how2 ⊢
   go_wp2_with fail
   go_roundw
   case rel => exact ⟨k + 1,out ++ [b.cs[k]],some ⟨g2,0,none⟩,cap2,by omega,by go_num,by rw [List.length_append];rfl,hd_ (by rw [Fx.out,HF.out,KS.out]),hd_ (by rw [List.map_append,List.length_append];exact how2),hb2⟩
   case measure => simp [intOf];omega
  obtain rfl : k = b.cs.length:=by omega
  have qf:=HF.out
  rw [List.take_length] at qf
  have HI:=hd_ qf
  clear qf HF hk
  have HWr:=hd_ (HW6.out.below hbw1)
  have HEr:=hd_ (zqr hbw1 hEl HE6)
  have HCr:=hd_ (zqr hbw1 hCl HC6)
  have HW_wr:=HWr
  have HE_wr:=HEr
  have HC_wr:=HCr
  clear HWr HEr HCr
  obtain ⟨a,af,az⟩:=opc_ HW_wr.out.open_
  have jE:=bd7_ HE_wr
  have jC:=bd7_ HC_wr
  go_wp2_with fail
  refine nm_ ?_
  intro w7 hw
  have HW7 : Hid (Wk 108 w w7 B X ⟨b.t,b.n,b.w,out,b.hs,b.os⟩ L 0 A' A2 A3 A4 cap' p2 p3 p4):=hd_ (by rw [hw];exact HW_wr.out.setC (by decide) (by decide) (by decide) (by decide) (HO1.out.more HW6.out.ble))
  have HE7:=hf_ hw HXE HE_wr
  have HC7:=hf_ hw HXC HC_wr
  clear hw
  clear a af az jE jC
  obtain ⟨a,af,az⟩:=opc_ HW7.out.open_
  have jE:=bd7_ HE7
  have jC:=bd7_ HC7
  have hw1 : IntKind.i64.wrap (b.w + k2) = b.w + k2:=IntWalk.i64_in _ (by omega)
  have hw2 : IntKind.i64.wrap (b.w + k2 - e.Fee) = b.w + k2 - e.Fee:=IntWalk.i64_in _ (by omega)
  refine zqs (fun w' => kqiiissss w' X b.t b.n b.w A' out.length cap' A2 b.hs.length p2 A3 b.os.length p3 A4 L.length p4 (kqE w' E e (kqiiiiiii_ w' C k0 k1 k2 k3 k4 k5 k6))) [yF 0 72,yF 1 73,yF 2 74,yF 3 75,yF 4 76,yF 5 77,yF 6 78,yF 7 79,yF 8 80,yF 9 81,yF 10 82,yF 11 83,yF 12 84,yF 13 85,yF 14 86] rfl (by kernel_rfl) (by kernel_rfl) (by kernel_rfl) (by kernel_rfl) (by kernel_rfl) (by kernel_rfl) (q78_ a (q7_ jE jC)) (fun hH => ?_)
  obtain ⟨w8,hwd⟩ : ∃ wd,w7.drew = wd:=⟨_,rfl⟩
  have HW8:=wkd_ hwd HW7
  have HE8:=hr_ hwd HE7
  have HC8:=hr_ hwd HC7
  clear a af az jE jC
  rw [hwd] at hH ⊢
  clear hwd
  obtain ⟨a,af,az⟩:=opc_ HW8.out.open_
  have jE:=bd7_ HE8
  have jC:=bd7_ HC8
  refine tk_ ?_
  refine Sq.done ?_
  intro KK hKK
  go_simp
  refine hKK _ _ (NoPanic.normal ?_)
  refine nm_ ?_
  intro w9 hw
  have HW9 : Hid (Wk 108 w w9 B X ⟨b.t,b.n,b.w + k2 - e.Fee,out,b.hs,b.os⟩ L 0 A' A2 A3 A4 cap' p2 p3 p4):=hd_ (by rw [hw];exact HW8.out.setWallet (by decide) (by decide) (by decide) (by decide) _)
  have HE9:=hf_ hw HXE HE8
  have HC9:=hf_ hw HXC HC8
  clear hw
  clear a af az jE jC
  obtain ⟨a,af,az⟩:=opc_ HW9.out.open_
  have jE:=bd7_ HE9
  have jC:=bd7_ HC9
  clear hw1 hw2
  go_wp2_with fail
  refine (zxo _ _ B X ⟨b.t,b.n,b.w + k2 - e.Fee,out,b.hs,b.os⟩ L 0 A' A2 A3 A4 cap' p2 p3 p4 1 0 (k2 - e.Fee) (by rw [HL.out];decide) HW9).mono ?_
  rintro e' w10 ⟨⟨Cw100,Cw101,Cw102,Cw103,rw100,rw101,rw102,rw103,rfl,hh⟩,ho⟩
  have HE10:=hd_ (ho _ _ HXE HE9)
  have HC10:=hd_ (ho _ _ HXC HC9)
  obtain ⟨L1,hL9⟩ : ∃ v,lineTo L 1 0 (k2 - e.Fee) = v:=⟨_,rfl⟩
  rw [hL9] at hh
  have hlL1 : L1.length ≤ L.length + 1:=by rw [← hL9];exact zqu _ _ _ _
  have HL1:=hd_ hL9
  have HW10:=hd_ (HW9.out.trans hh)
  clear hh ho hL9
  clear a af az jE jC
  obtain ⟨a,af,az⟩:=opc_ HW10.out.open_
  have jE:=bd7_ HE10
  have jC:=bd7_ HC10
  go_wp2_with fail
  refine (zxo _ _ B X ⟨b.t,b.n,b.w + k2 - e.Fee,out,b.hs,b.os⟩ L1 0 Cw100 Cw101 Cw102 Cw103 rw100 rw101 rw102 rw103 5 0 e.Fee (by rw [HL.out] at hlL1;simp at hlL1;omega) HW10).mono ?_
  rintro e' w11 ⟨⟨Cw110,Cw111,Cw112,Cw113,rw110,rw111,rw112,rw113,rfl,hh⟩,ho⟩
  have HE11:=hd_ (ho _ _ HXE HE10)
  have HC11:=hd_ (ho _ _ HXC HC10)
  obtain ⟨L2,hL9⟩ : ∃ v,lineTo L1 5 0 e.Fee = v:=⟨_,rfl⟩
  rw [hL9] at hh
  have hlL2 : L2.length ≤ L1.length + 1:=by rw [← hL9];exact zqu _ _ _ _
  have HL2:=hd_ hL9
  have HW11:=hd_ (HW10.out.trans hh)
  clear hh ho hL9
  clear a af az jE jC
  obtain ⟨a,af,az⟩:=opc_ HW11.out.open_
  have jE:=bd7_ HE11
  have jC:=bd7_ HC11
  go_wp2_with fail
  refine (zxo _ _ B X ⟨b.t,b.n,b.w + k2 - e.Fee,out,b.hs,b.os⟩ L2 0 Cw110 Cw111 Cw112 Cw113 rw110 rw111 rw112 rw113 6 e.Ch (-k2) (by rw [HL.out] at hlL1;simp at hlL1;omega) HW11).mono ?_
  rintro e' w12 ⟨⟨Cw120,Cw121,Cw122,Cw123,rw120,rw121,rw122,rw123,rfl,hh⟩,ho⟩
  have HE12:=hd_ (ho _ _ HXE HE11)
  have HC12:=hd_ (ho _ _ HXC HC11)
  obtain ⟨L3,hL9⟩ : ∃ v,lineTo L2 6 e.Ch (-k2) = v:=⟨_,rfl⟩
  rw [hL9] at hh
  have hlL3 : L3.length ≤ L2.length + 1:=by rw [← hL9];exact zqu _ _ _ _
  have HL3:=hd_ hL9
  have HW12:=hd_ (HW11.out.trans hh)
  clear hh ho hL9
  clear a af az jE jC
  obtain ⟨a,af,az⟩:=opc_ HW12.out.open_
  have jE:=bd7_ HE12
  have jC:=bd7_ HC12
  go_wp2_with fail
  go_end0
  rw [HO.out]
  have HZ : b.cs.filter (notCh e.Ch) = out∧nz [⟨1,0,k2 - e.Fee⟩,⟨5,0,e.Fee⟩,⟨6,e.Ch,-k2⟩] = L3:=⟨HI.out,by rw [← HL3.out,← HL2.out,← HL1.out,HL.out];exact (line3 (by decide) (by decide)).symm⟩
  rw [HZ.1,HZ.2]
  exact Acts.ok ⟨_,_,_,_,_,_,_,_,rfl,HW12.out⟩
end Go.Proofs.YtdbmkfmenfcbiaaGreat
