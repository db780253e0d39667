/- A payment is let through: the reference's walk. -/
import Derived.Test.YtdbmkfmenfcbiaaGreatRows
import Derived.Test.YtdbmkfmenfcbiaaGreatNM3
import Derived.Test.YtdbmkfmenfcbiaaGreatNM1
import Derived.Test.YtdbmkfmenfcbiaaGreatNM2
namespace Go.Proofs.YtdbmkfmenfcbiaaGreat
open Go.RowKit Go.Deep
def admitS (b : Bk) (e : Event) (i o : Chan) : Out :=
 if hasB (keysOf b.hs b.os) e.Key = true then bad 9
 else if twoB b.cs e.Ch e.To = false then bad 6
 else if b.hs.length = 60 then bad 14
 else if (feeOk o.Base o.Ppm e.Amt && amtB (e.Amt + feeV o.Base o.Ppm e.Amt)) = false then bad 10
 else if i.Remote < e.Amt + feeV o.Base o.Ppm e.Amt then bad 11
 else if o.Local < e.Amt then bad 12
 else if roomF b.hs o o.Id e.Amt i.Score e.Yes = 0 then bad 13
 else done ⟨b.t,b.n,b.w,moveC (moveC b.cs e.Ch 0 (-(e.Amt + feeV o.Base o.Ppm e.Amt))) e.To (-e.Amt) 0,b.hs ++ [⟨e.Key,e.Ch,e.To,e.Amt + feeV o.Base o.Ppm e.Amt,e.Amt,roomF b.hs o o.Id e.Amt i.Score e.Yes == 2,0⟩],b.os⟩ (nz [⟨6,e.To,-e.Amt⟩,⟨8,e.To,e.Amt⟩])
section
variable {b : Bk} {e : Event} {i o : Chan}
theorem admitS_9 (h : hasB (keysOf b.hs b.os) e.Key = true) : admitS b e i o = bad 9:=by unfold admitS;rw [if_pos h]
theorem zms (h : hasB (keysOf b.hs b.os) e.Key = false) (h2 : twoB b.cs e.Ch e.To = false) : admitS b e i o = bad 6:=by unfold admitS;rw [if_neg (by rw [h];decide),if_pos h2]
theorem zpu (h : hasB (keysOf b.hs b.os) e.Key = false) (h2 : twoB b.cs e.Ch e.To = true) (h3 : b.hs.length = 60) : admitS b e i o = bad 14:=by unfold admitS;rw [if_neg (by rw [h];decide),if_neg (by rw [h2];decide),if_pos h3]
theorem zwu (h : hasB (keysOf b.hs b.os) e.Key = false) (h2 : twoB b.cs e.Ch e.To = true) (h3 : b.hs.length ≠ 60) (h4 : (feeOk o.Base o.Ppm e.Amt && amtB (e.Amt + feeV o.Base o.Ppm e.Amt)) = false) : admitS b e i o = bad 10:=by unfold admitS;rw [if_neg (by rw [h];decide),if_neg (by rw [h2];decide),if_neg h3,if_pos h4]
theorem zps (h : hasB (keysOf b.hs b.os) e.Key = false) (h2 : twoB b.cs e.Ch e.To = true) (h3 : b.hs.length ≠ 60) (h4 : (feeOk o.Base o.Ppm e.Amt && amtB (e.Amt + feeV o.Base o.Ppm e.Amt)) = true) (h5 : i.Remote < e.Amt + feeV o.Base o.Ppm e.Amt) : admitS b e i o = bad 11:=by
 unfold admitS;rw [if_neg (by rw [h];decide),if_neg (by rw [h2];decide),if_neg h3,if_neg (by rw [h4];decide),if_pos h5]
theorem zpt (h : hasB (keysOf b.hs b.os) e.Key = false) (h2 : twoB b.cs e.Ch e.To = true) (h3 : b.hs.length ≠ 60) (h4 : (feeOk o.Base o.Ppm e.Amt && amtB (e.Amt + feeV o.Base o.Ppm e.Amt)) = true) (h5 : e.Amt + feeV o.Base o.Ppm e.Amt ≤ i.Remote) (h6 : o.Local < e.Amt) : admitS b e i o = bad 12:=by
 unfold admitS;rw [if_neg (by rw [h];decide),if_neg (by rw [h2];decide),if_neg h3,if_neg (by rw [h4];decide),if_neg (by omega),if_pos h6]
theorem zyf (h : hasB (keysOf b.hs b.os) e.Key = false) (h2 : twoB b.cs e.Ch e.To = true) (h3 : b.hs.length ≠ 60) (h4 : (feeOk o.Base o.Ppm e.Amt && amtB (e.Amt + feeV o.Base o.Ppm e.Amt)) = true) (h5 : e.Amt + feeV o.Base o.Ppm e.Amt ≤ i.Remote) (h6 : e.Amt ≤ o.Local) (h7 : roomF b.hs o o.Id e.Amt i.Score e.Yes = 0) : admitS b e i o = bad 13:=by
 unfold admitS;rw [if_neg (by rw [h];decide),if_neg (by rw [h2];decide),if_neg h3,if_neg (by rw [h4];decide),if_neg (by omega),if_neg (by omega),if_pos h7]
theorem zyg (h : hasB (keysOf b.hs b.os) e.Key = false) (h2 : twoB b.cs e.Ch e.To = true) (h3 : b.hs.length ≠ 60) (h4 : (feeOk o.Base o.Ppm e.Amt && amtB (e.Amt + feeV o.Base o.Ppm e.Amt)) = true) (h5 : e.Amt + feeV o.Base o.Ppm e.Amt ≤ i.Remote) (h6 : e.Amt ≤ o.Local) (h7 : roomF b.hs o o.Id e.Amt i.Score e.Yes ≠ 0) :
  admitS b e i o = done ⟨b.t,b.n,b.w,moveC (moveC b.cs e.Ch 0 (-(e.Amt + feeV o.Base o.Ppm e.Amt))) e.To (-e.Amt) 0,b.hs ++ [⟨e.Key,e.Ch,e.To,e.Amt + feeV o.Base o.Ppm e.Amt,e.Amt,roomF b.hs o o.Id e.Amt i.Score e.Yes == 2,0⟩],b.os⟩ (nz [⟨6,e.To,-e.Amt⟩,⟨8,e.To,e.Amt⟩]):=by
 unfold admitS;rw [if_neg (by rw [h];decide),if_neg (by rw [h2];decide),if_neg h3,if_neg (by rw [h4];decide),if_neg (by omega),if_neg (by omega),if_neg h7]
end
theorem amtB_feeV (base ppm n : Int) : amtB (feeV base ppm n) = true:=by
 unfold feeV
 split
 ·
  rename_i h
  simp only [feeOk,Bool.and_eq_true] at h
  exact h.2
 decide
theorem twoB_ix2 {cs : List Chan} {x y : Int} (h : twoB cs x y = true) : 0 ≤ chanIx cs x∧0 ≤ chanIx cs y:=by
 simp only [twoB,Bool.and_eq_true,decide_eq_true_eq] at h
 exact ⟨h.1.2,h.2⟩
set_option maxRecDepth 100000 in
set_option maxHeartbeats 16000000 in
theorem s_l07Admit (w0 w : World) (B X : Nat) (b : Bk) (A1 A2 A3 A4 : Option Addr) (p1 p2 p3 p4 : Nat) (e : Event) (hF : BookFacts b.t b.n b.w b.cs b.hs b.os) (ha : amtB e.Amt = true) (h : Wk 108 w0 w B X b [] 0 A1 A2 A3 A4 p1 p2 p3 p4) :
  Calls Tryz.prog 70 #[.pointer (some ⟨X,0,none⟩),.agg #[.int .i64 e.Kind,.int .i64 e.Key,.int .i64 e.Ch,.int .i64 e.To,.int .i64 e.Amt,.int .i64 e.Fee,.bool e.Yes]] w (Acts 108 w B X (admitS b e (chanOf b.cs e.Ch) (chanOf b.cs e.To))):=by
 have H:=hd_ h.here
 clear h
 obtain ⟨L,hL⟩ : ∃ L : List Line,L = []:=⟨_,rfl⟩
 rw [← hL] at H
 have HL:=hd_ hL
 clear hL
 obtain ⟨E,hE⟩ : ∃ E,E = w.heap.size:=⟨_,rfl⟩
 obtain ⟨m1,m2⟩:=zja.1 ha
 have hcl:=hF.cl
 have h60:=hF.small.hl
 have h20:=hF.small.ol
 have HSM:=hd_ hF.small
 have HBD:=hd_ (zjd hF)
 have hkl : (keysOf b.hs b.os).length ≤ 80:=by unfold keysOf;rw [List.length_append,List.length_map,List.length_map];omega
 clear hF
 obtain ⟨i0,hi,hz0,hz1,hz2⟩:=info_parts zjy
 have HI0:=hd_ hi
 have HI1:=hd_ hz0
 have HI2:=hd_ hz1
 have HI3:=hd_ hz2
 clear hi hz0 hz1 hz2
 go_enter Tryz.func70,Tryz.ntmps70
 go_wp2_with fail
 rw [← hE]
 refine nm_ ?_
 intro w1 hw
 have HW1:=wka_ hw H
 have HE1 : Hid (Hx w1 E (evC e) 64):=hd_ (by rw [hw];exact (hE ▸ zqi rfl))
 clear hw
 obtain ⟨a,af,az⟩:=opc_ HW1.out.open_
 have jE:=bd7_ HE1
 have hEB : Hid (w.heap.size ≤ E):=hd_ (by omega)
 have HXE : Hid (E ≠ X):=hd_ (by have:=H.out.lt;omega)
 clear hE
 refine zql (fun w' => kqiiissss w' X b.t b.n b.w A1 b.cs.length p1 A2 b.hs.length p2 A3 b.os.length p3 A4 L.length p4 (kqE_ w' E e)) [yF 0 11,yF 1 12,yF 2 13,yF 3 14,yF 4 15,yF 6 17,yF 7 18,yT 5 16,yT 8 19,yT 9 20,yF 10 21,yH 11 22 21,yH 12 23 21,yH 13 24 21,yH 14 25 21,yH 15 26 21,yH 16 27 21,yH 17 28 21,yH 18 29 21,yH 19 30 21,(20,some 31,true,some (21,false)),yH 21 32 21,(22,some 33,true,some (21,false)),yF 23 34,yF 24 35,yH 25 36 35,yH 26 37 35,yH 27 38 35,yH 28 39 35,yH 29 40 35,yH 30 41 35,yH 31 42 35,yH 32 43 35,(33,some 44,true,some (35,false)),yF 34 45] (by kernel_rfl) (by kernel_rfl) (by kernel_rfl) (q78_ a jE) (fun hH => ?_)
 obtain ⟨w2,hwd⟩ : ∃ wd,w1.drew = wd:=⟨_,rfl⟩
 have HW2:=wkd_ hwd HW1
 have HE2:=hr_ hwd HE1
 clear a af az jE
 rw [hwd] at hH ⊢
 clear hwd
 obtain ⟨a,af,az⟩:=opc_ HW2.out.open_
 have jE:=bd7_ HE2
 refine tk_ ?_
 refine ss_ (fun K hK => ?_)
 go_simp
 refine (zte b.t b.n b.w b.cs b.hs b.os _ _ _ _ _ _ _ h60 h20 HW2.out.o.rd).mono ?_
 rintro e' w3 ⟨KA,kcap,rfl,how,hb⟩
 have HK:=hd_ how.rd
 clear how
 have HW3:=hd_ (HW2.out.below hb)
 have HE3:=hb_ hb HE2
 clear hb
 clear a af az jE
 obtain ⟨a,af,az⟩:=opc_ HW3.out.open_
 have jE:=bd7_ HE3
 go_simp
 refine hK.out _ _ (q78_ a jE) (fun hH => ?_)
 clear hK K
 refine tk_ ?_
 cases t9 : hasB (keysOf b.hs b.os) e.Key
 rotate_left
 ·
  have H9:=hd_ t9
  refine ss_ (fun K hK => ?_)
  go_simp
  refine (zkr (keysOf b.hs b.os) e.Key KA kcap _ (by omega) HK).mono ?_
  rintro e' wz ⟨rfl,rfl⟩
  go_simp
  refine hK.out _ _ (q78_ a jE) (fun hH => ?_)
  clear hK K
  refine tk_ ?_
  refine ss_ (fun K hK => ?_)
  go_simp
  refine (zqy _ _ B X b L A1 A2 A3 A4 p1 p2 p3 p4 9 (by decide) HW3).mono ?_
  rintro e' w4 ⟨rfl,hh,ho⟩
  have HW4:=hd_ (HW3.out.trans hh)
  have HE4:=hd_ (ho _ _ HXE HE3)
  clear hh ho
  clear a af az jE
  obtain ⟨a,af,az⟩:=opc_ HW4.out.open_
  have jE:=bd7_ HE4
  go_simp
  refine hK.out _ _ (q78_ a jE) (fun hH => ?_)
  clear hK K
  refine tk_ ?_
  refine Sq.done (NoPanic.normal ?_)
  go_wp2_with fail
  go_end0
  rw [admitS_9 H9.out]
  exact Acts.no (by decide) ⟨_,_,_,_,_,_,_,_,rfl,HW4.out⟩
 have H9:=hd_ t9
 refine ss_ (fun K hK => ?_)
 go_simp
 refine (zkr (keysOf b.hs b.os) e.Key KA kcap _ (by omega) HK).mono ?_
 rintro e' wz ⟨rfl,rfl⟩
 go_simp
 refine hK.out _ _ (q78_ a jE) (fun hH => ?_)
 clear hK K
 refine tk_ ?_
 refine ss_ (fun K hK => ?_)
 go_simp
 refine (zqp _ _ B X b L A1 A2 A3 A4 p1 p2 p3 p4 9 HW3).mono ?_
 rintro e' wz ⟨rfl,rfl⟩
 go_simp
 refine hK.out _ _ (q78_ a jE) (fun hH => ?_)
 clear hK K
 refine tk_ ?_
 clear HK
 cases t6 : twoB b.cs e.Ch e.To
 ·
  have H6:=hd_ t6
  refine ss_ (fun K hK => ?_)
  go_simp
  refine (zjb b.t b.n b.w b.cs b.hs b.os _ _ _ _ _ _ e.Ch e.To _ (by omega) HW3.out.o.rd).mono ?_
  rintro e' w4 ⟨rfl,hb⟩
  have HW4:=hd_ (HW3.out.below hb)
  have HE4:=hb_ hb HE3
  clear hb
  go_simp
  refine hK.out _ _ (q78_ (opc_ HW4.out.open_).1 (bd7_ HE4)) (fun hH => ?_)
  clear hK K
  refine tk_ ?_
  refine ss_ (fun K hK => ?_)
  go_simp
  refine (zqy _ _ B X b L A1 A2 A3 A4 p1 p2 p3 p4 6 (by decide) HW4).mono ?_
  rintro e' w5 ⟨rfl,hh,ho⟩
  have HW5:=hd_ (HW4.out.trans hh)
  have HE5:=hd_ (ho _ _ HXE HE4)
  clear hh ho
  clear a af az jE
  obtain ⟨a,af,az⟩:=opc_ HW5.out.open_
  have jE:=bd7_ HE5
  go_simp
  refine hK.out _ _ (q78_ a jE) (fun hH => ?_)
  clear hK K
  refine tk_ ?_
  refine Sq.done (NoPanic.normal ?_)
  go_wp2_with fail
  go_end0
  rw [zms H9 H6.out]
  exact Acts.no (by decide) ⟨_,_,_,_,_,_,_,_,rfl,HW5.out⟩
 have H6:=hd_ t6
 obtain ⟨mi,mo⟩:=twoB_ix2 t6
 have Hmi:=hd_ mi
 have Hmo:=hd_ mo
 clear mi mo
 cases t14 : ((b.hs.length : Int) == 60)
 rotate_left
 ·
  have H14 : Hid (b.hs.length = 60):=hd_ (by have:=eq_of_beq t14;omega)
  refine ss_ (fun K hK => ?_)
  go_simp
  refine (zjb b.t b.n b.w b.cs b.hs b.os _ _ _ _ _ _ e.Ch e.To _ (by omega) HW3.out.o.rd).mono ?_
  rintro e' w4 ⟨rfl,hb⟩
  have HW4:=hd_ (HW3.out.below hb)
  have HE4:=hb_ hb HE3
  clear hb
  clear a af az jE
  obtain ⟨a,af,az⟩:=opc_ HW4.out.open_
  have jE:=bd7_ HE4
  go_simp
  refine hK.out _ _ (q78_ a jE) (fun hH => ?_)
  clear hK K
  refine tk_ ?_
  refine ss_ (fun K hK => ?_)
  go_simp
  refine (zqp _ _ B X b L A1 A2 A3 A4 p1 p2 p3 p4 6 HW4).mono ?_
  rintro e' wz ⟨rfl,rfl⟩
  go_simp
  refine hK.out _ _ (q78_ a jE) (fun hH => ?_)
  clear hK K
  refine tk_ ?_
  refine ss_ (fun K hK => ?_)
  go_simp
  refine (zqy _ _ B X b L A1 A2 A3 A4 p1 p2 p3 p4 14 (by decide) HW4).mono ?_
  rintro e' w5 ⟨rfl,hh,ho⟩
  have HW5:=hd_ (HW4.out.trans hh)
  have HE5:=hd_ (ho _ _ HXE HE4)
  clear hh ho
  clear a af az jE
  obtain ⟨a,af,az⟩:=opc_ HW5.out.open_
  have jE:=bd7_ HE5
  go_simp
  refine hK.out _ _ (q78_ a jE) (fun hH => ?_)
  clear hK K
  refine tk_ ?_
  refine Sq.done (NoPanic.normal ?_)
  go_wp2_with fail
  go_end0
  rw [zpu H9 H6 H14.out]
  exact Acts.no (by decide) ⟨_,_,_,_,_,_,_,_,rfl,HW5.out⟩
 have H14 : Hid (b.hs.length ≠ 60):=hd_ (by have:=beq_eq_false_iff_ne.1 t14;omega)
 refine ss_ (fun K hK => ?_)
 go_simp
 refine (zjb b.t b.n b.w b.cs b.hs b.os _ _ _ _ _ _ e.Ch e.To _ (by omega) HW3.out.o.rd).mono ?_
 rintro e' w4 ⟨rfl,hb⟩
 have HW4:=hd_ (HW3.out.below hb)
 have HE4:=hb_ hb HE3
 clear hb
 clear a af az jE
 obtain ⟨a,af,az⟩:=opc_ HW4.out.open_
 have jE:=bd7_ HE4
 go_simp
 refine hK.out _ _ (q78_ a jE) (fun hH => ?_)
 clear hK K
 refine tk_ ?_
 refine ss_ (fun K hK => ?_)
 go_simp
 refine (zqp _ _ B X b L A1 A2 A3 A4 p1 p2 p3 p4 6 HW4).mono ?_
 rintro e' wz ⟨rfl,rfl⟩
 go_simp
 refine hK.out _ _ (q78_ a jE) (fun hH => ?_)
 clear hK K
 refine tk_ ?_
 refine ss_ (fun K hK => ?_)
 go_simp
 refine (zqp _ _ B X b L A1 A2 A3 A4 p1 p2 p3 p4 14 HW4).mono ?_
 rintro e' wz ⟨rfl,rfl⟩
 go_simp
 refine hK.out _ _ (q78_ a jE) (fun hH => ?_)
 clear hK K
 refine tk_ ?_
 refine Sq.done (NoPanic.normal ?_)
 clear t9 t6 t14
 obtain ⟨i,hi⟩:=Int.eq_ofNat_of_zero_le Hmi
 have hlti:=zxm hi
 obtain ⟨c,hc⟩ : ∃ c,chanOf b.cs e.Ch = c:=⟨_,rfl⟩
 have hci : b.cs[i] = c:=by rw [← hc];unfold chanOf;rw [hi,Int.toNat_natCast,List.getD_eq_getElem?_getD,List.getElem?_eq_getElem hlti];rfl
 have hr : (b.cs.map Chan.cells)[i]? = some c.cells:=by rw [List.getElem?_map,List.getElem?_eq_getElem hlti,hci];rfl
 obtain ⟨x0,x1,x2,x3,x4,x5,x6⟩:=c
 have HCi:=hd_ hc
 have HRowI:=hd_ hr
 have HIXi:=hd_ hi
 clear hci hr hc hi
 have ix0 : (0 : Int) ≤ (i : Int):=by omega
 have ix1 : (i : Int) < (b.cs.length : Int):=by omega
 obtain ⟨j,hj⟩:=Int.eq_ofNat_of_zero_le Hmo
 have hltj:=zxm hj
 obtain ⟨c,hc⟩ : ∃ c,chanOf b.cs e.To = c:=⟨_,rfl⟩
 have hci : b.cs[j] = c:=by rw [← hc];unfold chanOf;rw [hj,Int.toNat_natCast,List.getD_eq_getElem?_getD,List.getElem?_eq_getElem hltj];rfl
 have hr : (b.cs.map Chan.cells)[j]? = some c.cells:=by rw [List.getElem?_map,List.getElem?_eq_getElem hltj,hci];rfl
 obtain ⟨y0,y1,y2,y3,y4,y5,y6⟩:=c
 have HCj:=hd_ hc
 have HRowJ:=hd_ hr
 have HIXj:=hd_ hj
 clear hci hr hc hj
 have jx0 : (0 : Int) ≤ (j : Int):=by omega
 have jx1 : (j : Int) < (b.cs.length : Int):=by omega
 obtain ⟨g,hA,hBg⟩:=HW4.out.o.c.headW (by rw [List.length_map];omega)
 subst hA
 go_wp2_with fail
 clear a af az jE
 refine meet (α:=Nat) (F:=fun CI w5 => Hid (Wk 108 w w5 B X b L 0 (some ⟨g,0,none⟩) A2 A3 A4 p1 p2 p3 p4)∧Hid (Hx w5 E (evC e) 64)∧Hid (Hx w5 CI (qaiiiiiii x0 x1 x2 x3 x4 x5 x6) 103)∧Hid (CI ≠ X)∧Hid (E ≠ CI)∧Hid (g ≠ CI)) (G:=?G2) (fun key => ?br2) ?rest2
 case br2 =>
  obtain ⟨a,af,az⟩:=opc_ HW4.out.open_
  have jE:=bd7_ HE4
  have z0 : w4.cell? ⟨g,i * 7,none⟩ = some (.int .i64 x0):=HW4.out.o.c.cellAt HRowI (j:=0) (by decide)
  have z1 : w4.cell? ⟨g,i * 7 + 1,none⟩ = some (.int .i64 x1):=HW4.out.o.c.cellAt HRowI (j:=1) (by decide)
  have z2 : w4.cell? ⟨g,i * 7 + 2,none⟩ = some (.int .i64 x2):=HW4.out.o.c.cellAt HRowI (j:=2) (by decide)
  have z3 : w4.cell? ⟨g,i * 7 + 3,none⟩ = some (.int .i64 x3):=HW4.out.o.c.cellAt HRowI (j:=3) (by decide)
  have z4 : w4.cell? ⟨g,i * 7 + 4,none⟩ = some (.int .i64 x4):=HW4.out.o.c.cellAt HRowI (j:=4) (by decide)
  have z5 : w4.cell? ⟨g,i * 7 + 5,none⟩ = some (.int .i64 x5):=HW4.out.o.c.cellAt HRowI (j:=5) (by decide)
  have z6 : w4.cell? ⟨g,i * 7 + 6,none⟩ = some (.int .i64 x6):=HW4.out.o.c.cellAt HRowI (j:=6) (by decide)
  refine zvk (fun w' => kqiiissss w' X b.t b.n b.w (some ⟨g,0,none⟩) b.cs.length p1 A2 b.hs.length p2 A3 b.os.length p3 A4 L.length p4 (kqE w' E e (kqiiiiiiio_ w' g (i * 7) x0 x1 x2 x3 x4 x5 x6))) [yF 0 46,yF 1 47,yF 2 48,yF 3 49,yF 4 50,yF 5 51,yF 6 52,yF 7 53,yF 8 54,yF 9 55,yF 10 56] [yT 11 57,yF 12 58,yF 13 59,yT 14 4,yN 15] [yT 14 4,yT 11 57,yF 12 58,yF 13 59,yN 15] (by kernel_rfl) (by kernel_rfl) (by kernel_rfl) (q78_ a (q7_ jE ⟨z0,z1,z2,z3,z4,z5,z6⟩)) (fun hH => ?_)
  obtain ⟨w5,hwd⟩ : ∃ wd,w4.drew = wd:=⟨_,rfl⟩
  have HW5:=wkd_ hwd HW4
  have HE5:=hr_ hwd HE4
  clear a af az z0 z1 z2 z3 z4 z5 z6 jE
  rw [hwd] at hH ⊢
  clear hwd
  obtain ⟨a,af,az⟩:=opc_ HW5.out.open_
  have jE:=bd7_ HE5
  have z0 : w5.cell? ⟨g,i * 7,none⟩ = some (.int .i64 x0):=HW5.out.o.c.cellAt HRowI (j:=0) (by decide)
  have z1 : w5.cell? ⟨g,i * 7 + 1,none⟩ = some (.int .i64 x1):=HW5.out.o.c.cellAt HRowI (j:=1) (by decide)
  have z2 : w5.cell? ⟨g,i * 7 + 2,none⟩ = some (.int .i64 x2):=HW5.out.o.c.cellAt HRowI (j:=2) (by decide)
  have z3 : w5.cell? ⟨g,i * 7 + 3,none⟩ = some (.int .i64 x3):=HW5.out.o.c.cellAt HRowI (j:=3) (by decide)
  have z4 : w5.cell? ⟨g,i * 7 + 4,none⟩ = some (.int .i64 x4):=HW5.out.o.c.cellAt HRowI (j:=4) (by decide)
  have z5 : w5.cell? ⟨g,i * 7 + 5,none⟩ = some (.int .i64 x5):=HW5.out.o.c.cellAt HRowI (j:=5) (by decide)
  have z6 : w5.cell? ⟨g,i * 7 + 6,none⟩ = some (.int .i64 x6):=HW5.out.o.c.cellAt HRowI (j:=6) (by decide)
  refine tk_ ?_
  refine Sq.done ⟨?_,?_⟩
  ·
   refine ss_ (fun K hK => ?_)
   go_simp
   refine (zjk b.t b.n b.w b.cs b.hs b.os _ _ _ _ _ _ e.Ch _ (by omega) HW5.out.o.rd).mono ?_
   rintro e' w6 ⟨rfl,hb⟩
   rw [HIXi.out]
   have HW6:=hd_ (HW5.out.below hb)
   have HE6:=hb_ hb HE5
   clear hb
   clear a af az z0 z1 z2 z3 z4 z5 z6 jE
   obtain ⟨a,af,az⟩:=opc_ HW6.out.open_
   have jE:=bd7_ HE6
   have z0 : w6.cell? ⟨g,i * 7,none⟩ = some (.int .i64 x0):=HW6.out.o.c.cellAt HRowI (j:=0) (by decide)
   have z1 : w6.cell? ⟨g,i * 7 + 1,none⟩ = some (.int .i64 x1):=HW6.out.o.c.cellAt HRowI (j:=1) (by decide)
   have z2 : w6.cell? ⟨g,i * 7 + 2,none⟩ = some (.int .i64 x2):=HW6.out.o.c.cellAt HRowI (j:=2) (by decide)
   have z3 : w6.cell? ⟨g,i * 7 + 3,none⟩ = some (.int .i64 x3):=HW6.out.o.c.cellAt HRowI (j:=3) (by decide)
   have z4 : w6.cell? ⟨g,i * 7 + 4,none⟩ = some (.int .i64 x4):=HW6.out.o.c.cellAt HRowI (j:=4) (by decide)
   have z5 : w6.cell? ⟨g,i * 7 + 5,none⟩ = some (.int .i64 x5):=HW6.out.o.c.cellAt HRowI (j:=5) (by decide)
   have z6 : w6.cell? ⟨g,i * 7 + 6,none⟩ = some (.int .i64 x6):=HW6.out.o.c.cellAt HRowI (j:=6) (by decide)
   go_simp
   refine hK.out _ _ (q78_ a (q7_ jE ⟨z0,z1,z2,z3,z4,z5,z6⟩)) (fun hH => ?_)
   clear hK K
   refine tk_ ?_
   refine ss_ (fun K hK => ?_)
   go_simp
   refine zxu (fun w7 hw => ?_)
   obtain ⟨CI,hC⟩ : ∃ C,C = w6.heap.size:=⟨_,rfl⟩
   rw [← hC]
   have HW7:=wka_ hw HW6
   have HE7:=ha_ hw HE6
   have HI7 : Hid (Hx w7 CI (qaiiiiiii 0 0 0 0 0 0 0) 103):=hd_ (by rw [hw,hC];exact zqi rfl)
   have HXI : Hid (CI ≠ X):=hd_ (by have:=HW6.out.lt;omega)
   have HNIE : Hid (E ≠ CI):=hd_ (by have:=(gz_ HE6).1;omega)
   have HGI : Hid (g ≠ CI):=hd_ (by have:=(HW6.out.o.c.block g (by simp [Value.ownBlock])).2;omega)
   have HBgeI : Hid (B ≤ CI):=hd_ (by rw [hC];exact HW6.out.ble)
   clear hw hC a af az z0 z1 z2 z3 z4 z5 z6 jE
   obtain ⟨a,af,az⟩:=opc_ HW7.out.open_
   have jE:=bd7_ HE7
   have I:=bd7_ HI7
   have z0 : w7.cell? ⟨g,i * 7,none⟩ = some (.int .i64 x0):=HW7.out.o.c.cellAt HRowI (j:=0) (by decide)
   have z1 : w7.cell? ⟨g,i * 7 + 1,none⟩ = some (.int .i64 x1):=HW7.out.o.c.cellAt HRowI (j:=1) (by decide)
   have z2 : w7.cell? ⟨g,i * 7 + 2,none⟩ = some (.int .i64 x2):=HW7.out.o.c.cellAt HRowI (j:=2) (by decide)
   have z3 : w7.cell? ⟨g,i * 7 + 3,none⟩ = some (.int .i64 x3):=HW7.out.o.c.cellAt HRowI (j:=3) (by decide)
   have z4 : w7.cell? ⟨g,i * 7 + 4,none⟩ = some (.int .i64 x4):=HW7.out.o.c.cellAt HRowI (j:=4) (by decide)
   have z5 : w7.cell? ⟨g,i * 7 + 5,none⟩ = some (.int .i64 x5):=HW7.out.o.c.cellAt HRowI (j:=5) (by decide)
   have z6 : w7.cell? ⟨g,i * 7 + 6,none⟩ = some (.int .i64 x6):=HW7.out.o.c.cellAt HRowI (j:=6) (by decide)
   go_simp
   refine hK.out _ _ (q78_ a (q7_ jE ⟨z0,z1,z2,z3,z4,z5,z6⟩)) (fun hH => ?_)
   clear hK K
   refine tk_ ?_
   have cf9:=zqm HI7
   refine ss_ (fun K hK => ?_)
   go_simp
   refine zxu (fun w8 hw => ?_)
   have hg9 : w7.grownBy w8 (some CI):=by rw [hw];exact zqg (zqg (zqg (zqg (zqg (zqg (zqg (World.grownBy.refl w7 (some CI)) _ _) _ _) _ _) _ _) _ _) _ _) _ _
   have HW8 : Hid (Wk 108 w w8 B X b L 0 (some ⟨g,0,none⟩) A2 A3 A4 p1 p2 p3 p4):=hd_ (HW7.out.ownBox HXI HGI HBgeI HI7 hg9)
   have HE8 : Hid (Hx w8 E (evC e) 64):=hd_ (zqe hg9 (sn_ HNIE) HE7)
   have HI8 : Hid (Hx w8 CI (qaiiiiiii x0 x1 x2 x3 x4 x5 x6) 103):=hd_ (by rw [hw];exact zqa (zqa (zqa (zqa (zqa (zqa (zqa (HI7.out))))))))
   clear hw hg9 cf9 a af az z0 z1 z2 z3 z4 z5 z6 jE I
   obtain ⟨a,af,az⟩:=opc_ HW8.out.open_
   have jE:=bd7_ HE8
   have I:=bd7_ HI8
   have z0 : w8.cell? ⟨g,i * 7,none⟩ = some (.int .i64 x0):=HW8.out.o.c.cellAt HRowI (j:=0) (by decide)
   have z1 : w8.cell? ⟨g,i * 7 + 1,none⟩ = some (.int .i64 x1):=HW8.out.o.c.cellAt HRowI (j:=1) (by decide)
   have z2 : w8.cell? ⟨g,i * 7 + 2,none⟩ = some (.int .i64 x2):=HW8.out.o.c.cellAt HRowI (j:=2) (by decide)
   have z3 : w8.cell? ⟨g,i * 7 + 3,none⟩ = some (.int .i64 x3):=HW8.out.o.c.cellAt HRowI (j:=3) (by decide)
   have z4 : w8.cell? ⟨g,i * 7 + 4,none⟩ = some (.int .i64 x4):=HW8.out.o.c.cellAt HRowI (j:=4) (by decide)
   have z5 : w8.cell? ⟨g,i * 7 + 5,none⟩ = some (.int .i64 x5):=HW8.out.o.c.cellAt HRowI (j:=5) (by decide)
   have z6 : w8.cell? ⟨g,i * 7 + 6,none⟩ = some (.int .i64 x6):=HW8.out.o.c.cellAt HRowI (j:=6) (by decide)
   go_simp
   refine hK.out _ _ (q78_ a (q7_ jE ⟨z0,z1,z2,z3,z4,z5,z6⟩)) (fun hH => ?_)
   clear hK K
   refine tk_ ?_
   refine Sq.done (NoPanic.normal ?_)
   exact key CI w8 ⟨HW8,HE8,HI8,HXI,HNIE,HGI⟩
  refine ss_ (fun K hK => ?_)
  go_simp
  refine zxu (fun w6 hw => ?_)
  obtain ⟨CI,hC⟩ : ∃ C,C = w5.heap.size:=⟨_,rfl⟩
  rw [← hC]
  have HW6:=wka_ hw HW5
  have HE6:=ha_ hw HE5
  have HI6 : Hid (Hx w6 CI (qaiiiiiii 0 0 0 0 0 0 0) 103):=hd_ (by rw [hw,hC];exact zqi rfl)
  have HXI : Hid (CI ≠ X):=hd_ (by have:=HW5.out.lt;omega)
  have HNIE : Hid (E ≠ CI):=hd_ (by have:=(gz_ HE5).1;omega)
  have HGI : Hid (g ≠ CI):=hd_ (by have:=(HW5.out.o.c.block g (by simp [Value.ownBlock])).2;omega)
  have HBgeI : Hid (B ≤ CI):=hd_ (by rw [hC];exact HW5.out.ble)
  clear hw hC a af az z0 z1 z2 z3 z4 z5 z6 jE
  obtain ⟨a,af,az⟩:=opc_ HW6.out.open_
  have jE:=bd7_ HE6
  have I:=bd7_ HI6
  have z0 : w6.cell? ⟨g,i * 7,none⟩ = some (.int .i64 x0):=HW6.out.o.c.cellAt HRowI (j:=0) (by decide)
  have z1 : w6.cell? ⟨g,i * 7 + 1,none⟩ = some (.int .i64 x1):=HW6.out.o.c.cellAt HRowI (j:=1) (by decide)
  have z2 : w6.cell? ⟨g,i * 7 + 2,none⟩ = some (.int .i64 x2):=HW6.out.o.c.cellAt HRowI (j:=2) (by decide)
  have z3 : w6.cell? ⟨g,i * 7 + 3,none⟩ = some (.int .i64 x3):=HW6.out.o.c.cellAt HRowI (j:=3) (by decide)
  have z4 : w6.cell? ⟨g,i * 7 + 4,none⟩ = some (.int .i64 x4):=HW6.out.o.c.cellAt HRowI (j:=4) (by decide)
  have z5 : w6.cell? ⟨g,i * 7 + 5,none⟩ = some (.int .i64 x5):=HW6.out.o.c.cellAt HRowI (j:=5) (by decide)
  have z6 : w6.cell? ⟨g,i * 7 + 6,none⟩ = some (.int .i64 x6):=HW6.out.o.c.cellAt HRowI (j:=6) (by decide)
  go_simp
  refine hK.out _ _ (q78_ a (q7_ jE ⟨z0,z1,z2,z3,z4,z5,z6⟩)) (fun hH => ?_)
  clear hK K
  refine tk_ ?_
  refine ss_ (fun K hK => ?_)
  go_simp
  refine (zjk b.t b.n b.w b.cs b.hs b.os _ _ _ _ _ _ e.Ch _ (by omega) HW6.out.o.rd).mono ?_
  rintro e' w7 ⟨rfl,hb⟩
  rw [HIXi.out]
  have HW7:=hd_ (HW6.out.below hb)
  have HE7:=hb_ hb HE6
  have HI7:=hb_ hb HI6
  clear hb
  clear a af az z0 z1 z2 z3 z4 z5 z6 jE I
  obtain ⟨a,af,az⟩:=opc_ HW7.out.open_
  have jE:=bd7_ HE7
  have I:=bd7_ HI7
  have z0 : w7.cell? ⟨g,i * 7,none⟩ = some (.int .i64 x0):=HW7.out.o.c.cellAt HRowI (j:=0) (by decide)
  have z1 : w7.cell? ⟨g,i * 7 + 1,none⟩ = some (.int .i64 x1):=HW7.out.o.c.cellAt HRowI (j:=1) (by decide)
  have z2 : w7.cell? ⟨g,i * 7 + 2,none⟩ = some (.int .i64 x2):=HW7.out.o.c.cellAt HRowI (j:=2) (by decide)
  have z3 : w7.cell? ⟨g,i * 7 + 3,none⟩ = some (.int .i64 x3):=HW7.out.o.c.cellAt HRowI (j:=3) (by decide)
  have z4 : w7.cell? ⟨g,i * 7 + 4,none⟩ = some (.int .i64 x4):=HW7.out.o.c.cellAt HRowI (j:=4) (by decide)
  have z5 : w7.cell? ⟨g,i * 7 + 5,none⟩ = some (.int .i64 x5):=HW7.out.o.c.cellAt HRowI (j:=5) (by decide)
  have z6 : w7.cell? ⟨g,i * 7 + 6,none⟩ = some (.int .i64 x6):=HW7.out.o.c.cellAt HRowI (j:=6) (by decide)
  go_simp
  refine hK.out _ _ (q78_ a (q7_ jE ⟨z0,z1,z2,z3,z4,z5,z6⟩)) (fun hH => ?_)
  clear hK K
  refine tk_ ?_
  have cf9:=zqm HI7
  refine ss_ (fun K hK => ?_)
  go_simp
  refine zxu (fun w8 hw => ?_)
  have hg9 : w7.grownBy w8 (some CI):=by rw [hw];exact zqg (zqg (zqg (zqg (zqg (zqg (zqg (World.grownBy.refl w7 (some CI)) _ _) _ _) _ _) _ _) _ _) _ _) _ _
  have HW8 : Hid (Wk 108 w w8 B X b L 0 (some ⟨g,0,none⟩) A2 A3 A4 p1 p2 p3 p4):=hd_ (HW7.out.ownBox HXI HGI HBgeI HI7 hg9)
  have HE8 : Hid (Hx w8 E (evC e) 64):=hd_ (zqe hg9 (sn_ HNIE) HE7)
  have HI8 : Hid (Hx w8 CI (qaiiiiiii x0 x1 x2 x3 x4 x5 x6) 103):=hd_ (by rw [hw];exact zqa (zqa (zqa (zqa (zqa (zqa (zqa (HI7.out))))))))
  clear hw hg9 cf9 a af az z0 z1 z2 z3 z4 z5 z6 jE I
  obtain ⟨a,af,az⟩:=opc_ HW8.out.open_
  have jE:=bd7_ HE8
  have I:=bd7_ HI8
  have z0 : w8.cell? ⟨g,i * 7,none⟩ = some (.int .i64 x0):=HW8.out.o.c.cellAt HRowI (j:=0) (by decide)
  have z1 : w8.cell? ⟨g,i * 7 + 1,none⟩ = some (.int .i64 x1):=HW8.out.o.c.cellAt HRowI (j:=1) (by decide)
  have z2 : w8.cell? ⟨g,i * 7 + 2,none⟩ = some (.int .i64 x2):=HW8.out.o.c.cellAt HRowI (j:=2) (by decide)
  have z3 : w8.cell? ⟨g,i * 7 + 3,none⟩ = some (.int .i64 x3):=HW8.out.o.c.cellAt HRowI (j:=3) (by decide)
  have z4 : w8.cell? ⟨g,i * 7 + 4,none⟩ = some (.int .i64 x4):=HW8.out.o.c.cellAt HRowI (j:=4) (by decide)
  have z5 : w8.cell? ⟨g,i * 7 + 5,none⟩ = some (.int .i64 x5):=HW8.out.o.c.cellAt HRowI (j:=5) (by decide)
  have z6 : w8.cell? ⟨g,i * 7 + 6,none⟩ = some (.int .i64 x6):=HW8.out.o.c.cellAt HRowI (j:=6) (by decide)
  go_simp
  refine hK.out _ _ (q78_ a (q7_ jE ⟨z0,z1,z2,z3,z4,z5,z6⟩)) (fun hH => ?_)
  clear hK K
  refine tk_ ?_
  refine Sq.done (NoPanic.normal ?_)
  exact key CI w8 ⟨HW8,HE8,HI8,HXI,HNIE,HGI⟩
 case rest2 =>
  intro CI v2 hF
  obtain ⟨HW_v2,HE_v2,HI_v2,HXI,HNIE,HGI⟩:=hF
  obtain ⟨a,af,az⟩:=opc_ HW_v2.out.open_
  have jE:=bd7_ HE_v2
  have I:=bd7_ HI_v2
  go_wp2_with fail
  clear a af az jE I
  refine meet (α:=Nat) (F:=fun CJ w5 => Hid (Wk 108 w w5 B X b L 0 (some ⟨g,0,none⟩) A2 A3 A4 p1 p2 p3 p4)∧Hid (Hx w5 E (evC e) 64)∧Hid (Hx w5 CI (qaiiiiiii x0 x1 x2 x3 x4 x5 x6) 103)∧Hid (Hx w5 CJ (qaiiiiiii y0 y1 y2 y3 y4 y5 y6) 103)∧Hid (CJ ≠ X)∧Hid (E ≠ CJ)∧Hid (CI ≠ CJ)∧Hid (g ≠ CJ)) (G:=?G3) (fun key => ?br3) ?rest3
  case br3 =>
   obtain ⟨a,af,az⟩:=opc_ HW_v2.out.open_
   have jE:=bd7_ HE_v2
   have I:=bd7_ HI_v2
   have z0 : v2.cell? ⟨g,j * 7,none⟩ = some (.int .i64 y0):=HW_v2.out.o.c.cellAt HRowJ (j:=0) (by decide)
   have z1 : v2.cell? ⟨g,j * 7 + 1,none⟩ = some (.int .i64 y1):=HW_v2.out.o.c.cellAt HRowJ (j:=1) (by decide)
   have z2 : v2.cell? ⟨g,j * 7 + 2,none⟩ = some (.int .i64 y2):=HW_v2.out.o.c.cellAt HRowJ (j:=2) (by decide)
   have z3 : v2.cell? ⟨g,j * 7 + 3,none⟩ = some (.int .i64 y3):=HW_v2.out.o.c.cellAt HRowJ (j:=3) (by decide)
   have z4 : v2.cell? ⟨g,j * 7 + 4,none⟩ = some (.int .i64 y4):=HW_v2.out.o.c.cellAt HRowJ (j:=4) (by decide)
   have z5 : v2.cell? ⟨g,j * 7 + 5,none⟩ = some (.int .i64 y5):=HW_v2.out.o.c.cellAt HRowJ (j:=5) (by decide)
   have z6 : v2.cell? ⟨g,j * 7 + 6,none⟩ = some (.int .i64 y6):=HW_v2.out.o.c.cellAt HRowJ (j:=6) (by decide)
   refine zvk (fun w' => kqiiissss w' X b.t b.n b.w (some ⟨g,0,none⟩) b.cs.length p1 A2 b.hs.length p2 A3 b.os.length p3 A4 L.length p4 (kqE w' E e (kqiiiiiii w' CI x0 x1 x2 x3 x4 x5 x6 (kqiiiiiiio_ w' g (j * 7) y0 y1 y2 y3 y4 y5 y6)))) [yF 0 60,yF 1 61,yF 2 62,yF 3 63,yF 4 64,yF 5 65,yF 6 66,yF 7 67,yF 8 68,yF 9 69,yF 10 70] [yT 11 71,yF 12 72,yF 13 73,yT 14 5,yN 15] [yT 14 5,yT 11 71,yF 12 72,yF 13 73,yN 15] (by kernel_rfl) (by kernel_rfl) (by kernel_rfl) (q78_ a (q7_ jE (q7_ I ⟨z0,z1,z2,z3,z4,z5,z6⟩))) (fun hH => ?_)
   obtain ⟨w5,hwd⟩ : ∃ wd,v2.drew = wd:=⟨_,rfl⟩
   have HW5:=wkd_ hwd HW_v2
   have HE5:=hr_ hwd HE_v2
   have HI5:=hr_ hwd HI_v2
   clear a af az z0 z1 z2 z3 z4 z5 z6 jE I
   rw [hwd] at hH ⊢
   clear hwd
   obtain ⟨a,af,az⟩:=opc_ HW5.out.open_
   have jE:=bd7_ HE5
   have I:=bd7_ HI5
   have z0 : w5.cell? ⟨g,j * 7,none⟩ = some (.int .i64 y0):=HW5.out.o.c.cellAt HRowJ (j:=0) (by decide)
   have z1 : w5.cell? ⟨g,j * 7 + 1,none⟩ = some (.int .i64 y1):=HW5.out.o.c.cellAt HRowJ (j:=1) (by decide)
   have z2 : w5.cell? ⟨g,j * 7 + 2,none⟩ = some (.int .i64 y2):=HW5.out.o.c.cellAt HRowJ (j:=2) (by decide)
   have z3 : w5.cell? ⟨g,j * 7 + 3,none⟩ = some (.int .i64 y3):=HW5.out.o.c.cellAt HRowJ (j:=3) (by decide)
   have z4 : w5.cell? ⟨g,j * 7 + 4,none⟩ = some (.int .i64 y4):=HW5.out.o.c.cellAt HRowJ (j:=4) (by decide)
   have z5 : w5.cell? ⟨g,j * 7 + 5,none⟩ = some (.int .i64 y5):=HW5.out.o.c.cellAt HRowJ (j:=5) (by decide)
   have z6 : w5.cell? ⟨g,j * 7 + 6,none⟩ = some (.int .i64 y6):=HW5.out.o.c.cellAt HRowJ (j:=6) (by decide)
   refine tk_ ?_
   refine Sq.done ⟨?_,?_⟩
   ·
    refine ss_ (fun K hK => ?_)
    go_simp
    refine (zjk b.t b.n b.w b.cs b.hs b.os _ _ _ _ _ _ e.To _ (by omega) HW5.out.o.rd).mono ?_
    rintro e' w6 ⟨rfl,hb⟩
    rw [HIXj.out]
    have HW6:=hd_ (HW5.out.below hb)
    have HE6:=hb_ hb HE5
    have HI6:=hb_ hb HI5
    clear hb
    clear a af az z0 z1 z2 z3 z4 z5 z6 jE I
    obtain ⟨a,af,az⟩:=opc_ HW6.out.open_
    have jE:=bd7_ HE6
    have I:=bd7_ HI6
    have z0 : w6.cell? ⟨g,j * 7,none⟩ = some (.int .i64 y0):=HW6.out.o.c.cellAt HRowJ (j:=0) (by decide)
    have z1 : w6.cell? ⟨g,j * 7 + 1,none⟩ = some (.int .i64 y1):=HW6.out.o.c.cellAt HRowJ (j:=1) (by decide)
    have z2 : w6.cell? ⟨g,j * 7 + 2,none⟩ = some (.int .i64 y2):=HW6.out.o.c.cellAt HRowJ (j:=2) (by decide)
    have z3 : w6.cell? ⟨g,j * 7 + 3,none⟩ = some (.int .i64 y3):=HW6.out.o.c.cellAt HRowJ (j:=3) (by decide)
    have z4 : w6.cell? ⟨g,j * 7 + 4,none⟩ = some (.int .i64 y4):=HW6.out.o.c.cellAt HRowJ (j:=4) (by decide)
    have z5 : w6.cell? ⟨g,j * 7 + 5,none⟩ = some (.int .i64 y5):=HW6.out.o.c.cellAt HRowJ (j:=5) (by decide)
    have z6 : w6.cell? ⟨g,j * 7 + 6,none⟩ = some (.int .i64 y6):=HW6.out.o.c.cellAt HRowJ (j:=6) (by decide)
    go_simp
    refine hK.out _ _ (q78_ a (q7_ jE (q7_ I ⟨z0,z1,z2,z3,z4,z5,z6⟩))) (fun hH => ?_)
    clear hK K
    refine tk_ ?_
    refine ss_ (fun K hK => ?_)
    go_simp
    refine zxu (fun w7 hw => ?_)
    obtain ⟨CJ,hC⟩ : ∃ C,C = w6.heap.size:=⟨_,rfl⟩
    rw [← hC]
    have HW7:=wka_ hw HW6
    have HE7:=ha_ hw HE6
    have HI7:=ha_ hw HI6
    have HJ7 : Hid (Hx w7 CJ (qaiiiiiii 0 0 0 0 0 0 0) 103):=hd_ (by rw [hw,hC];exact zqi rfl)
    have HXJ : Hid (CJ ≠ X):=hd_ (by have:=HW6.out.lt;omega)
    have HNJE : Hid (E ≠ CJ):=hd_ (by have:=(gz_ HE6).1;omega)
    have HNJI : Hid (CI ≠ CJ):=hd_ (by have:=(gz_ HI6).1;omega)
    have HGJ : Hid (g ≠ CJ):=hd_ (by have:=(HW6.out.o.c.block g (by simp [Value.ownBlock])).2;omega)
    have HBgeJ : Hid (B ≤ CJ):=hd_ (by rw [hC];exact HW6.out.ble)
    clear hw hC a af az z0 z1 z2 z3 z4 z5 z6 jE I
    obtain ⟨a,af,az⟩:=opc_ HW7.out.open_
    have jE:=bd7_ HE7
    have I:=bd7_ HI7
    have J:=bd7_ HJ7
    have z0 : w7.cell? ⟨g,j * 7,none⟩ = some (.int .i64 y0):=HW7.out.o.c.cellAt HRowJ (j:=0) (by decide)
    have z1 : w7.cell? ⟨g,j * 7 + 1,none⟩ = some (.int .i64 y1):=HW7.out.o.c.cellAt HRowJ (j:=1) (by decide)
    have z2 : w7.cell? ⟨g,j * 7 + 2,none⟩ = some (.int .i64 y2):=HW7.out.o.c.cellAt HRowJ (j:=2) (by decide)
    have z3 : w7.cell? ⟨g,j * 7 + 3,none⟩ = some (.int .i64 y3):=HW7.out.o.c.cellAt HRowJ (j:=3) (by decide)
    have z4 : w7.cell? ⟨g,j * 7 + 4,none⟩ = some (.int .i64 y4):=HW7.out.o.c.cellAt HRowJ (j:=4) (by decide)
    have z5 : w7.cell? ⟨g,j * 7 + 5,none⟩ = some (.int .i64 y5):=HW7.out.o.c.cellAt HRowJ (j:=5) (by decide)
    have z6 : w7.cell? ⟨g,j * 7 + 6,none⟩ = some (.int .i64 y6):=HW7.out.o.c.cellAt HRowJ (j:=6) (by decide)
    go_simp
    refine hK.out _ _ (q78_ a (q7_ jE (q7_ I ⟨z0,z1,z2,z3,z4,z5,z6⟩))) (fun hH => ?_)
    clear hK K
    refine tk_ ?_
    have cf9:=zqm HJ7
    refine ss_ (fun K hK => ?_)
    go_simp
    refine zxu (fun w8 hw => ?_)
    have hg9 : w7.grownBy w8 (some CJ):=by rw [hw];exact zqg (zqg (zqg (zqg (zqg (zqg (zqg (World.grownBy.refl w7 (some CJ)) _ _) _ _) _ _) _ _) _ _) _ _) _ _
    have HW8 : Hid (Wk 108 w w8 B X b L 0 (some ⟨g,0,none⟩) A2 A3 A4 p1 p2 p3 p4):=hd_ (HW7.out.ownBox HXJ HGJ HBgeJ HJ7 hg9)
    have HE8 : Hid (Hx w8 E (evC e) 64):=hd_ (zqe hg9 (sn_ HNJE) HE7)
    have HI8 : Hid (Hx w8 CI (qaiiiiiii x0 x1 x2 x3 x4 x5 x6) 103):=hd_ (zqe hg9 (sn_ HNJI) HI7)
    have HJ8 : Hid (Hx w8 CJ (qaiiiiiii y0 y1 y2 y3 y4 y5 y6) 103):=hd_ (by rw [hw];exact zqa (zqa (zqa (zqa (zqa (zqa (zqa (HJ7.out))))))))
    clear hw hg9 cf9 a af az z0 z1 z2 z3 z4 z5 z6 jE I J
    obtain ⟨a,af,az⟩:=opc_ HW8.out.open_
    have jE:=bd7_ HE8
    have I:=bd7_ HI8
    have J:=bd7_ HJ8
    have z0 : w8.cell? ⟨g,j * 7,none⟩ = some (.int .i64 y0):=HW8.out.o.c.cellAt HRowJ (j:=0) (by decide)
    have z1 : w8.cell? ⟨g,j * 7 + 1,none⟩ = some (.int .i64 y1):=HW8.out.o.c.cellAt HRowJ (j:=1) (by decide)
    have z2 : w8.cell? ⟨g,j * 7 + 2,none⟩ = some (.int .i64 y2):=HW8.out.o.c.cellAt HRowJ (j:=2) (by decide)
    have z3 : w8.cell? ⟨g,j * 7 + 3,none⟩ = some (.int .i64 y3):=HW8.out.o.c.cellAt HRowJ (j:=3) (by decide)
    have z4 : w8.cell? ⟨g,j * 7 + 4,none⟩ = some (.int .i64 y4):=HW8.out.o.c.cellAt HRowJ (j:=4) (by decide)
    have z5 : w8.cell? ⟨g,j * 7 + 5,none⟩ = some (.int .i64 y5):=HW8.out.o.c.cellAt HRowJ (j:=5) (by decide)
    have z6 : w8.cell? ⟨g,j * 7 + 6,none⟩ = some (.int .i64 y6):=HW8.out.o.c.cellAt HRowJ (j:=6) (by decide)
    go_simp
    refine hK.out _ _ (q78_ a (q7_ jE (q7_ I ⟨z0,z1,z2,z3,z4,z5,z6⟩))) (fun hH => ?_)
    clear hK K
    refine tk_ ?_
    refine Sq.done (NoPanic.normal ?_)
    exact key CJ w8 ⟨HW8,HE8,HI8,HJ8,HXJ,HNJE,HNJI,HGJ⟩
   refine ss_ (fun K hK => ?_)
   go_simp
   refine zxu (fun w6 hw => ?_)
   obtain ⟨CJ,hC⟩ : ∃ C,C = w5.heap.size:=⟨_,rfl⟩
   rw [← hC]
   have HW6:=wka_ hw HW5
   have HE6:=ha_ hw HE5
   have HI6:=ha_ hw HI5
   have HJ6 : Hid (Hx w6 CJ (qaiiiiiii 0 0 0 0 0 0 0) 103):=hd_ (by rw [hw,hC];exact zqi rfl)
   have HXJ : Hid (CJ ≠ X):=hd_ (by have:=HW5.out.lt;omega)
   have HNJE : Hid (E ≠ CJ):=hd_ (by have:=(gz_ HE5).1;omega)
   have HNJI : Hid (CI ≠ CJ):=hd_ (by have:=(gz_ HI5).1;omega)
   have HGJ : Hid (g ≠ CJ):=hd_ (by have:=(HW5.out.o.c.block g (by simp [Value.ownBlock])).2;omega)
   have HBgeJ : Hid (B ≤ CJ):=hd_ (by rw [hC];exact HW5.out.ble)
   clear hw hC a af az z0 z1 z2 z3 z4 z5 z6 jE I
   obtain ⟨a,af,az⟩:=opc_ HW6.out.open_
   have jE:=bd7_ HE6
   have I:=bd7_ HI6
   have J:=bd7_ HJ6
   have z0 : w6.cell? ⟨g,j * 7,none⟩ = some (.int .i64 y0):=HW6.out.o.c.cellAt HRowJ (j:=0) (by decide)
   have z1 : w6.cell? ⟨g,j * 7 + 1,none⟩ = some (.int .i64 y1):=HW6.out.o.c.cellAt HRowJ (j:=1) (by decide)
   have z2 : w6.cell? ⟨g,j * 7 + 2,none⟩ = some (.int .i64 y2):=HW6.out.o.c.cellAt HRowJ (j:=2) (by decide)
   have z3 : w6.cell? ⟨g,j * 7 + 3,none⟩ = some (.int .i64 y3):=HW6.out.o.c.cellAt HRowJ (j:=3) (by decide)
   have z4 : w6.cell? ⟨g,j * 7 + 4,none⟩ = some (.int .i64 y4):=HW6.out.o.c.cellAt HRowJ (j:=4) (by decide)
   have z5 : w6.cell? ⟨g,j * 7 + 5,none⟩ = some (.int .i64 y5):=HW6.out.o.c.cellAt HRowJ (j:=5) (by decide)
   have z6 : w6.cell? ⟨g,j * 7 + 6,none⟩ = some (.int .i64 y6):=HW6.out.o.c.cellAt HRowJ (j:=6) (by decide)
   go_simp
   refine hK.out _ _ (q78_ a (q7_ jE (q7_ I ⟨z0,z1,z2,z3,z4,z5,z6⟩))) (fun hH => ?_)
   clear hK K
   refine tk_ ?_
   refine ss_ (fun K hK => ?_)
   go_simp
   refine (zjk b.t b.n b.w b.cs b.hs b.os _ _ _ _ _ _ e.To _ (by omega) HW6.out.o.rd).mono ?_
   rintro e' w7 ⟨rfl,hb⟩
   rw [HIXj.out]
   have HW7:=hd_ (HW6.out.below hb)
   have HE7:=hb_ hb HE6
   have HI7:=hb_ hb HI6
   have HJ7:=hb_ hb HJ6
   clear hb
   clear a af az z0 z1 z2 z3 z4 z5 z6 jE I J
   obtain ⟨a,af,az⟩:=opc_ HW7.out.open_
   have jE:=bd7_ HE7
   have I:=bd7_ HI7
   have J:=bd7_ HJ7
   have z0 : w7.cell? ⟨g,j * 7,none⟩ = some (.int .i64 y0):=HW7.out.o.c.cellAt HRowJ (j:=0) (by decide)
   have z1 : w7.cell? ⟨g,j * 7 + 1,none⟩ = some (.int .i64 y1):=HW7.out.o.c.cellAt HRowJ (j:=1) (by decide)
   have z2 : w7.cell? ⟨g,j * 7 + 2,none⟩ = some (.int .i64 y2):=HW7.out.o.c.cellAt HRowJ (j:=2) (by decide)
   have z3 : w7.cell? ⟨g,j * 7 + 3,none⟩ = some (.int .i64 y3):=HW7.out.o.c.cellAt HRowJ (j:=3) (by decide)
   have z4 : w7.cell? ⟨g,j * 7 + 4,none⟩ = some (.int .i64 y4):=HW7.out.o.c.cellAt HRowJ (j:=4) (by decide)
   have z5 : w7.cell? ⟨g,j * 7 + 5,none⟩ = some (.int .i64 y5):=HW7.out.o.c.cellAt HRowJ (j:=5) (by decide)
   have z6 : w7.cell? ⟨g,j * 7 + 6,none⟩ = some (.int .i64 y6):=HW7.out.o.c.cellAt HRowJ (j:=6) (by decide)
   go_simp
   refine hK.out _ _ (q78_ a (q7_ jE (q7_ I ⟨z0,z1,z2,z3,z4,z5,z6⟩))) (fun hH => ?_)
   clear hK K
   refine tk_ ?_
   have cf9:=zqm HJ7
   refine ss_ (fun K hK => ?_)
   go_simp
   refine zxu (fun w8 hw => ?_)
   have hg9 : w7.grownBy w8 (some CJ):=by rw [hw];exact zqg (zqg (zqg (zqg (zqg (zqg (zqg (World.grownBy.refl w7 (some CJ)) _ _) _ _) _ _) _ _) _ _) _ _) _ _
   have HW8 : Hid (Wk 108 w w8 B X b L 0 (some ⟨g,0,none⟩) A2 A3 A4 p1 p2 p3 p4):=hd_ (HW7.out.ownBox HXJ HGJ HBgeJ HJ7 hg9)
   have HE8 : Hid (Hx w8 E (evC e) 64):=hd_ (zqe hg9 (sn_ HNJE) HE7)
   have HI8 : Hid (Hx w8 CI (qaiiiiiii x0 x1 x2 x3 x4 x5 x6) 103):=hd_ (zqe hg9 (sn_ HNJI) HI7)
   have HJ8 : Hid (Hx w8 CJ (qaiiiiiii y0 y1 y2 y3 y4 y5 y6) 103):=hd_ (by rw [hw];exact zqa (zqa (zqa (zqa (zqa (zqa (zqa (HJ7.out))))))))
   clear hw hg9 cf9 a af az z0 z1 z2 z3 z4 z5 z6 jE I J
   obtain ⟨a,af,az⟩:=opc_ HW8.out.open_
   have jE:=bd7_ HE8
   have I:=bd7_ HI8
   have J:=bd7_ HJ8
   have z0 : w8.cell? ⟨g,j * 7,none⟩ = some (.int .i64 y0):=HW8.out.o.c.cellAt HRowJ (j:=0) (by decide)
   have z1 : w8.cell? ⟨g,j * 7 + 1,none⟩ = some (.int .i64 y1):=HW8.out.o.c.cellAt HRowJ (j:=1) (by decide)
   have z2 : w8.cell? ⟨g,j * 7 + 2,none⟩ = some (.int .i64 y2):=HW8.out.o.c.cellAt HRowJ (j:=2) (by decide)
   have z3 : w8.cell? ⟨g,j * 7 + 3,none⟩ = some (.int .i64 y3):=HW8.out.o.c.cellAt HRowJ (j:=3) (by decide)
   have z4 : w8.cell? ⟨g,j * 7 + 4,none⟩ = some (.int .i64 y4):=HW8.out.o.c.cellAt HRowJ (j:=4) (by decide)
   have z5 : w8.cell? ⟨g,j * 7 + 5,none⟩ = some (.int .i64 y5):=HW8.out.o.c.cellAt HRowJ (j:=5) (by decide)
   have z6 : w8.cell? ⟨g,j * 7 + 6,none⟩ = some (.int .i64 y6):=HW8.out.o.c.cellAt HRowJ (j:=6) (by decide)
   go_simp
   refine hK.out _ _ (q78_ a (q7_ jE (q7_ I ⟨z0,z1,z2,z3,z4,z5,z6⟩))) (fun hH => ?_)
   clear hK K
   refine tk_ ?_
   refine Sq.done (NoPanic.normal ?_)
   exact key CJ w8 ⟨HW8,HE8,HI8,HJ8,HXJ,HNJE,HNJI,HGJ⟩
  case rest3 =>
   intro CJ v3 hF
   obtain ⟨HW_v3,HE_v3,HI_v3,HJ_v3,HXJ,HNJE,HNJI,HGJ⟩:=hF
   obtain ⟨a,af,az⟩:=opc_ HW_v3.out.open_
   have jE:=bd7_ HE_v3
   have I:=bd7_ HI_v3
   have J:=bd7_ HJ_v3
   go_wp2_with fail
   refine (s_FeeUp y4 y5 e.Amt _).mono ?_
   rintro e' wz ⟨rfl,rfl⟩
   have hfa:=amtB_feeV y4 y5 e.Amt
   obtain ⟨fee,hfe⟩ : ∃ f,feeV y4 y5 e.Amt = f:=⟨_,rfl⟩
   rw [hfe] at hfa ⊢
   have HFE:=hd_ hfe
   clear hfe
   obtain ⟨m5,m6⟩:=zja.1 hfa
   have HFA:=hd_ hfa
   clear hfa
   cases tf : amtB (e.Amt + fee)
   ·
    have HTF:=hd_ tf
    go_wp2_with fail
    refine (zka _ _ _ (by rw [HTF.out,Bool.and_false])).mono ?_
    rintro e' wz ⟨rfl,rfl⟩
    clear tf
    cases tk : feeOk y4 y5 e.Amt
    ·
     go_wp2_with fail
     refine zql (fun w' => kqiiissss w' X b.t b.n b.w (some ⟨g,0,none⟩) b.cs.length p1 A2 b.hs.length p2 A3 b.os.length p3 A4 L.length p4 (kqE w' E e (kqiiiiiii w' CI x0 x1 x2 x3 x4 x5 x6 (kqiiiiiii_ w' CJ y0 y1 y2 y3 y4 y5 y6)))) [yF 0 91,yF 1 92,yF 2 93,yF 3 94,yF 4 95,yF 5 96,yF 6 97,yF 7 98,yF 8 99,yF 9 100,yT 10 101,yF 11 10] (by kernel_rfl) (by kernel_rfl) (by kernel_rfl) (q78_ a (q7_ jE (q7_ I J))) (fun hH => ?_)
     obtain ⟨w5,hwd⟩ : ∃ wd,v3.drew = wd:=⟨_,rfl⟩
     have HW5:=wkd_ hwd HW_v3
     have HE5:=hr_ hwd HE_v3
     have HI5:=hr_ hwd HI_v3
     have HJ5:=hr_ hwd HJ_v3
     clear a af az jE I J
     rw [hwd] at hH ⊢
     clear hwd
     obtain ⟨a,af,az⟩:=opc_ HW5.out.open_
     have jE:=bd7_ HE5
     have I:=bd7_ HI5
     have J:=bd7_ HJ5
     refine tk_ ?_
     refine ss_ (fun K hK => ?_)
     go_simp
     refine (zhh b.t b.n b.w b.cs b.hs b.os _ _ _ _ _ _ ⟨x0,x1,x2,x3,x4,x5,x6⟩ ⟨y0,y1,y2,y3,y4,y5,y6⟩ e.Amt e.Yes _ HSM HW5.out.o.rd).mono ?_
     rintro e' w6 ⟨rfl,hb⟩
     obtain ⟨room,hrm⟩ : ∃ r,roomF b.hs ⟨y0,y1,y2,y3,y4,y5,y6⟩ y0 e.Amt x6 e.Yes = r:=⟨_,rfl⟩
     simp only
     rw [hrm]
     have HRM:=hd_ hrm
     clear hrm
     have HW6:=hd_ (HW5.out.below hb)
     have HE6:=hb_ hb HE5
     have HI6:=hb_ hb HI5
     have HJ6:=hb_ hb HJ5
     clear hb
     clear a af az jE I J
     obtain ⟨a,af,az⟩:=opc_ HW6.out.open_
     have jE:=bd7_ HE6
     have I:=bd7_ HI6
     have J:=bd7_ HJ6
     go_simp
     refine hK.out _ _ (q78_ a (q7_ jE (q7_ I J))) (fun hH => ?_)
     clear hK K
     refine tk_ ?_
     refine Sq.done (NoPanic.normal ?_)
     go_wp2_with fail
     refine (zqy _ _ B X b L (some ⟨g,0,none⟩) A2 A3 A4 p1 p2 p3 p4 10 (by decide) HW6).mono ?_
     rintro e' w7 ⟨rfl,hh,ho⟩
     have HW7:=hd_ (HW6.out.trans hh)
     have HE7:=hd_ (ho _ _ HXE HE6)
     have HI7:=hd_ (ho _ _ HXI HI6)
     have HJ7:=hd_ (ho _ _ HXJ HJ6)
     clear hh ho
     clear a af az jE I J
     obtain ⟨a,af,az⟩:=opc_ HW7.out.open_
     have jE:=bd7_ HE7
     have I:=bd7_ HI7
     have J:=bd7_ HJ7
     go_wp2_with fail
     go_end0
     rw [HCi.out,HCj.out,zwu H9 H6 H14 (by (try simp only);rw [HFE.out,HTF.out,Bool.and_false])]
     exact Acts.no (by decide) ⟨_,_,_,_,_,_,_,_,rfl,HW7.out⟩
    go_wp2_with fail
    refine zql (fun w' => kqiiissss w' X b.t b.n b.w (some ⟨g,0,none⟩) b.cs.length p1 A2 b.hs.length p2 A3 b.os.length p3 A4 L.length p4 (kqE w' E e (kqiiiiiii w' CI x0 x1 x2 x3 x4 x5 x6 (kqiiiiiii_ w' CJ y0 y1 y2 y3 y4 y5 y6)))) [yF 0 91,yF 1 92,yF 2 93,yF 3 94,yF 4 95,yF 5 96,yF 6 97,yF 7 98,yF 8 99,yF 9 100,yT 10 101,yF 11 10] (by kernel_rfl) (by kernel_rfl) (by kernel_rfl) (q78_ a (q7_ jE (q7_ I J))) (fun hH => ?_)
    obtain ⟨w5,hwd⟩ : ∃ wd,v3.drew = wd:=⟨_,rfl⟩
    have HW5:=wkd_ hwd HW_v3
    have HE5:=hr_ hwd HE_v3
    have HI5:=hr_ hwd HI_v3
    have HJ5:=hr_ hwd HJ_v3
    clear a af az jE I J
    rw [hwd] at hH ⊢
    clear hwd
    obtain ⟨a,af,az⟩:=opc_ HW5.out.open_
    have jE:=bd7_ HE5
    have I:=bd7_ HI5
    have J:=bd7_ HJ5
    refine tk_ ?_
    refine ss_ (fun K hK => ?_)
    go_simp
    refine (zhh b.t b.n b.w b.cs b.hs b.os _ _ _ _ _ _ ⟨x0,x1,x2,x3,x4,x5,x6⟩ ⟨y0,y1,y2,y3,y4,y5,y6⟩ e.Amt e.Yes _ HSM HW5.out.o.rd).mono ?_
    rintro e' w6 ⟨rfl,hb⟩
    obtain ⟨room,hrm⟩ : ∃ r,roomF b.hs ⟨y0,y1,y2,y3,y4,y5,y6⟩ y0 e.Amt x6 e.Yes = r:=⟨_,rfl⟩
    simp only
    rw [hrm]
    have HRM:=hd_ hrm
    clear hrm
    have HW6:=hd_ (HW5.out.below hb)
    have HE6:=hb_ hb HE5
    have HI6:=hb_ hb HI5
    have HJ6:=hb_ hb HJ5
    clear hb
    clear a af az jE I J
    obtain ⟨a,af,az⟩:=opc_ HW6.out.open_
    have jE:=bd7_ HE6
    have I:=bd7_ HI6
    have J:=bd7_ HJ6
    go_simp
    refine hK.out _ _ (q78_ a (q7_ jE (q7_ I J))) (fun hH => ?_)
    clear hK K
    refine tk_ ?_
    refine Sq.done (NoPanic.normal ?_)
    go_wp2_with fail
    refine (zqy _ _ B X b L (some ⟨g,0,none⟩) A2 A3 A4 p1 p2 p3 p4 10 (by decide) HW6).mono ?_
    rintro e' w7 ⟨rfl,hh,ho⟩
    have HW7:=hd_ (HW6.out.trans hh)
    have HE7:=hd_ (ho _ _ HXE HE6)
    have HI7:=hd_ (ho _ _ HXI HI6)
    have HJ7:=hd_ (ho _ _ HXJ HJ6)
    clear hh ho
    clear a af az jE I J
    obtain ⟨a,af,az⟩:=opc_ HW7.out.open_
    have jE:=bd7_ HE7
    have I:=bd7_ HI7
    have J:=bd7_ HJ7
    go_wp2_with fail
    go_end0
    rw [HCi.out,HCj.out,zwu H9 H6 H14 (by (try simp only);rw [HFE.out,HTF.out,Bool.and_false])]
    exact Acts.no (by decide) ⟨_,_,_,_,_,_,_,_,rfl,HW7.out⟩
   have HTF:=hd_ tf
   go_wp2_with fail
   refine (zjv _ _ _ ha HFA HTF).mono ?_
   rintro e' wz ⟨rfl,rfl⟩
   clear tf
   cases tk : feeOk y4 y5 e.Amt
   ·
    have HTK:=hd_ tk
    go_wp2_with fail
    refine zql (fun w' => kqiiissss w' X b.t b.n b.w (some ⟨g,0,none⟩) b.cs.length p1 A2 b.hs.length p2 A3 b.os.length p3 A4 L.length p4 (kqE w' E e (kqiiiiiii w' CI x0 x1 x2 x3 x4 x5 x6 (kqiiiiiii_ w' CJ y0 y1 y2 y3 y4 y5 y6)))) [yF 0 91,yF 1 92,yF 2 93,yF 3 94,yF 4 95,yF 5 96,yF 6 97,yF 7 98,yF 8 99,yF 9 100,yT 10 101,yF 11 10] (by kernel_rfl) (by kernel_rfl) (by kernel_rfl) (q78_ a (q7_ jE (q7_ I J))) (fun hH => ?_)
    obtain ⟨w5,hwd⟩ : ∃ wd,v3.drew = wd:=⟨_,rfl⟩
    have HW5:=wkd_ hwd HW_v3
    have HE5:=hr_ hwd HE_v3
    have HI5:=hr_ hwd HI_v3
    have HJ5:=hr_ hwd HJ_v3
    clear a af az jE I J
    rw [hwd] at hH ⊢
    clear hwd
    obtain ⟨a,af,az⟩:=opc_ HW5.out.open_
    have jE:=bd7_ HE5
    have I:=bd7_ HI5
    have J:=bd7_ HJ5
    refine tk_ ?_
    refine ss_ (fun K hK => ?_)
    go_simp
    refine (zhh b.t b.n b.w b.cs b.hs b.os _ _ _ _ _ _ ⟨x0,x1,x2,x3,x4,x5,x6⟩ ⟨y0,y1,y2,y3,y4,y5,y6⟩ e.Amt e.Yes _ HSM HW5.out.o.rd).mono ?_
    rintro e' w6 ⟨rfl,hb⟩
    obtain ⟨room,hrm⟩ : ∃ r,roomF b.hs ⟨y0,y1,y2,y3,y4,y5,y6⟩ y0 e.Amt x6 e.Yes = r:=⟨_,rfl⟩
    simp only
    rw [hrm]
    have HRM:=hd_ hrm
    clear hrm
    have HW6:=hd_ (HW5.out.below hb)
    have HE6:=hb_ hb HE5
    have HI6:=hb_ hb HI5
    have HJ6:=hb_ hb HJ5
    clear hb
    clear a af az jE I J
    obtain ⟨a,af,az⟩:=opc_ HW6.out.open_
    have jE:=bd7_ HE6
    have I:=bd7_ HI6
    have J:=bd7_ HJ6
    go_simp
    refine hK.out _ _ (q78_ a (q7_ jE (q7_ I J))) (fun hH => ?_)
    clear hK K
    refine tk_ ?_
    refine Sq.done (NoPanic.normal ?_)
    go_wp2_with fail
    refine (zqy _ _ B X b L (some ⟨g,0,none⟩) A2 A3 A4 p1 p2 p3 p4 10 (by decide) HW6).mono ?_
    rintro e' w7 ⟨rfl,hh,ho⟩
    have HW7:=hd_ (HW6.out.trans hh)
    have HE7:=hd_ (ho _ _ HXE HE6)
    have HI7:=hd_ (ho _ _ HXI HI6)
    have HJ7:=hd_ (ho _ _ HXJ HJ6)
    clear hh ho
    clear a af az jE I J
    obtain ⟨a,af,az⟩:=opc_ HW7.out.open_
    have jE:=bd7_ HE7
    have I:=bd7_ HI7
    have J:=bd7_ HJ7
    go_wp2_with fail
    go_end0
    rw [HCi.out,HCj.out,zwu H9 H6 H14 (by (try simp only);rw [HTK.out,Bool.false_and])]
    exact Acts.no (by decide) ⟨_,_,_,_,_,_,_,_,rfl,HW7.out⟩
   have HTK:=hd_ tk
   have H4 : Hid ((feeOk y4 y5 e.Amt && amtB (e.Amt + feeV y4 y5 e.Amt)) = true):=hd_ (by rw [HTK.out,HFE.out,HTF.out];rfl)
   have hsum:=zja.1 HTF
   obtain ⟨m7,m8⟩:=hsum
   go_wp2_with fail
   refine zql (fun w' => kqiiissss w' X b.t b.n b.w (some ⟨g,0,none⟩) b.cs.length p1 A2 b.hs.length p2 A3 b.os.length p3 A4 L.length p4 (kqE w' E e (kqiiiiiii w' CI x0 x1 x2 x3 x4 x5 x6 (kqiiiiiii_ w' CJ y0 y1 y2 y3 y4 y5 y6)))) [yF 0 91,yF 1 92,yF 2 93,yF 3 94,yF 4 95,yF 5 96,yF 6 97,yF 7 98,yF 8 99,yF 9 100,yT 10 101,yF 11 10] (by kernel_rfl) (by kernel_rfl) (by kernel_rfl) (q78_ a (q7_ jE (q7_ I J))) (fun hH => ?_)
   obtain ⟨w5,hwd⟩ : ∃ wd,v3.drew = wd:=⟨_,rfl⟩
   have HW5:=wkd_ hwd HW_v3
   have HE5:=hr_ hwd HE_v3
   have HI5:=hr_ hwd HI_v3
   have HJ5:=hr_ hwd HJ_v3
   clear a af az jE I J
   rw [hwd] at hH ⊢
   clear hwd
   obtain ⟨a,af,az⟩:=opc_ HW5.out.open_
   have jE:=bd7_ HE5
   have I:=bd7_ HI5
   have J:=bd7_ HJ5
   refine tk_ ?_
   refine ss_ (fun K hK => ?_)
   go_simp
   refine (zhh b.t b.n b.w b.cs b.hs b.os _ _ _ _ _ _ ⟨x0,x1,x2,x3,x4,x5,x6⟩ ⟨y0,y1,y2,y3,y4,y5,y6⟩ e.Amt e.Yes _ HSM HW5.out.o.rd).mono ?_
   rintro e' w6 ⟨rfl,hb⟩
   obtain ⟨room,hrm⟩ : ∃ r,roomF b.hs ⟨y0,y1,y2,y3,y4,y5,y6⟩ y0 e.Amt x6 e.Yes = r:=⟨_,rfl⟩
   simp only
   rw [hrm]
   have HRM:=hd_ hrm
   clear hrm
   have HW6:=hd_ (HW5.out.below hb)
   have HE6:=hb_ hb HE5
   have HI6:=hb_ hb HI5
   have HJ6:=hb_ hb HJ5
   clear hb
   clear a af az jE I J
   obtain ⟨a,af,az⟩:=opc_ HW6.out.open_
   have jE:=bd7_ HE6
   have I:=bd7_ HI6
   have J:=bd7_ HJ6
   go_simp
   refine hK.out _ _ (q78_ a (q7_ jE (q7_ I J))) (fun hH => ?_)
   clear hK K
   refine tk_ ?_
   refine Sq.done (NoPanic.normal ?_)
   go_wp2_with fail
   cases t11 : decide (x3 < e.Amt + fee)
   rotate_left
   ·
    have n1:=of_decide_eq_true t11
    have HO:=hd_ (zps (b:=b) (e:=e) (i:=⟨x0,x1,x2,x3,x4,x5,x6⟩) (o:=⟨y0,y1,y2,y3,y4,y5,y6⟩) H9 H6 H14 H4 (by simp only;rw [HFE.out];omega))
    refine (zqp _ _ B X b L (some ⟨g,0,none⟩) A2 A3 A4 p1 p2 p3 p4 10 HW6).mono ?_
    rintro e' wz ⟨rfl,rfl⟩
    go_wp2_with fail
    refine (zqy _ _ B X b L (some ⟨g,0,none⟩) A2 A3 A4 p1 p2 p3 p4 11 (by decide) HW6).mono ?_
    rintro e' w7 ⟨rfl,hh,ho⟩
    have HW7:=hd_ (HW6.out.trans hh)
    have HE7:=hd_ (ho _ _ HXE HE6)
    have HI7:=hd_ (ho _ _ HXI HI6)
    have HJ7:=hd_ (ho _ _ HXJ HJ6)
    clear hh ho
    clear a af az jE I J
    obtain ⟨a,af,az⟩:=opc_ HW7.out.open_
    have jE:=bd7_ HE7
    have I:=bd7_ HI7
    have J:=bd7_ HJ7
    go_wp2_with fail
    go_end0
    rw [HCi.out,HCj.out,HO.out]
    exact Acts.no (by decide) ⟨_,_,_,_,_,_,_,_,rfl,HW7.out⟩
   have n1:=of_decide_eq_false t11
   have H5 : Hid (e.Amt + feeV y4 y5 e.Amt ≤ x3):=hd_ (by rw [HFE.out];omega)
   cases t12 : decide (y2 < e.Amt)
   rotate_left
   ·
    have n2:=of_decide_eq_true t12
    have HO:=hd_ (zpt (b:=b) (e:=e) (i:=⟨x0,x1,x2,x3,x4,x5,x6⟩) (o:=⟨y0,y1,y2,y3,y4,y5,y6⟩) H9 H6 H14 H4 H5 (by simp only;omega))
    refine (zqp _ _ B X b L (some ⟨g,0,none⟩) A2 A3 A4 p1 p2 p3 p4 10 HW6).mono ?_
    rintro e' wz ⟨rfl,rfl⟩
    go_wp2_with fail
    refine (zqp _ _ B X b L (some ⟨g,0,none⟩) A2 A3 A4 p1 p2 p3 p4 11 HW6).mono ?_
    rintro e' wz ⟨rfl,rfl⟩
    go_wp2_with fail
    refine (zqy _ _ B X b L (some ⟨g,0,none⟩) A2 A3 A4 p1 p2 p3 p4 12 (by decide) HW6).mono ?_
    rintro e' w7 ⟨rfl,hh,ho⟩
    have HW7:=hd_ (HW6.out.trans hh)
    have HE7:=hd_ (ho _ _ HXE HE6)
    have HI7:=hd_ (ho _ _ HXI HI6)
    have HJ7:=hd_ (ho _ _ HXJ HJ6)
    clear hh ho
    clear a af az jE I J
    obtain ⟨a,af,az⟩:=opc_ HW7.out.open_
    have jE:=bd7_ HE7
    have I:=bd7_ HI7
    have J:=bd7_ HJ7
    go_wp2_with fail
    go_end0
    rw [HCi.out,HCj.out,HO.out]
    exact Acts.no (by decide) ⟨_,_,_,_,_,_,_,_,rfl,HW7.out⟩
   have n2:=of_decide_eq_false t12
   cases t13 : (room == 0)
   rotate_left
   ·
    have n3:=eq_of_beq t13
    have HO:=hd_ (zyf (b:=b) (e:=e) (i:=⟨x0,x1,x2,x3,x4,x5,x6⟩) (o:=⟨y0,y1,y2,y3,y4,y5,y6⟩) H9 H6 H14 H4 H5 (by simp only;omega) (by simp only;rw [HRM.out];exact n3))
    clear n3
    refine (zqp _ _ B X b L (some ⟨g,0,none⟩) A2 A3 A4 p1 p2 p3 p4 10 HW6).mono ?_
    rintro e' wz ⟨rfl,rfl⟩
    go_wp2_with fail
    refine (zqp _ _ B X b L (some ⟨g,0,none⟩) A2 A3 A4 p1 p2 p3 p4 11 HW6).mono ?_
    rintro e' wz ⟨rfl,rfl⟩
    go_wp2_with fail
    refine (zqp _ _ B X b L (some ⟨g,0,none⟩) A2 A3 A4 p1 p2 p3 p4 12 HW6).mono ?_
    rintro e' wz ⟨rfl,rfl⟩
    go_wp2_with fail
    refine (zqy _ _ B X b L (some ⟨g,0,none⟩) A2 A3 A4 p1 p2 p3 p4 13 (by decide) HW6).mono ?_
    rintro e' w7 ⟨rfl,hh,ho⟩
    have HW7:=hd_ (HW6.out.trans hh)
    have HE7:=hd_ (ho _ _ HXE HE6)
    have HI7:=hd_ (ho _ _ HXI HI6)
    have HJ7:=hd_ (ho _ _ HXJ HJ6)
    clear hh ho
    clear a af az jE I J
    obtain ⟨a,af,az⟩:=opc_ HW7.out.open_
    have jE:=bd7_ HE7
    have I:=bd7_ HI7
    have J:=bd7_ HJ7
    go_wp2_with fail
    go_end0
    rw [HCi.out,HCj.out,HO.out]
    exact Acts.no (by decide) ⟨_,_,_,_,_,_,_,_,rfl,HW7.out⟩
   have n3:=beq_eq_false_iff_ne.1 t13
   have HO:=hd_ (zyg (b:=b) (e:=e) (i:=⟨x0,x1,x2,x3,x4,x5,x6⟩) (o:=⟨y0,y1,y2,y3,y4,y5,y6⟩) H9 H6 H14 H4 H5 (by simp only;omega) (by simp only;rw [HRM.out];exact n3))
   clear n3
   refine (zqp _ _ B X b L (some ⟨g,0,none⟩) A2 A3 A4 p1 p2 p3 p4 10 HW6).mono ?_
   rintro e' wz ⟨rfl,rfl⟩
   go_wp2_with fail
   refine (zqp _ _ B X b L (some ⟨g,0,none⟩) A2 A3 A4 p1 p2 p3 p4 11 HW6).mono ?_
   rintro e' wz ⟨rfl,rfl⟩
   go_wp2_with fail
   refine (zqp _ _ B X b L (some ⟨g,0,none⟩) A2 A3 A4 p1 p2 p3 p4 12 HW6).mono ?_
   rintro e' wz ⟨rfl,rfl⟩
   go_wp2_with fail
   refine (zqp _ _ B X b L (some ⟨g,0,none⟩) A2 A3 A4 p1 p2 p3 p4 13 HW6).mono ?_
   rintro e' wz ⟨rfl,rfl⟩
   go_wp2_with fail
   clear t11 t12 t13 tk
   clear a af az jE I J
   obtain ⟨a,af,az⟩:=opc_ HW6.out.open_
   have jE:=bd7_ HE6
   refine zqs (fun w' => kqiiissss w' X b.t b.n b.w (some ⟨g,0,none⟩) b.cs.length p1 A2 b.hs.length p2 A3 b.os.length p3 A4 L.length p4 (kqE_ w' E e)) [yF 0 133,yF 1 134,yF 2 135,yF 3 136,yF 4 137,yF 5 138,yF 6 139,yF 7 140,yF 8 141,yF 9 142,yF 10 143,yF 11 144,yF 12 145,yF 13 146,yF 14 147,yF 15 148,yF 16 149,yF 17 150,yT 18 151,yT 19 152,yF 20 153,yF 21 154,yF 22 155] rfl (by kernel_rfl) (by kernel_rfl) (by kernel_rfl) (by kernel_rfl) (by kernel_rfl) (by kernel_rfl) (q78_ a jE) (fun hH => ?_)
   obtain ⟨w7,hwd⟩ : ∃ wd,w6.drew = wd:=⟨_,rfl⟩
   have HW7:=wkd_ hwd HW6
   have HE7:=hr_ hwd HE6
   clear a af az jE
   rw [hwd] at hH ⊢
   clear hwd
   obtain ⟨a,af,az⟩:=opc_ HW7.out.open_
   have jE:=bd7_ HE7
   refine tk_ ?_
   refine ss_ (fun K hK => ?_)
   go_simp
   refine zxu (fun w8 hw => ?_)
   have HW8:=wka_ hw HW7
   have HE8:=ha_ hw HE7
   have HB : Hid (w8.heap[w7.heap.size]? = some (.cells #[.int .i64 e.Key,.int .i64 e.Ch,.int .i64 e.To,.int .i64 (e.Amt + fee),.int .i64 e.Amt,.bool (room == 2),.int .i64 0] 70 (0,0))):=hd_ (by rw [hw];exact zqi rfl)
   clear hw
   clear a af az jE
   obtain ⟨a,af,az⟩:=opc_ HW8.out.open_
   have jE:=bd7_ HE8
   go_simp
   refine hK.out _ _ (q78_ a jE) (fun hH => ?_)
   clear hK K
   refine tk_ ?_
   refine ss_ (fun K hK => ?_)
   refine zje (ops:=#[]) (E:=True) rfl (zks rfl _ _ _ rfl B 70 i0 _ 7 56 Tryz.underlying36 HI0 HI1 HI2 HI3 rfl (by decide) (.slice A2 b.hs.length p2) _ (by rfl) HW8.out.o.h w7.heap.size 1 [.int .i64 e.Key,.int .i64 e.Ch,.int .i64 e.To,.int .i64 (e.Amt + fee),.int .i64 e.Amt,.bool (room == 2),.int .i64 0] 70 (by rfl) HB rfl (by simp [Value.oneCell']) (by rw [List.length_map];omega) (by decide) HW8.out.ble ?_)
   intro g2 cap2 w9 how2 hgr2 hat2 hlt2
   have HA:=hd_ (HW8.out.appH (by decide) (by decide) (by decide) (by decide) (c:=⟨e.Key,e.Ch,e.To,(e.Amt + fee),e.Amt,(room == 2),0⟩) how2 hgr2)
   have HE9 : Hid (Hx w9 E (evC e) 64):=hd_ (zqe hgr2 (HW8.out.o.h.ne_ HE8 (by decide)) HE8)
   clear how2 hgr2 hat2 HB
   rw [List.length_map]
   clear a af az jE
   obtain ⟨_,a,af,az⟩:=opd_ (own8 HA.out.1)
   have jE:=bd7_ HE9
   go_simp
   refine hK.out _ _ (q78_ a jE) (fun hH => ?_)
   clear hK K
   refine tk_ ?_
   refine Sq.done ?_
   intro KK hKK
   go_simp
   refine hKK _ _ (NoPanic.normal ?_)
   refine nm_ ?_
   intro w10 hw
   have HW10 : Hid (Wk 108 w w10 B X ⟨b.t,b.n,b.w,b.cs,(b.hs ++ [⟨e.Key,e.Ch,e.To,(e.Amt + fee),e.Amt,(room == 2),0⟩]),b.os⟩ L 0 (some ⟨g,0,none⟩) (some ⟨g2,0,none⟩) A3 A4 p1 cap2 p3 p4):=hd_ (by rw [hw];exact HA.out.2)
   have HE10:=hf_ hw HXE HE9
   clear hw
   clear a af az jE
   obtain ⟨a,af,az⟩:=opc_ HW10.out.open_
   have jE:=bd7_ HE10
   clear HA
   go_wp2_with fail
   refine (zjh _ _ B X ⟨b.t,b.n,b.w,b.cs,(b.hs ++ [⟨e.Key,e.Ch,e.To,(e.Amt + fee),e.Amt,(room == 2),0⟩]),b.os⟩ L 0 (some ⟨g,0,none⟩) (some ⟨g2,0,none⟩) A3 A4 p1 cap2 p3 p4 e.Ch 0 (-(e.Amt + fee)) (by (try simp only);omega) (Hmi.out) (by have:=HBD.out.at_ Hmi.out;(try simp only);omega) (by omega) (by omega) HW10.out).mono ?_
   rintro e' w11 ⟨rfl,hh,ho⟩
   have HE11:=hd_ (ho g rfl _ _ (fun e9 => HW10.out.o.c.ne_ HE10 (by decide) (by rw [e9];rfl)) HE10)
   obtain ⟨cs1,hc9⟩ : ∃ v,moveC b.cs e.Ch 0 (-(e.Amt + fee)) = v:=⟨_,rfl⟩
   rw [hc9] at hh
   have Hcs1:=hd_ hc9
   have HW11:=hd_ (HW10.out.trans hh)
   clear hh ho hc9
   clear a af az jE
   obtain ⟨a,af,az⟩:=opc_ HW11.out.open_
   have jE:=bd7_ HE11
   have Hix1 : Hid (∀ ch,chanIx cs1 ch = chanIx b.cs ch):=hd_ (by rw [← Hcs1.out];exact fun ch => zxn _ _ _ _ ch)
   have hl1 : cs1.length = b.cs.length:=by rw [← Hcs1.out];exact zxg _ _ _ _
   have HBD1 : Hid (Bd (1125899906842624 + 2251799813685248) cs1):=hd_ (by rw [← Hcs1.out];exact HBD.out.move _ _ _ (by omega) (by omega))
   have HL1:=hd_ hl1
   clear hl1
   go_wp2_with fail
   refine (zjh _ _ B X ⟨b.t,b.n,b.w,cs1,(b.hs ++ [⟨e.Key,e.Ch,e.To,(e.Amt + fee),e.Amt,(room == 2),0⟩]),b.os⟩ L 0 (some ⟨g,0,none⟩) (some ⟨g2,0,none⟩) A3 A4 p1 cap2 p3 p4 e.To (-e.Amt) 0 (by have:=HL1.out;(try simp only);omega) (by (try simp only);rw [Hix1.out];exact Hmo.out) (by have:=HBD1.out.at_ (ch:=e.To) (by rw [Hix1.out];exact Hmo.out);(try simp only);omega) (by omega) (by omega) HW11.out).mono ?_
   rintro e' w12 ⟨rfl,hh,ho⟩
   have HE12:=hd_ (ho g rfl _ _ (fun e9 => HW11.out.o.c.ne_ HE11 (by decide) (by rw [e9];rfl)) HE11)
   obtain ⟨cs2,hc9⟩ : ∃ v,moveC cs1 e.To (-e.Amt) 0 = v:=⟨_,rfl⟩
   rw [hc9] at hh
   have Hcs2:=hd_ hc9
   have HW12:=hd_ (HW11.out.trans hh)
   clear hh ho hc9
   clear a af az jE
   obtain ⟨a,af,az⟩:=opc_ HW12.out.open_
   have jE:=bd7_ HE12
   go_wp2_with fail
   refine (zxo _ _ B X ⟨b.t,b.n,b.w,cs2,(b.hs ++ [⟨e.Key,e.Ch,e.To,(e.Amt + fee),e.Amt,(room == 2),0⟩]),b.os⟩ L 0 (some ⟨g,0,none⟩) (some ⟨g2,0,none⟩) A3 A4 p1 cap2 p3 p4 6 e.To (-e.Amt) (by rw [HL.out];decide) HW12.out).mono ?_
   rintro e' w13 ⟨⟨Cw130,Cw131,Cw132,Cw133,rw130,rw131,rw132,rw133,rfl,hh⟩,ho⟩
   have HE13:=hd_ (ho _ _ HXE HE12)
   obtain ⟨M0,hL9⟩ : ∃ v,lineTo L 6 e.To (-e.Amt) = v:=⟨_,rfl⟩
   rw [hL9] at hh
   have hlM0 : M0.length ≤ L.length + 1:=by rw [← hL9];exact zqu _ _ _ _
   have HM0:=hd_ hL9
   have HW13:=hd_ (HW12.out.trans hh)
   clear hh ho hL9
   clear a af az jE
   obtain ⟨a,af,az⟩:=opc_ HW13.out.open_
   have jE:=bd7_ HE13
   go_wp2_with fail
   refine (zxo _ _ B X ⟨b.t,b.n,b.w,cs2,(b.hs ++ [⟨e.Key,e.Ch,e.To,(e.Amt + fee),e.Amt,(room == 2),0⟩]),b.os⟩ M0 0 Cw130 Cw131 Cw132 Cw133 rw130 rw131 rw132 rw133 8 e.To e.Amt (by rw [HL.out] at hlM0;simp at hlM0;omega) HW13.out).mono ?_
   rintro e' w14 ⟨⟨Cw140,Cw141,Cw142,Cw143,rw140,rw141,rw142,rw143,rfl,hh⟩,ho⟩
   have HE14:=hd_ (ho _ _ HXE HE13)
   obtain ⟨M1,hL9⟩ : ∃ v,lineTo M0 8 e.To e.Amt = v:=⟨_,rfl⟩
   rw [hL9] at hh
   have hlM1 : M1.length ≤ M0.length + 1:=by rw [← hL9];exact zqu _ _ _ _
   have HM1:=hd_ hL9
   have HW14:=hd_ (HW13.out.trans hh)
   clear hh ho hL9
   clear a af az jE
   obtain ⟨a,af,az⟩:=opc_ HW14.out.open_
   have jE:=bd7_ HE14
   go_wp2_with fail
   go_end0
   rw [HCi.out,HCj.out,HO.out]
   have HZ : nz [⟨6,e.To,(-e.Amt)⟩,⟨8,e.To,e.Amt⟩] = M1:=by rw [← HM1.out,← HM0.out,HL.out];exact (line2 (by decide)).symm
   (try simp only)
   rw [HFE.out,HRM.out,HZ,Hcs1.out,Hcs2.out]
   exact Acts.ok ⟨_,_,_,_,_,_,_,_,rfl,HW14.out⟩
end Go.Proofs.YtdbmkfmenfcbiaaGreat
