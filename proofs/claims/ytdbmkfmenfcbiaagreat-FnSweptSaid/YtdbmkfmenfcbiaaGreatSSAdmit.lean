/- A payment is let through: the reference's walk. -/
import Derived.Test.YtdbmkfmenfcbiaaGreatRows
import Derived.Test.YtdbmkfmenfcbiaaGreatSM2
import Derived.Test.YtdbmkfmenfcbiaaGreatSM1
namespace Go.Proofs.YtdbmkfmenfcbiaaGreat
open Go.RowKit Go.Deep
def admitS (b : Bk) (e : Event) (i o : Chan) : Out :=
 if hasB (keysOf b.hs b.os) e.Key = true then bad 9
 else if twoB b.cs e.Ch e.To = false then bad 6
 else if b.hs.length = 60 then bad 14
 else if (feeOk o.Base o.Ppm e.Amt && amtB (e.Amt + feeV o.Base o.Ppm e.Amt)) = false then bad 10
 else if i.Remote < e.Amt + feeV o.Base o.Ppm e.Amt then bad 11
 else if o.Local < e.Amt then bad 12
 else if roomF b.hs o o.Id e.Amt i.Score e.Yes = 0 then bad 13
 else done ⟨b.t,b.n,b.w,moveC (moveC b.cs e.Ch 0 (-(e.Amt + feeV o.Base o.Ppm e.Amt))) e.To (-e.Amt) 0,b.hs ++ [⟨e.Key,e.Ch,e.To,e.Amt + feeV o.Base o.Ppm e.Amt,e.Amt,roomF b.hs o o.Id e.Amt i.Score e.Yes == 2,0⟩],b.os⟩ (nz [⟨6,e.To,-e.Amt⟩,⟨8,e.To,e.Amt⟩])
section
variable {b : Bk} {e : Event} {i o : Chan}
theorem zso (h : hasB (keysOf b.hs b.os) e.Key = true) : admitS b e i o = bad 9:=by unfold admitS;rw [if_pos h]
theorem zsn (h : hasB (keysOf b.hs b.os) e.Key = false) (h2 : twoB b.cs e.Ch e.To = false) : admitS b e i o = bad 6:=by unfold admitS;rw [if_neg (by rw [h];decide),if_pos h2]
theorem zpr (h : hasB (keysOf b.hs b.os) e.Key = false) (h2 : twoB b.cs e.Ch e.To = true) (h3 : b.hs.length = 60) : admitS b e i o = bad 14:=by unfold admitS;rw [if_neg (by rw [h];decide),if_neg (by rw [h2];decide),if_pos h3]
theorem zwh (h : hasB (keysOf b.hs b.os) e.Key = false) (h2 : twoB b.cs e.Ch e.To = true) (h3 : b.hs.length ≠ 60) (h4 : (feeOk o.Base o.Ppm e.Amt && amtB (e.Amt + feeV o.Base o.Ppm e.Amt)) = false) : admitS b e i o = bad 10:=by unfold admitS;rw [if_neg (by rw [h];decide),if_neg (by rw [h2];decide),if_neg h3,if_pos h4]
theorem zpo (h : hasB (keysOf b.hs b.os) e.Key = false) (h2 : twoB b.cs e.Ch e.To = true) (h3 : b.hs.length ≠ 60) (h4 : (feeOk o.Base o.Ppm e.Amt && amtB (e.Amt + feeV o.Base o.Ppm e.Amt)) = true) (h5 : i.Remote < e.Amt + feeV o.Base o.Ppm e.Amt) : admitS b e i o = bad 11:=by
 unfold admitS;rw [if_neg (by rw [h];decide),if_neg (by rw [h2];decide),if_neg h3,if_neg (by rw [h4];decide),if_pos h5]
theorem zpp (h : hasB (keysOf b.hs b.os) e.Key = false) (h2 : twoB b.cs e.Ch e.To = true) (h3 : b.hs.length ≠ 60) (h4 : (feeOk o.Base o.Ppm e.Amt && amtB (e.Amt + feeV o.Base o.Ppm e.Amt)) = true) (h5 : e.Amt + feeV o.Base o.Ppm e.Amt ≤ i.Remote) (h6 : o.Local < e.Amt) : admitS b e i o = bad 12:=by
 unfold admitS;rw [if_neg (by rw [h];decide),if_neg (by rw [h2];decide),if_neg h3,if_neg (by rw [h4];decide),if_neg (by omega),if_pos h6]
theorem zpq (h : hasB (keysOf b.hs b.os) e.Key = false) (h2 : twoB b.cs e.Ch e.To = true) (h3 : b.hs.length ≠ 60) (h4 : (feeOk o.Base o.Ppm e.Amt && amtB (e.Amt + feeV o.Base o.Ppm e.Amt)) = true) (h5 : e.Amt + feeV o.Base o.Ppm e.Amt ≤ i.Remote) (h6 : e.Amt ≤ o.Local) (h7 : roomF b.hs o o.Id e.Amt i.Score e.Yes = 0) : admitS b e i o = bad 13:=by
 unfold admitS;rw [if_neg (by rw [h];decide),if_neg (by rw [h2];decide),if_neg h3,if_neg (by rw [h4];decide),if_neg (by omega),if_neg (by omega),if_pos h7]
theorem zps (h : hasB (keysOf b.hs b.os) e.Key = false) (h2 : twoB b.cs e.Ch e.To = true) (h3 : b.hs.length ≠ 60) (h4 : (feeOk o.Base o.Ppm e.Amt && amtB (e.Amt + feeV o.Base o.Ppm e.Amt)) = true) (h5 : e.Amt + feeV o.Base o.Ppm e.Amt ≤ i.Remote) (h6 : e.Amt ≤ o.Local) (h7 : roomF b.hs o o.Id e.Amt i.Score e.Yes ≠ 0) :
  admitS b e i o = done ⟨b.t,b.n,b.w,moveC (moveC b.cs e.Ch 0 (-(e.Amt + feeV o.Base o.Ppm e.Amt))) e.To (-e.Amt) 0,b.hs ++ [⟨e.Key,e.Ch,e.To,e.Amt + feeV o.Base o.Ppm e.Amt,e.Amt,roomF b.hs o o.Id e.Amt i.Score e.Yes == 2,0⟩],b.os⟩ (nz [⟨6,e.To,-e.Amt⟩,⟨8,e.To,e.Amt⟩]):=by
 unfold admitS;rw [if_neg (by rw [h];decide),if_neg (by rw [h2];decide),if_neg h3,if_neg (by rw [h4];decide),if_neg (by omega),if_neg (by omega),if_neg h7]
end
theorem zpt (base ppm n : Int) : amtB (feeV base ppm n) = true:=by
 unfold feeV
 split
 ·
  rename_i h
  simp only [feeOk,Bool.and_eq_true] at h
  exact h.2
 ·
  decide
theorem twoB_ix2 {cs : List Chan} {x y : Int} (h : twoB cs x y = true) : 0 ≤ chanIx cs x∧0 ≤ chanIx cs y:=by
 simp only [twoB,Bool.and_eq_true,decide_eq_true_eq] at h
 exact ⟨h.1.2,h.2⟩
set_option maxRecDepth 100000 in
set_option maxHeartbeats 16000000 in
theorem zpj (w0 w : World) (B X : Nat) (b : Bk) (A1 A2 A3 A4 : Option Addr) (p1 p2 p3 p4 : Nat) (e : Event) (hF : BookFacts b.t b.n b.w b.cs b.hs b.os) (ha : amtB e.Amt = true) (h : Wk 108 w0 w B X b [] 0 A1 A2 A3 A4 p1 p2 p3 p4) :
  Calls Tryz.prog 70 #[.pointer (some ⟨X,0,none⟩),.agg #[.int .i64 e.Kind,.int .i64 e.Key,.int .i64 e.Ch,.int .i64 e.To,.int .i64 e.Amt,.int .i64 e.Fee,.bool e.Yes]] w (Acts 108 w B X (admitS b e (chanOf b.cs e.Ch) (chanOf b.cs e.To))):=by
 have H:=hd_ h.here
 clear h
 obtain ⟨L,hL⟩ : ∃ L : List Line,L = []:=⟨_,rfl⟩
 rw [← hL] at H
 have HL:=hd_ hL
 clear hL
 obtain ⟨E,hE⟩ : ∃ E,E = w.heap.size:=⟨_,rfl⟩
 obtain ⟨m1,m2⟩:=zxy.1 ha
 have hcl:=hF.cl
 have h60:=hF.small.hl
 have h20:=hF.small.ol
 have HSM:=hd_ hF.small
 have HBD:=hd_ (zjx hF)
 have hkl : (keysOf b.hs b.os).length ≤ 80:=by unfold keysOf;rw [List.length_append,List.length_map,List.length_map];omega
 clear hF
 obtain ⟨i0,hi,hz0,hz1,hz2⟩:=info_parts zjw
 have HI0:=hd_ hi
 have HI1:=hd_ hz0
 have HI2:=hd_ hz1
 have HI3:=hd_ hz2
 clear hi hz0 hz1 hz2
 go_enter Tryz.func70,Tryz.ntmps70
 go_wp2_with fail
 rw [← hE]
 refine nm_ ?_
 intro w1 hw
 have HW_w1 : Hid (Wk 108 w w1 B X b L 0 A1 A2 A3 A4 p1 p2 p3 p4):=hd_ (by rw [hw];exact H.out.alloc _)
 have HE_w1 : Hid (Hx w1 E (evC e) 64):=hd_ (by rw [hw];exact (hE ▸ zqm rfl))
 clear hw
 obtain ⟨a0,a1,a2,a3,a4,a5,a6,a7,af,az⟩:=HW_w1.out.open_
 obtain ⟨E0,E1,E2,E3,E4,E5,E6,-,-⟩:=box7_ HE_w1.out
 have hEB : Hid (w.heap.size ≤ E):=hd_ (by omega)
 have HXE : Hid (E ≠ X):=hd_ (by have:=H.out.lt;omega)
 clear hE
 refine zqw (fun w' => kqiiissss w' X b.t b.n b.w A1 b.cs.length p1 A2 b.hs.length p2 A3 b.os.length p3 A4 L.length p4 (kqE_ w' E e)) [yF 0 11,yF 1 12,yF 2 13,yF 3 14,yF 4 15,yF 6 17,yF 7 18,yT 5 16,yT 8 19,yT 9 20,yF 10 21,yH 11 22 21,yH 12 23 21,yH 13 24 21,yH 14 25 21,yH 15 26 21,yH 16 27 21,yH 17 28 21,yH 18 29 21,yH 19 30 21,(20,some 31,true,some (21,false)),yH 21 32 21,(22,some 33,true,some (21,false)),yF 23 34,yF 24 35,yH 25 36 35,yH 26 37 35,yH 27 38 35,yH 28 39 35,yH 29 40 35,yH 30 41 35,yH 31 42 35,yH 32 43 35,(33,some 44,true,some (35,false)),yF 34 45] (by kernel_rfl) (by kernel_rfl) (by kernel_rfl) ⟨a0,a1,a2,a3,a4,a5,a6,E0,E1,E2,E3,E4,E5,E6⟩ (fun hHeld => ?_)
 obtain ⟨w2,hwd⟩ : ∃ wd,w1.drew = wd:=⟨_,rfl⟩
 have HW_w2 : Hid (Wk 108 w w2 B X b L 0 A1 A2 A3 A4 p1 p2 p3 p4):=hd_ (by rw [← hwd];exact HW_w1.out.drew)
 have HE_w2 : Hid (Hx w2 E (evC e) 64):=hd_ (by rw [← hwd];exact zqk HE_w1.out)
 clear a0 a1 a2 a3 a4 a5 a6 a7 af az E0 E1 E2 E3 E4 E5 E6
 rw [hwd] at hHeld ⊢
 clear hwd
 obtain ⟨a0,a1,a2,a3,a4,a5,a6,a7,af,az⟩:=HW_w2.out.open_
 obtain ⟨E0,E1,E2,E3,E4,E5,E6,-,-⟩:=box7_ HE_w2.out
 refine tk_ ?_
 refine Sq.step rfl (by rfl) (fun K hK => ?_)
 go_simp
 refine (zwx b.t b.n b.w b.cs b.hs b.os _ _ _ _ _ _ _ h60 h20 HW_w2.out.o.rd).mono ?_
 rintro e' w3 ⟨KA,kcap,rfl,how,hb⟩
 have HK:=hd_ how.rd
 clear how
 have HW_w3:=hd_ (HW_w2.out.below hb)
 have HE_w3:=hd_ (zqe hb (gz_ HE_w2.out).1 HE_w2.out)
 clear hb
 clear a0 a1 a2 a3 a4 a5 a6 a7 af az E0 E1 E2 E3 E4 E5 E6
 obtain ⟨a0,a1,a2,a3,a4,a5,a6,a7,af,az⟩:=HW_w3.out.open_
 obtain ⟨E0,E1,E2,E3,E4,E5,E6,-,-⟩:=box7_ HE_w3.out
 go_simp
 refine hK.out _ _ ⟨a0,a1,a2,a3,a4,a5,a6,E0,E1,E2,E3,E4,E5,E6⟩ (fun hHeld => ?_)
 clear hK K
 refine tk_ ?_
 cases t9 : hasB (keysOf b.hs b.os) e.Key
 ·
  have H9:=hd_ t9
  refine Sq.step rfl (by rfl) (fun K hK => ?_)
  go_simp
  refine (zkc (keysOf b.hs b.os) e.Key KA kcap _ (by omega) HK.out).mono ?_
  rintro e' wz ⟨rfl,rfl⟩
  go_simp
  refine hK.out _ _ ⟨a0,a1,a2,a3,a4,a5,a6,E0,E1,E2,E3,E4,E5,E6⟩ (fun hHeld => ?_)
  clear hK K
  refine tk_ ?_
  refine Sq.step rfl (by rfl) (fun K hK => ?_)
  go_simp
  refine (zqn _ _ B X b L A1 A2 A3 A4 p1 p2 p3 p4 9 HW_w3.out).mono ?_
  rintro e' wz ⟨rfl,rfl⟩
  go_simp
  refine hK.out _ _ ⟨a0,a1,a2,a3,a4,a5,a6,E0,E1,E2,E3,E4,E5,E6⟩ (fun hHeld => ?_)
  clear hK K
  refine tk_ ?_
  clear HK
  cases t6 : twoB b.cs e.Ch e.To
  ·
   have H6:=hd_ t6
   refine Sq.step rfl (by rfl) (fun K hK => ?_)
   go_simp
   refine (zxw b.t b.n b.w b.cs b.hs b.os _ _ _ _ _ _ e.Ch e.To _ (by omega) HW_w3.out.o.rd).mono ?_
   rintro e' w4 ⟨rfl,hb⟩
   have HW_w4:=hd_ (HW_w3.out.below hb)
   have HE_w4:=hd_ (zqe hb (gz_ HE_w3.out).1 HE_w3.out)
   clear hb
   clear a0 a1 a2 a3 a4 a5 a6 a7 af az E0 E1 E2 E3 E4 E5 E6
   obtain ⟨a0,a1,a2,a3,a4,a5,a6,a7,af,az⟩:=HW_w4.out.open_
   obtain ⟨E0,E1,E2,E3,E4,E5,E6,-,-⟩:=box7_ HE_w4.out
   go_simp
   refine hK.out _ _ ⟨a0,a1,a2,a3,a4,a5,a6,E0,E1,E2,E3,E4,E5,E6⟩ (fun hHeld => ?_)
   clear hK K
   refine tk_ ?_
   refine Sq.step rfl (by rfl) (fun K hK => ?_)
   go_simp
   refine (zqv _ _ B X b L A1 A2 A3 A4 p1 p2 p3 p4 6 (by decide) HW_w4.out).mono ?_
   rintro e' w5 ⟨rfl,hh,ho⟩
   have HW_w5:=hd_ (HW_w4.out.trans hh)
   have HE_w5:=hd_ (ho _ _ HXE.out HE_w4.out)
   clear hh ho
   clear a0 a1 a2 a3 a4 a5 a6 a7 af az E0 E1 E2 E3 E4 E5 E6
   obtain ⟨a0,a1,a2,a3,a4,a5,a6,a7,af,az⟩:=HW_w5.out.open_
   obtain ⟨E0,E1,E2,E3,E4,E5,E6,-,-⟩:=box7_ HE_w5.out
   go_simp
   refine hK.out _ _ ⟨a0,a1,a2,a3,a4,a5,a6,E0,E1,E2,E3,E4,E5,E6⟩ (fun hHeld => ?_)
   clear hK K
   refine tk_ ?_
   refine Sq.done (NoPanic.normal ?_)
   go_wp2_with fail
   go_end0
   rw [zsn H9.out H6.out]
   exact Acts.no (by decide) ⟨_,_,_,_,_,_,_,_,rfl,HW_w5.out⟩
  ·
   have H6:=hd_ t6
   obtain ⟨mi,mo⟩:=twoB_ix2 t6
   have Hmi:=hd_ mi
   have Hmo:=hd_ mo
   clear mi mo
   cases t14 : ((b.hs.length : Int) == 60)
   ·
    have H14 : Hid (b.hs.length ≠ 60):=hd_ (by have:=beq_eq_false_iff_ne.1 t14;omega)
    refine Sq.step rfl (by rfl) (fun K hK => ?_)
    go_simp
    refine (zxw b.t b.n b.w b.cs b.hs b.os _ _ _ _ _ _ e.Ch e.To _ (by omega) HW_w3.out.o.rd).mono ?_
    rintro e' w4 ⟨rfl,hb⟩
    have HW_w4:=hd_ (HW_w3.out.below hb)
    have HE_w4:=hd_ (zqe hb (gz_ HE_w3.out).1 HE_w3.out)
    clear hb
    clear a0 a1 a2 a3 a4 a5 a6 a7 af az E0 E1 E2 E3 E4 E5 E6
    obtain ⟨a0,a1,a2,a3,a4,a5,a6,a7,af,az⟩:=HW_w4.out.open_
    obtain ⟨E0,E1,E2,E3,E4,E5,E6,-,-⟩:=box7_ HE_w4.out
    go_simp
    refine hK.out _ _ ⟨a0,a1,a2,a3,a4,a5,a6,E0,E1,E2,E3,E4,E5,E6⟩ (fun hHeld => ?_)
    clear hK K
    refine tk_ ?_
    refine Sq.step rfl (by rfl) (fun K hK => ?_)
    go_simp
    refine (zqn _ _ B X b L A1 A2 A3 A4 p1 p2 p3 p4 6 HW_w4.out).mono ?_
    rintro e' wz ⟨rfl,rfl⟩
    go_simp
    refine hK.out _ _ ⟨a0,a1,a2,a3,a4,a5,a6,E0,E1,E2,E3,E4,E5,E6⟩ (fun hHeld => ?_)
    clear hK K
    refine tk_ ?_
    refine Sq.step rfl (by rfl) (fun K hK => ?_)
    go_simp
    refine (zqn _ _ B X b L A1 A2 A3 A4 p1 p2 p3 p4 14 HW_w4.out).mono ?_
    rintro e' wz ⟨rfl,rfl⟩
    go_simp
    refine hK.out _ _ ⟨a0,a1,a2,a3,a4,a5,a6,E0,E1,E2,E3,E4,E5,E6⟩ (fun hHeld => ?_)
    clear hK K
    refine tk_ ?_
    refine Sq.done (NoPanic.normal ?_)
    clear t9 t6 t14
    obtain ⟨i,hi⟩:=Int.eq_ofNat_of_zero_le Hmi.out
    have hlti:=zxv hi
    obtain ⟨c,hc⟩ : ∃ c,chanOf b.cs e.Ch = c:=⟨_,rfl⟩
    have hci : b.cs[i] = c:=by rw [← hc];unfold chanOf;rw [hi,Int.toNat_natCast,List.getD_eq_getElem?_getD,List.getElem?_eq_getElem hlti];rfl
    have hr : (b.cs.map Chan.cells)[i]? = some c.cells:=by rw [List.getElem?_map,List.getElem?_eq_getElem hlti,hci];rfl
    obtain ⟨x0,x1,x2,x3,x4,x5,x6⟩:=c
    have HCi:=hd_ hc
    have HRowI:=hd_ hr
    have HIXi:=hd_ hi
    clear hci hr hc hi
    have ix0 : (0 : Int) ≤ (i : Int):=by omega
    have ix1 : (i : Int) < (b.cs.length : Int):=by omega
    obtain ⟨j,hj⟩:=Int.eq_ofNat_of_zero_le Hmo.out
    have hltj:=zxv hj
    obtain ⟨c,hc⟩ : ∃ c,chanOf b.cs e.To = c:=⟨_,rfl⟩
    have hci : b.cs[j] = c:=by rw [← hc];unfold chanOf;rw [hj,Int.toNat_natCast,List.getD_eq_getElem?_getD,List.getElem?_eq_getElem hltj];rfl
    have hr : (b.cs.map Chan.cells)[j]? = some c.cells:=by rw [List.getElem?_map,List.getElem?_eq_getElem hltj,hci];rfl
    obtain ⟨y0,y1,y2,y3,y4,y5,y6⟩:=c
    have HCj:=hd_ hc
    have HRowJ:=hd_ hr
    have HIXj:=hd_ hj
    clear hci hr hc hj
    have jx0 : (0 : Int) ≤ (j : Int):=by omega
    have jx1 : (j : Int) < (b.cs.length : Int):=by omega
    obtain ⟨g,hA,hBg⟩:=HW_w4.out.o.c.headW (by rw [List.length_map];omega)
    subst hA
    go_wp2_with fail
    clear a0 a1 a2 a3 a4 a5 a6 a7 af az E0 E1 E2 E3 E4 E5 E6
    refine meet (α:=Nat) (F:=fun CI w5 => Hid (Wk 108 w w5 B X b L 0 (some ⟨g,0,none⟩) A2 A3 A4 p1 p2 p3 p4)∧Hid (Hx w5 E (evC e) 64)∧Hid (Hx w5 CI #[.int .i64 x0,.int .i64 x1,.int .i64 x2,.int .i64 x3,.int .i64 x4,.int .i64 x5,.int .i64 x6] 103)∧Hid (CI ≠ X)∧Hid (E ≠ CI)∧Hid (g ≠ CI)) (G:=?G2) (fun key => ?br2) ?rest2
    case br2 =>
     obtain ⟨a0,a1,a2,a3,a4,a5,a6,a7,af,az⟩:=HW_w4.out.open_
     obtain ⟨E0,E1,E2,E3,E4,E5,E6,-,-⟩:=box7_ HE_w4.out
     have z0 : w4.cell? ⟨g,i * 7,none⟩ = some (.int .i64 x0):=HW_w4.out.o.c.cellAt HRowI.out (j:=0) (by decide)
     have z1 : w4.cell? ⟨g,i * 7 + 1,none⟩ = some (.int .i64 x1):=HW_w4.out.o.c.cellAt HRowI.out (j:=1) (by decide)
     have z2 : w4.cell? ⟨g,i * 7 + 2,none⟩ = some (.int .i64 x2):=HW_w4.out.o.c.cellAt HRowI.out (j:=2) (by decide)
     have z3 : w4.cell? ⟨g,i * 7 + 3,none⟩ = some (.int .i64 x3):=HW_w4.out.o.c.cellAt HRowI.out (j:=3) (by decide)
     have z4 : w4.cell? ⟨g,i * 7 + 4,none⟩ = some (.int .i64 x4):=HW_w4.out.o.c.cellAt HRowI.out (j:=4) (by decide)
     have z5 : w4.cell? ⟨g,i * 7 + 5,none⟩ = some (.int .i64 x5):=HW_w4.out.o.c.cellAt HRowI.out (j:=5) (by decide)
     have z6 : w4.cell? ⟨g,i * 7 + 6,none⟩ = some (.int .i64 x6):=HW_w4.out.o.c.cellAt HRowI.out (j:=6) (by decide)
     refine zvr (fun w' => kqiiissss w' X b.t b.n b.w (some ⟨g,0,none⟩) b.cs.length p1 A2 b.hs.length p2 A3 b.os.length p3 A4 L.length p4 (kqE w' E e (kqiiiiiiio_ w' g (i * 7) x0 x1 x2 x3 x4 x5 x6))) [yF 0 46,yF 1 47,yF 2 48,yF 3 49,yF 4 50,yF 5 51,yF 6 52,yF 7 53,yF 8 54,yF 9 55,yF 10 56] [yT 11 57,yF 12 58,yF 13 59,yT 14 4,yN 15] [yT 14 4,yT 11 57,yF 12 58,yF 13 59,yN 15] (by kernel_rfl) (by kernel_rfl) (by kernel_rfl) ⟨a0,a1,a2,a3,a4,a5,a6,E0,E1,E2,E3,E4,E5,E6,z0,z1,z2,z3,z4,z5,z6⟩ (fun hHeld => ?_)
     obtain ⟨w5,hwd⟩ : ∃ wd,w4.drew = wd:=⟨_,rfl⟩
     have HW_w5 : Hid (Wk 108 w w5 B X b L 0 (some ⟨g,0,none⟩) A2 A3 A4 p1 p2 p3 p4):=hd_ (by rw [← hwd];exact HW_w4.out.drew)
     have HE_w5 : Hid (Hx w5 E (evC e) 64):=hd_ (by rw [← hwd];exact zqk HE_w4.out)
     clear a0 a1 a2 a3 a4 a5 a6 a7 af az z0 z1 z2 z3 z4 z5 z6 E0 E1 E2 E3 E4 E5 E6
     rw [hwd] at hHeld ⊢
     clear hwd
     obtain ⟨a0,a1,a2,a3,a4,a5,a6,a7,af,az⟩:=HW_w5.out.open_
     obtain ⟨E0,E1,E2,E3,E4,E5,E6,-,-⟩:=box7_ HE_w5.out
     have z0 : w5.cell? ⟨g,i * 7,none⟩ = some (.int .i64 x0):=HW_w5.out.o.c.cellAt HRowI.out (j:=0) (by decide)
     have z1 : w5.cell? ⟨g,i * 7 + 1,none⟩ = some (.int .i64 x1):=HW_w5.out.o.c.cellAt HRowI.out (j:=1) (by decide)
     have z2 : w5.cell? ⟨g,i * 7 + 2,none⟩ = some (.int .i64 x2):=HW_w5.out.o.c.cellAt HRowI.out (j:=2) (by decide)
     have z3 : w5.cell? ⟨g,i * 7 + 3,none⟩ = some (.int .i64 x3):=HW_w5.out.o.c.cellAt HRowI.out (j:=3) (by decide)
     have z4 : w5.cell? ⟨g,i * 7 + 4,none⟩ = some (.int .i64 x4):=HW_w5.out.o.c.cellAt HRowI.out (j:=4) (by decide)
     have z5 : w5.cell? ⟨g,i * 7 + 5,none⟩ = some (.int .i64 x5):=HW_w5.out.o.c.cellAt HRowI.out (j:=5) (by decide)
     have z6 : w5.cell? ⟨g,i * 7 + 6,none⟩ = some (.int .i64 x6):=HW_w5.out.o.c.cellAt HRowI.out (j:=6) (by decide)
     refine tk_ ?_
     refine Sq.done ⟨?_,?_⟩
     ·
      refine Sq.step rfl (by rfl) (fun K hK => ?_)
      go_simp
      refine (zjf b.t b.n b.w b.cs b.hs b.os _ _ _ _ _ _ e.Ch _ (by omega) HW_w5.out.o.rd).mono ?_
      rintro e' w6 ⟨rfl,hb⟩
      rw [HIXi.out]
      have HW_w6:=hd_ (HW_w5.out.below hb)
      have HE_w6:=hd_ (zqe hb (gz_ HE_w5.out).1 HE_w5.out)
      clear hb
      clear a0 a1 a2 a3 a4 a5 a6 a7 af az z0 z1 z2 z3 z4 z5 z6 E0 E1 E2 E3 E4 E5 E6
      obtain ⟨a0,a1,a2,a3,a4,a5,a6,a7,af,az⟩:=HW_w6.out.open_
      obtain ⟨E0,E1,E2,E3,E4,E5,E6,-,-⟩:=box7_ HE_w6.out
      have z0 : w6.cell? ⟨g,i * 7,none⟩ = some (.int .i64 x0):=HW_w6.out.o.c.cellAt HRowI.out (j:=0) (by decide)
      have z1 : w6.cell? ⟨g,i * 7 + 1,none⟩ = some (.int .i64 x1):=HW_w6.out.o.c.cellAt HRowI.out (j:=1) (by decide)
      have z2 : w6.cell? ⟨g,i * 7 + 2,none⟩ = some (.int .i64 x2):=HW_w6.out.o.c.cellAt HRowI.out (j:=2) (by decide)
      have z3 : w6.cell? ⟨g,i * 7 + 3,none⟩ = some (.int .i64 x3):=HW_w6.out.o.c.cellAt HRowI.out (j:=3) (by decide)
      have z4 : w6.cell? ⟨g,i * 7 + 4,none⟩ = some (.int .i64 x4):=HW_w6.out.o.c.cellAt HRowI.out (j:=4) (by decide)
      have z5 : w6.cell? ⟨g,i * 7 + 5,none⟩ = some (.int .i64 x5):=HW_w6.out.o.c.cellAt HRowI.out (j:=5) (by decide)
      have z6 : w6.cell? ⟨g,i * 7 + 6,none⟩ = some (.int .i64 x6):=HW_w6.out.o.c.cellAt HRowI.out (j:=6) (by decide)
      go_simp
      refine hK.out _ _ ⟨a0,a1,a2,a3,a4,a5,a6,E0,E1,E2,E3,E4,E5,E6,z0,z1,z2,z3,z4,z5,z6⟩ (fun hHeld => ?_)
      clear hK K
      refine tk_ ?_
      refine Sq.step rfl (by rfl) (fun K hK => ?_)
      go_simp
      refine zjc (fun w7 hw => ?_)
      obtain ⟨CI,hC⟩ : ∃ C,C = w6.heap.size:=⟨_,rfl⟩
      rw [← hC]
      have HW_w7 : Hid (Wk 108 w w7 B X b L 0 (some ⟨g,0,none⟩) A2 A3 A4 p1 p2 p3 p4):=hd_ (by rw [hw];exact HW_w6.out.alloc _)
      have HE_w7 : Hid (Hx w7 E (evC e) 64):=hd_ (by rw [hw];exact zqg (gz_ HE_w6.out).1 HE_w6.out)
      have HI_w7 : Hid (Hx w7 CI #[.int .i64 0,.int .i64 0,.int .i64 0,.int .i64 0,.int .i64 0,.int .i64 0,.int .i64 0] 103):=hd_ (by rw [hw,hC];exact zqm rfl)
      have HXI : Hid (CI ≠ X):=hd_ (by have:=HW_w6.out.lt;omega)
      have HNIE : Hid (E ≠ CI):=hd_ (by have:=(gz_ HE_w6.out).1;omega)
      have HGI : Hid (g ≠ CI):=hd_ (by have:=(HW_w6.out.o.c.block g (by simp [Value.ownBlock])).2;omega)
      have HBgeI : Hid (B ≤ CI):=hd_ (by rw [hC];exact HW_w6.out.ble)
      clear hw hC a0 a1 a2 a3 a4 a5 a6 a7 af az z0 z1 z2 z3 z4 z5 z6 E0 E1 E2 E3 E4 E5 E6
      obtain ⟨a0,a1,a2,a3,a4,a5,a6,a7,af,az⟩:=HW_w7.out.open_
      obtain ⟨E0,E1,E2,E3,E4,E5,E6,-,-⟩:=box7_ HE_w7.out
      obtain ⟨I0,I1,I2,I3,I4,I5,I6,-,-⟩:=box7_ HI_w7.out
      have z0 : w7.cell? ⟨g,i * 7,none⟩ = some (.int .i64 x0):=HW_w7.out.o.c.cellAt HRowI.out (j:=0) (by decide)
      have z1 : w7.cell? ⟨g,i * 7 + 1,none⟩ = some (.int .i64 x1):=HW_w7.out.o.c.cellAt HRowI.out (j:=1) (by decide)
      have z2 : w7.cell? ⟨g,i * 7 + 2,none⟩ = some (.int .i64 x2):=HW_w7.out.o.c.cellAt HRowI.out (j:=2) (by decide)
      have z3 : w7.cell? ⟨g,i * 7 + 3,none⟩ = some (.int .i64 x3):=HW_w7.out.o.c.cellAt HRowI.out (j:=3) (by decide)
      have z4 : w7.cell? ⟨g,i * 7 + 4,none⟩ = some (.int .i64 x4):=HW_w7.out.o.c.cellAt HRowI.out (j:=4) (by decide)
      have z5 : w7.cell? ⟨g,i * 7 + 5,none⟩ = some (.int .i64 x5):=HW_w7.out.o.c.cellAt HRowI.out (j:=5) (by decide)
      have z6 : w7.cell? ⟨g,i * 7 + 6,none⟩ = some (.int .i64 x6):=HW_w7.out.o.c.cellAt HRowI.out (j:=6) (by decide)
      go_simp
      refine hK.out _ _ ⟨a0,a1,a2,a3,a4,a5,a6,E0,E1,E2,E3,E4,E5,E6,z0,z1,z2,z3,z4,z5,z6⟩ (fun hHeld => ?_)
      clear hK K
      refine tk_ ?_
      have cf9:=zqo HI_w7.out
      refine Sq.step rfl (by rfl) (fun K hK => ?_)
      go_simp
      refine zjc (fun w8 hw => ?_)
      have hg9 : w7.grownBy w8 (some CI):=by rw [hw];exact zqh (zqh (zqh (zqh (zqh (zqh (zqh (World.grownBy.refl w7 (some CI)) _ _) _ _) _ _) _ _) _ _) _ _) _ _
      have HW_w8 : Hid (Wk 108 w w8 B X b L 0 (some ⟨g,0,none⟩) A2 A3 A4 p1 p2 p3 p4):=hd_ (HW_w7.out.ownBox HXI.out HGI.out HBgeI.out HI_w7.out hg9)
      have HE_w8 : Hid (Hx w8 E (evC e) 64):=hd_ (zqd hg9 (fun e9 => HNIE.out (Option.some.inj e9)) HE_w7.out)
      have HI_w8 : Hid (Hx w8 CI #[.int .i64 x0,.int .i64 x1,.int .i64 x2,.int .i64 x3,.int .i64 x4,.int .i64 x5,.int .i64 x6] 103):=hd_ (by rw [hw];exact zqa (zqa (zqa (zqa (zqa (zqa (zqa (HI_w7.out))))))))
      clear hw hg9 cf9 a0 a1 a2 a3 a4 a5 a6 a7 af az z0 z1 z2 z3 z4 z5 z6 E0 E1 E2 E3 E4 E5 E6 I0 I1 I2 I3 I4 I5 I6
      obtain ⟨a0,a1,a2,a3,a4,a5,a6,a7,af,az⟩:=HW_w8.out.open_
      obtain ⟨E0,E1,E2,E3,E4,E5,E6,-,-⟩:=box7_ HE_w8.out
      obtain ⟨I0,I1,I2,I3,I4,I5,I6,-,-⟩:=box7_ HI_w8.out
      have z0 : w8.cell? ⟨g,i * 7,none⟩ = some (.int .i64 x0):=HW_w8.out.o.c.cellAt HRowI.out (j:=0) (by decide)
      have z1 : w8.cell? ⟨g,i * 7 + 1,none⟩ = some (.int .i64 x1):=HW_w8.out.o.c.cellAt HRowI.out (j:=1) (by decide)
      have z2 : w8.cell? ⟨g,i * 7 + 2,none⟩ = some (.int .i64 x2):=HW_w8.out.o.c.cellAt HRowI.out (j:=2) (by decide)
      have z3 : w8.cell? ⟨g,i * 7 + 3,none⟩ = some (.int .i64 x3):=HW_w8.out.o.c.cellAt HRowI.out (j:=3) (by decide)
      have z4 : w8.cell? ⟨g,i * 7 + 4,none⟩ = some (.int .i64 x4):=HW_w8.out.o.c.cellAt HRowI.out (j:=4) (by decide)
      have z5 : w8.cell? ⟨g,i * 7 + 5,none⟩ = some (.int .i64 x5):=HW_w8.out.o.c.cellAt HRowI.out (j:=5) (by decide)
      have z6 : w8.cell? ⟨g,i * 7 + 6,none⟩ = some (.int .i64 x6):=HW_w8.out.o.c.cellAt HRowI.out (j:=6) (by decide)
      go_simp
      refine hK.out _ _ ⟨a0,a1,a2,a3,a4,a5,a6,E0,E1,E2,E3,E4,E5,E6,z0,z1,z2,z3,z4,z5,z6⟩ (fun hHeld => ?_)
      clear hK K
      refine tk_ ?_
      refine Sq.done (NoPanic.normal ?_)
      exact key CI w8 ⟨HW_w8,HE_w8,HI_w8,HXI,HNIE,HGI⟩
     ·
      refine Sq.step rfl (by rfl) (fun K hK => ?_)
      go_simp
      refine zjc (fun w6 hw => ?_)
      obtain ⟨CI,hC⟩ : ∃ C,C = w5.heap.size:=⟨_,rfl⟩
      rw [← hC]
      have HW_w6 : Hid (Wk 108 w w6 B X b L 0 (some ⟨g,0,none⟩) A2 A3 A4 p1 p2 p3 p4):=hd_ (by rw [hw];exact HW_w5.out.alloc _)
      have HE_w6 : Hid (Hx w6 E (evC e) 64):=hd_ (by rw [hw];exact zqg (gz_ HE_w5.out).1 HE_w5.out)
      have HI_w6 : Hid (Hx w6 CI #[.int .i64 0,.int .i64 0,.int .i64 0,.int .i64 0,.int .i64 0,.int .i64 0,.int .i64 0] 103):=hd_ (by rw [hw,hC];exact zqm rfl)
      have HXI : Hid (CI ≠ X):=hd_ (by have:=HW_w5.out.lt;omega)
      have HNIE : Hid (E ≠ CI):=hd_ (by have:=(gz_ HE_w5.out).1;omega)
      have HGI : Hid (g ≠ CI):=hd_ (by have:=(HW_w5.out.o.c.block g (by simp [Value.ownBlock])).2;omega)
      have HBgeI : Hid (B ≤ CI):=hd_ (by rw [hC];exact HW_w5.out.ble)
      clear hw hC a0 a1 a2 a3 a4 a5 a6 a7 af az z0 z1 z2 z3 z4 z5 z6 E0 E1 E2 E3 E4 E5 E6
      obtain ⟨a0,a1,a2,a3,a4,a5,a6,a7,af,az⟩:=HW_w6.out.open_
      obtain ⟨E0,E1,E2,E3,E4,E5,E6,-,-⟩:=box7_ HE_w6.out
      obtain ⟨I0,I1,I2,I3,I4,I5,I6,-,-⟩:=box7_ HI_w6.out
      have z0 : w6.cell? ⟨g,i * 7,none⟩ = some (.int .i64 x0):=HW_w6.out.o.c.cellAt HRowI.out (j:=0) (by decide)
      have z1 : w6.cell? ⟨g,i * 7 + 1,none⟩ = some (.int .i64 x1):=HW_w6.out.o.c.cellAt HRowI.out (j:=1) (by decide)
      have z2 : w6.cell? ⟨g,i * 7 + 2,none⟩ = some (.int .i64 x2):=HW_w6.out.o.c.cellAt HRowI.out (j:=2) (by decide)
      have z3 : w6.cell? ⟨g,i * 7 + 3,none⟩ = some (.int .i64 x3):=HW_w6.out.o.c.cellAt HRowI.out (j:=3) (by decide)
      have z4 : w6.cell? ⟨g,i * 7 + 4,none⟩ = some (.int .i64 x4):=HW_w6.out.o.c.cellAt HRowI.out (j:=4) (by decide)
      have z5 : w6.cell? ⟨g,i * 7 + 5,none⟩ = some (.int .i64 x5):=HW_w6.out.o.c.cellAt HRowI.out (j:=5) (by decide)
      have z6 : w6.cell? ⟨g,i * 7 + 6,none⟩ = some (.int .i64 x6):=HW_w6.out.o.c.cellAt HRowI.out (j:=6) (by decide)
      go_simp
      refine hK.out _ _ ⟨a0,a1,a2,a3,a4,a5,a6,E0,E1,E2,E3,E4,E5,E6,z0,z1,z2,z3,z4,z5,z6⟩ (fun hHeld => ?_)
      clear hK K
      refine tk_ ?_
      refine Sq.step rfl (by rfl) (fun K hK => ?_)
      go_simp
      refine (zjf b.t b.n b.w b.cs b.hs b.os _ _ _ _ _ _ e.Ch _ (by omega) HW_w6.out.o.rd).mono ?_
      rintro e' w7 ⟨rfl,hb⟩
      rw [HIXi.out]
      have HW_w7:=hd_ (HW_w6.out.below hb)
      have HE_w7:=hd_ (zqe hb (gz_ HE_w6.out).1 HE_w6.out)
      have HI_w7:=hd_ (zqe hb (gz_ HI_w6.out).1 HI_w6.out)
      clear hb
      clear a0 a1 a2 a3 a4 a5 a6 a7 af az z0 z1 z2 z3 z4 z5 z6 E0 E1 E2 E3 E4 E5 E6 I0 I1 I2 I3 I4 I5 I6
      obtain ⟨a0,a1,a2,a3,a4,a5,a6,a7,af,az⟩:=HW_w7.out.open_
      obtain ⟨E0,E1,E2,E3,E4,E5,E6,-,-⟩:=box7_ HE_w7.out
      obtain ⟨I0,I1,I2,I3,I4,I5,I6,-,-⟩:=box7_ HI_w7.out
      have z0 : w7.cell? ⟨g,i * 7,none⟩ = some (.int .i64 x0):=HW_w7.out.o.c.cellAt HRowI.out (j:=0) (by decide)
      have z1 : w7.cell? ⟨g,i * 7 + 1,none⟩ = some (.int .i64 x1):=HW_w7.out.o.c.cellAt HRowI.out (j:=1) (by decide)
      have z2 : w7.cell? ⟨g,i * 7 + 2,none⟩ = some (.int .i64 x2):=HW_w7.out.o.c.cellAt HRowI.out (j:=2) (by decide)
      have z3 : w7.cell? ⟨g,i * 7 + 3,none⟩ = some (.int .i64 x3):=HW_w7.out.o.c.cellAt HRowI.out (j:=3) (by decide)
      have z4 : w7.cell? ⟨g,i * 7 + 4,none⟩ = some (.int .i64 x4):=HW_w7.out.o.c.cellAt HRowI.out (j:=4) (by decide)
      have z5 : w7.cell? ⟨g,i * 7 + 5,none⟩ = some (.int .i64 x5):=HW_w7.out.o.c.cellAt HRowI.out (j:=5) (by decide)
      have z6 : w7.cell? ⟨g,i * 7 + 6,none⟩ = some (.int .i64 x6):=HW_w7.out.o.c.cellAt HRowI.out (j:=6) (by decide)
      go_simp
      refine hK.out _ _ ⟨a0,a1,a2,a3,a4,a5,a6,E0,E1,E2,E3,E4,E5,E6,z0,z1,z2,z3,z4,z5,z6⟩ (fun hHeld => ?_)
      clear hK K
      refine tk_ ?_
      have cf9:=zqo HI_w7.out
      refine Sq.step rfl (by rfl) (fun K hK => ?_)
      go_simp
      refine zjc (fun w8 hw => ?_)
      have hg9 : w7.grownBy w8 (some CI):=by rw [hw];exact zqh (zqh (zqh (zqh (zqh (zqh (zqh (World.grownBy.refl w7 (some CI)) _ _) _ _) _ _) _ _) _ _) _ _) _ _
      have HW_w8 : Hid (Wk 108 w w8 B X b L 0 (some ⟨g,0,none⟩) A2 A3 A4 p1 p2 p3 p4):=hd_ (HW_w7.out.ownBox HXI.out HGI.out HBgeI.out HI_w7.out hg9)
      have HE_w8 : Hid (Hx w8 E (evC e) 64):=hd_ (zqd hg9 (fun e9 => HNIE.out (Option.some.inj e9)) HE_w7.out)
      have HI_w8 : Hid (Hx w8 CI #[.int .i64 x0,.int .i64 x1,.int .i64 x2,.int .i64 x3,.int .i64 x4,.int .i64 x5,.int .i64 x6] 103):=hd_ (by rw [hw];exact zqa (zqa (zqa (zqa (zqa (zqa (zqa (HI_w7.out))))))))
      clear hw hg9 cf9 a0 a1 a2 a3 a4 a5 a6 a7 af az z0 z1 z2 z3 z4 z5 z6 E0 E1 E2 E3 E4 E5 E6 I0 I1 I2 I3 I4 I5 I6
      obtain ⟨a0,a1,a2,a3,a4,a5,a6,a7,af,az⟩:=HW_w8.out.open_
      obtain ⟨E0,E1,E2,E3,E4,E5,E6,-,-⟩:=box7_ HE_w8.out
      obtain ⟨I0,I1,I2,I3,I4,I5,I6,-,-⟩:=box7_ HI_w8.out
      have z0 : w8.cell? ⟨g,i * 7,none⟩ = some (.int .i64 x0):=HW_w8.out.o.c.cellAt HRowI.out (j:=0) (by decide)
      have z1 : w8.cell? ⟨g,i * 7 + 1,none⟩ = some (.int .i64 x1):=HW_w8.out.o.c.cellAt HRowI.out (j:=1) (by decide)
      have z2 : w8.cell? ⟨g,i * 7 + 2,none⟩ = some (.int .i64 x2):=HW_w8.out.o.c.cellAt HRowI.out (j:=2) (by decide)
      have z3 : w8.cell? ⟨g,i * 7 + 3,none⟩ = some (.int .i64 x3):=HW_w8.out.o.c.cellAt HRowI.out (j:=3) (by decide)
      have z4 : w8.cell? ⟨g,i * 7 + 4,none⟩ = some (.int .i64 x4):=HW_w8.out.o.c.cellAt HRowI.out (j:=4) (by decide)
      have z5 : w8.cell? ⟨g,i * 7 + 5,none⟩ = some (.int .i64 x5):=HW_w8.out.o.c.cellAt HRowI.out (j:=5) (by decide)
      have z6 : w8.cell? ⟨g,i * 7 + 6,none⟩ = some (.int .i64 x6):=HW_w8.out.o.c.cellAt HRowI.out (j:=6) (by decide)
      go_simp
      refine hK.out _ _ ⟨a0,a1,a2,a3,a4,a5,a6,E0,E1,E2,E3,E4,E5,E6,z0,z1,z2,z3,z4,z5,z6⟩ (fun hHeld => ?_)
      clear hK K
      refine tk_ ?_
      refine Sq.done (NoPanic.normal ?_)
      exact key CI w8 ⟨HW_w8,HE_w8,HI_w8,HXI,HNIE,HGI⟩
    case rest2 =>
     intro CI v2 hF
     obtain ⟨HW_v2,HE_v2,HI_v2,HXI,HNIE,HGI⟩:=hF
     obtain ⟨a0,a1,a2,a3,a4,a5,a6,a7,af,az⟩:=HW_v2.out.open_
     obtain ⟨E0,E1,E2,E3,E4,E5,E6,-,-⟩:=box7_ HE_v2.out
     obtain ⟨I0,I1,I2,I3,I4,I5,I6,-,-⟩:=box7_ HI_v2.out
     go_wp2_with fail
     clear a0 a1 a2 a3 a4 a5 a6 a7 af az E0 E1 E2 E3 E4 E5 E6 I0 I1 I2 I3 I4 I5 I6
     refine meet (α:=Nat) (F:=fun CJ w5 => Hid (Wk 108 w w5 B X b L 0 (some ⟨g,0,none⟩) A2 A3 A4 p1 p2 p3 p4)∧Hid (Hx w5 E (evC e) 64)∧Hid (Hx w5 CI #[.int .i64 x0,.int .i64 x1,.int .i64 x2,.int .i64 x3,.int .i64 x4,.int .i64 x5,.int .i64 x6] 103)∧Hid (Hx w5 CJ #[.int .i64 y0,.int .i64 y1,.int .i64 y2,.int .i64 y3,.int .i64 y4,.int .i64 y5,.int .i64 y6] 103)∧Hid (CJ ≠ X)∧Hid (E ≠ CJ)∧Hid (CI ≠ CJ)∧Hid (g ≠ CJ)) (G:=?G3) (fun key => ?br3) ?rest3
     case br3 =>
      obtain ⟨a0,a1,a2,a3,a4,a5,a6,a7,af,az⟩:=HW_v2.out.open_
      obtain ⟨E0,E1,E2,E3,E4,E5,E6,-,-⟩:=box7_ HE_v2.out
      obtain ⟨I0,I1,I2,I3,I4,I5,I6,-,-⟩:=box7_ HI_v2.out
      have z0 : v2.cell? ⟨g,j * 7,none⟩ = some (.int .i64 y0):=HW_v2.out.o.c.cellAt HRowJ.out (j:=0) (by decide)
      have z1 : v2.cell? ⟨g,j * 7 + 1,none⟩ = some (.int .i64 y1):=HW_v2.out.o.c.cellAt HRowJ.out (j:=1) (by decide)
      have z2 : v2.cell? ⟨g,j * 7 + 2,none⟩ = some (.int .i64 y2):=HW_v2.out.o.c.cellAt HRowJ.out (j:=2) (by decide)
      have z3 : v2.cell? ⟨g,j * 7 + 3,none⟩ = some (.int .i64 y3):=HW_v2.out.o.c.cellAt HRowJ.out (j:=3) (by decide)
      have z4 : v2.cell? ⟨g,j * 7 + 4,none⟩ = some (.int .i64 y4):=HW_v2.out.o.c.cellAt HRowJ.out (j:=4) (by decide)
      have z5 : v2.cell? ⟨g,j * 7 + 5,none⟩ = some (.int .i64 y5):=HW_v2.out.o.c.cellAt HRowJ.out (j:=5) (by decide)
      have z6 : v2.cell? ⟨g,j * 7 + 6,none⟩ = some (.int .i64 y6):=HW_v2.out.o.c.cellAt HRowJ.out (j:=6) (by decide)
      refine zvr (fun w' => kqiiissss w' X b.t b.n b.w (some ⟨g,0,none⟩) b.cs.length p1 A2 b.hs.length p2 A3 b.os.length p3 A4 L.length p4 (kqE w' E e (kqiiiiiii w' CI x0 x1 x2 x3 x4 x5 x6 (kqiiiiiiio_ w' g (j * 7) y0 y1 y2 y3 y4 y5 y6)))) [yF 0 60,yF 1 61,yF 2 62,yF 3 63,yF 4 64,yF 5 65,yF 6 66,yF 7 67,yF 8 68,yF 9 69,yF 10 70] [yT 11 71,yF 12 72,yF 13 73,yT 14 5,yN 15] [yT 14 5,yT 11 71,yF 12 72,yF 13 73,yN 15] (by kernel_rfl) (by kernel_rfl) (by kernel_rfl) ⟨a0,a1,a2,a3,a4,a5,a6,E0,E1,E2,E3,E4,E5,E6,I0,I1,I2,I3,I4,I5,I6,z0,z1,z2,z3,z4,z5,z6⟩ (fun hHeld => ?_)
      obtain ⟨w5,hwd⟩ : ∃ wd,v2.drew = wd:=⟨_,rfl⟩
      have HW_w5 : Hid (Wk 108 w w5 B X b L 0 (some ⟨g,0,none⟩) A2 A3 A4 p1 p2 p3 p4):=hd_ (by rw [← hwd];exact HW_v2.out.drew)
      have HE_w5 : Hid (Hx w5 E (evC e) 64):=hd_ (by rw [← hwd];exact zqk HE_v2.out)
      have HI_w5 : Hid (Hx w5 CI #[.int .i64 x0,.int .i64 x1,.int .i64 x2,.int .i64 x3,.int .i64 x4,.int .i64 x5,.int .i64 x6] 103):=hd_ (by rw [← hwd];exact zqk HI_v2.out)
      clear a0 a1 a2 a3 a4 a5 a6 a7 af az z0 z1 z2 z3 z4 z5 z6 E0 E1 E2 E3 E4 E5 E6 I0 I1 I2 I3 I4 I5 I6
      rw [hwd] at hHeld ⊢
      clear hwd
      obtain ⟨a0,a1,a2,a3,a4,a5,a6,a7,af,az⟩:=HW_w5.out.open_
      obtain ⟨E0,E1,E2,E3,E4,E5,E6,-,-⟩:=box7_ HE_w5.out
      obtain ⟨I0,I1,I2,I3,I4,I5,I6,-,-⟩:=box7_ HI_w5.out
      have z0 : w5.cell? ⟨g,j * 7,none⟩ = some (.int .i64 y0):=HW_w5.out.o.c.cellAt HRowJ.out (j:=0) (by decide)
      have z1 : w5.cell? ⟨g,j * 7 + 1,none⟩ = some (.int .i64 y1):=HW_w5.out.o.c.cellAt HRowJ.out (j:=1) (by decide)
      have z2 : w5.cell? ⟨g,j * 7 + 2,none⟩ = some (.int .i64 y2):=HW_w5.out.o.c.cellAt HRowJ.out (j:=2) (by decide)
      have z3 : w5.cell? ⟨g,j * 7 + 3,none⟩ = some (.int .i64 y3):=HW_w5.out.o.c.cellAt HRowJ.out (j:=3) (by decide)
      have z4 : w5.cell? ⟨g,j * 7 + 4,none⟩ = some (.int .i64 y4):=HW_w5.out.o.c.cellAt HRowJ.out (j:=4) (by decide)
      have z5 : w5.cell? ⟨g,j * 7 + 5,none⟩ = some (.int .i64 y5):=HW_w5.out.o.c.cellAt HRowJ.out (j:=5) (by decide)
      have z6 : w5.cell? ⟨g,j * 7 + 6,none⟩ = some (.int .i64 y6):=HW_w5.out.o.c.cellAt HRowJ.out (j:=6) (by decide)
      refine tk_ ?_
      refine Sq.done ⟨?_,?_⟩
      ·
       refine Sq.step rfl (by rfl) (fun K hK => ?_)
       go_simp
       refine (zjf b.t b.n b.w b.cs b.hs b.os _ _ _ _ _ _ e.To _ (by omega) HW_w5.out.o.rd).mono ?_
       rintro e' w6 ⟨rfl,hb⟩
       rw [HIXj.out]
       have HW_w6:=hd_ (HW_w5.out.below hb)
       have HE_w6:=hd_ (zqe hb (gz_ HE_w5.out).1 HE_w5.out)
       have HI_w6:=hd_ (zqe hb (gz_ HI_w5.out).1 HI_w5.out)
       clear hb
       clear a0 a1 a2 a3 a4 a5 a6 a7 af az z0 z1 z2 z3 z4 z5 z6 E0 E1 E2 E3 E4 E5 E6 I0 I1 I2 I3 I4 I5 I6
       obtain ⟨a0,a1,a2,a3,a4,a5,a6,a7,af,az⟩:=HW_w6.out.open_
       obtain ⟨E0,E1,E2,E3,E4,E5,E6,-,-⟩:=box7_ HE_w6.out
       obtain ⟨I0,I1,I2,I3,I4,I5,I6,-,-⟩:=box7_ HI_w6.out
       have z0 : w6.cell? ⟨g,j * 7,none⟩ = some (.int .i64 y0):=HW_w6.out.o.c.cellAt HRowJ.out (j:=0) (by decide)
       have z1 : w6.cell? ⟨g,j * 7 + 1,none⟩ = some (.int .i64 y1):=HW_w6.out.o.c.cellAt HRowJ.out (j:=1) (by decide)
       have z2 : w6.cell? ⟨g,j * 7 + 2,none⟩ = some (.int .i64 y2):=HW_w6.out.o.c.cellAt HRowJ.out (j:=2) (by decide)
       have z3 : w6.cell? ⟨g,j * 7 + 3,none⟩ = some (.int .i64 y3):=HW_w6.out.o.c.cellAt HRowJ.out (j:=3) (by decide)
       have z4 : w6.cell? ⟨g,j * 7 + 4,none⟩ = some (.int .i64 y4):=HW_w6.out.o.c.cellAt HRowJ.out (j:=4) (by decide)
       have z5 : w6.cell? ⟨g,j * 7 + 5,none⟩ = some (.int .i64 y5):=HW_w6.out.o.c.cellAt HRowJ.out (j:=5) (by decide)
       have z6 : w6.cell? ⟨g,j * 7 + 6,none⟩ = some (.int .i64 y6):=HW_w6.out.o.c.cellAt HRowJ.out (j:=6) (by decide)
       go_simp
       refine hK.out _ _ ⟨a0,a1,a2,a3,a4,a5,a6,E0,E1,E2,E3,E4,E5,E6,I0,I1,I2,I3,I4,I5,I6,z0,z1,z2,z3,z4,z5,z6⟩ (fun hHeld => ?_)
       clear hK K
       refine tk_ ?_
       refine Sq.step rfl (by rfl) (fun K hK => ?_)
       go_simp
       refine zjc (fun w7 hw => ?_)
       obtain ⟨CJ,hC⟩ : ∃ C,C = w6.heap.size:=⟨_,rfl⟩
       rw [← hC]
       have HW_w7 : Hid (Wk 108 w w7 B X b L 0 (some ⟨g,0,none⟩) A2 A3 A4 p1 p2 p3 p4):=hd_ (by rw [hw];exact HW_w6.out.alloc _)
       have HE_w7 : Hid (Hx w7 E (evC e) 64):=hd_ (by rw [hw];exact zqg (gz_ HE_w6.out).1 HE_w6.out)
       have HI_w7 : Hid (Hx w7 CI #[.int .i64 x0,.int .i64 x1,.int .i64 x2,.int .i64 x3,.int .i64 x4,.int .i64 x5,.int .i64 x6] 103):=hd_ (by rw [hw];exact zqg (gz_ HI_w6.out).1 HI_w6.out)
       have HJ_w7 : Hid (Hx w7 CJ #[.int .i64 0,.int .i64 0,.int .i64 0,.int .i64 0,.int .i64 0,.int .i64 0,.int .i64 0] 103):=hd_ (by rw [hw,hC];exact zqm rfl)
       have HXJ : Hid (CJ ≠ X):=hd_ (by have:=HW_w6.out.lt;omega)
       have HNJE : Hid (E ≠ CJ):=hd_ (by have:=(gz_ HE_w6.out).1;omega)
       have HNJI : Hid (CI ≠ CJ):=hd_ (by have:=(gz_ HI_w6.out).1;omega)
       have HGJ : Hid (g ≠ CJ):=hd_ (by have:=(HW_w6.out.o.c.block g (by simp [Value.ownBlock])).2;omega)
       have HBgeJ : Hid (B ≤ CJ):=hd_ (by rw [hC];exact HW_w6.out.ble)
       clear hw hC a0 a1 a2 a3 a4 a5 a6 a7 af az z0 z1 z2 z3 z4 z5 z6 E0 E1 E2 E3 E4 E5 E6 I0 I1 I2 I3 I4 I5 I6
       obtain ⟨a0,a1,a2,a3,a4,a5,a6,a7,af,az⟩:=HW_w7.out.open_
       obtain ⟨E0,E1,E2,E3,E4,E5,E6,-,-⟩:=box7_ HE_w7.out
       obtain ⟨I0,I1,I2,I3,I4,I5,I6,-,-⟩:=box7_ HI_w7.out
       obtain ⟨J0,J1,J2,J3,J4,J5,J6,-,-⟩:=box7_ HJ_w7.out
       have z0 : w7.cell? ⟨g,j * 7,none⟩ = some (.int .i64 y0):=HW_w7.out.o.c.cellAt HRowJ.out (j:=0) (by decide)
       have z1 : w7.cell? ⟨g,j * 7 + 1,none⟩ = some (.int .i64 y1):=HW_w7.out.o.c.cellAt HRowJ.out (j:=1) (by decide)
       have z2 : w7.cell? ⟨g,j * 7 + 2,none⟩ = some (.int .i64 y2):=HW_w7.out.o.c.cellAt HRowJ.out (j:=2) (by decide)
       have z3 : w7.cell? ⟨g,j * 7 + 3,none⟩ = some (.int .i64 y3):=HW_w7.out.o.c.cellAt HRowJ.out (j:=3) (by decide)
       have z4 : w7.cell? ⟨g,j * 7 + 4,none⟩ = some (.int .i64 y4):=HW_w7.out.o.c.cellAt HRowJ.out (j:=4) (by decide)
       have z5 : w7.cell? ⟨g,j * 7 + 5,none⟩ = some (.int .i64 y5):=HW_w7.out.o.c.cellAt HRowJ.out (j:=5) (by decide)
       have z6 : w7.cell? ⟨g,j * 7 + 6,none⟩ = some (.int .i64 y6):=HW_w7.out.o.c.cellAt HRowJ.out (j:=6) (by decide)
       go_simp
       refine hK.out _ _ ⟨a0,a1,a2,a3,a4,a5,a6,E0,E1,E2,E3,E4,E5,E6,I0,I1,I2,I3,I4,I5,I6,z0,z1,z2,z3,z4,z5,z6⟩ (fun hHeld => ?_)
       clear hK K
       refine tk_ ?_
       have cf9:=zqo HJ_w7.out
       refine Sq.step rfl (by rfl) (fun K hK => ?_)
       go_simp
       refine zjc (fun w8 hw => ?_)
       have hg9 : w7.grownBy w8 (some CJ):=by rw [hw];exact zqh (zqh (zqh (zqh (zqh (zqh (zqh (World.grownBy.refl w7 (some CJ)) _ _) _ _) _ _) _ _) _ _) _ _) _ _
       have HW_w8 : Hid (Wk 108 w w8 B X b L 0 (some ⟨g,0,none⟩) A2 A3 A4 p1 p2 p3 p4):=hd_ (HW_w7.out.ownBox HXJ.out HGJ.out HBgeJ.out HJ_w7.out hg9)
       have HE_w8 : Hid (Hx w8 E (evC e) 64):=hd_ (zqd hg9 (fun e9 => HNJE.out (Option.some.inj e9)) HE_w7.out)
       have HI_w8 : Hid (Hx w8 CI #[.int .i64 x0,.int .i64 x1,.int .i64 x2,.int .i64 x3,.int .i64 x4,.int .i64 x5,.int .i64 x6] 103):=hd_ (zqd hg9 (fun e9 => HNJI.out (Option.some.inj e9)) HI_w7.out)
       have HJ_w8 : Hid (Hx w8 CJ #[.int .i64 y0,.int .i64 y1,.int .i64 y2,.int .i64 y3,.int .i64 y4,.int .i64 y5,.int .i64 y6] 103):=hd_ (by rw [hw];exact zqa (zqa (zqa (zqa (zqa (zqa (zqa (HJ_w7.out))))))))
       clear hw hg9 cf9 a0 a1 a2 a3 a4 a5 a6 a7 af az z0 z1 z2 z3 z4 z5 z6 E0 E1 E2 E3 E4 E5 E6 I0 I1 I2 I3 I4 I5 I6 J0 J1 J2 J3 J4 J5 J6
       obtain ⟨a0,a1,a2,a3,a4,a5,a6,a7,af,az⟩:=HW_w8.out.open_
       obtain ⟨E0,E1,E2,E3,E4,E5,E6,-,-⟩:=box7_ HE_w8.out
       obtain ⟨I0,I1,I2,I3,I4,I5,I6,-,-⟩:=box7_ HI_w8.out
       obtain ⟨J0,J1,J2,J3,J4,J5,J6,-,-⟩:=box7_ HJ_w8.out
       have z0 : w8.cell? ⟨g,j * 7,none⟩ = some (.int .i64 y0):=HW_w8.out.o.c.cellAt HRowJ.out (j:=0) (by decide)
       have z1 : w8.cell? ⟨g,j * 7 + 1,none⟩ = some (.int .i64 y1):=HW_w8.out.o.c.cellAt HRowJ.out (j:=1) (by decide)
       have z2 : w8.cell? ⟨g,j * 7 + 2,none⟩ = some (.int .i64 y2):=HW_w8.out.o.c.cellAt HRowJ.out (j:=2) (by decide)
       have z3 : w8.cell? ⟨g,j * 7 + 3,none⟩ = some (.int .i64 y3):=HW_w8.out.o.c.cellAt HRowJ.out (j:=3) (by decide)
       have z4 : w8.cell? ⟨g,j * 7 + 4,none⟩ = some (.int .i64 y4):=HW_w8.out.o.c.cellAt HRowJ.out (j:=4) (by decide)
       have z5 : w8.cell? ⟨g,j * 7 + 5,none⟩ = some (.int .i64 y5):=HW_w8.out.o.c.cellAt HRowJ.out (j:=5) (by decide)
       have z6 : w8.cell? ⟨g,j * 7 + 6,none⟩ = some (.int .i64 y6):=HW_w8.out.o.c.cellAt HRowJ.out (j:=6) (by decide)
       go_simp
       refine hK.out _ _ ⟨a0,a1,a2,a3,a4,a5,a6,E0,E1,E2,E3,E4,E5,E6,I0,I1,I2,I3,I4,I5,I6,z0,z1,z2,z3,z4,z5,z6⟩ (fun hHeld => ?_)
       clear hK K
       refine tk_ ?_
       refine Sq.done (NoPanic.normal ?_)
       exact key CJ w8 ⟨HW_w8,HE_w8,HI_w8,HJ_w8,HXJ,HNJE,HNJI,HGJ⟩
      ·
       refine Sq.step rfl (by rfl) (fun K hK => ?_)
       go_simp
       refine zjc (fun w6 hw => ?_)
       obtain ⟨CJ,hC⟩ : ∃ C,C = w5.heap.size:=⟨_,rfl⟩
       rw [← hC]
       have HW_w6 : Hid (Wk 108 w w6 B X b L 0 (some ⟨g,0,none⟩) A2 A3 A4 p1 p2 p3 p4):=hd_ (by rw [hw];exact HW_w5.out.alloc _)
       have HE_w6 : Hid (Hx w6 E (evC e) 64):=hd_ (by rw [hw];exact zqg (gz_ HE_w5.out).1 HE_w5.out)
       have HI_w6 : Hid (Hx w6 CI #[.int .i64 x0,.int .i64 x1,.int .i64 x2,.int .i64 x3,.int .i64 x4,.int .i64 x5,.int .i64 x6] 103):=hd_ (by rw [hw];exact zqg (gz_ HI_w5.out).1 HI_w5.out)
       have HJ_w6 : Hid (Hx w6 CJ #[.int .i64 0,.int .i64 0,.int .i64 0,.int .i64 0,.int .i64 0,.int .i64 0,.int .i64 0] 103):=hd_ (by rw [hw,hC];exact zqm rfl)
       have HXJ : Hid (CJ ≠ X):=hd_ (by have:=HW_w5.out.lt;omega)
       have HNJE : Hid (E ≠ CJ):=hd_ (by have:=(gz_ HE_w5.out).1;omega)
       have HNJI : Hid (CI ≠ CJ):=hd_ (by have:=(gz_ HI_w5.out).1;omega)
       have HGJ : Hid (g ≠ CJ):=hd_ (by have:=(HW_w5.out.o.c.block g (by simp [Value.ownBlock])).2;omega)
       have HBgeJ : Hid (B ≤ CJ):=hd_ (by rw [hC];exact HW_w5.out.ble)
       clear hw hC a0 a1 a2 a3 a4 a5 a6 a7 af az z0 z1 z2 z3 z4 z5 z6 E0 E1 E2 E3 E4 E5 E6 I0 I1 I2 I3 I4 I5 I6
       obtain ⟨a0,a1,a2,a3,a4,a5,a6,a7,af,az⟩:=HW_w6.out.open_
       obtain ⟨E0,E1,E2,E3,E4,E5,E6,-,-⟩:=box7_ HE_w6.out
       obtain ⟨I0,I1,I2,I3,I4,I5,I6,-,-⟩:=box7_ HI_w6.out
       obtain ⟨J0,J1,J2,J3,J4,J5,J6,-,-⟩:=box7_ HJ_w6.out
       have z0 : w6.cell? ⟨g,j * 7,none⟩ = some (.int .i64 y0):=HW_w6.out.o.c.cellAt HRowJ.out (j:=0) (by decide)
       have z1 : w6.cell? ⟨g,j * 7 + 1,none⟩ = some (.int .i64 y1):=HW_w6.out.o.c.cellAt HRowJ.out (j:=1) (by decide)
       have z2 : w6.cell? ⟨g,j * 7 + 2,none⟩ = some (.int .i64 y2):=HW_w6.out.o.c.cellAt HRowJ.out (j:=2) (by decide)
       have z3 : w6.cell? ⟨g,j * 7 + 3,none⟩ = some (.int .i64 y3):=HW_w6.out.o.c.cellAt HRowJ.out (j:=3) (by decide)
       have z4 : w6.cell? ⟨g,j * 7 + 4,none⟩ = some (.int .i64 y4):=HW_w6.out.o.c.cellAt HRowJ.out (j:=4) (by decide)
       have z5 : w6.cell? ⟨g,j * 7 + 5,none⟩ = some (.int .i64 y5):=HW_w6.out.o.c.cellAt HRowJ.out (j:=5) (by decide)
       have z6 : w6.cell? ⟨g,j * 7 + 6,none⟩ = some (.int .i64 y6):=HW_w6.out.o.c.cellAt HRowJ.out (j:=6) (by decide)
       go_simp
       refine hK.out _ _ ⟨a0,a1,a2,a3,a4,a5,a6,E0,E1,E2,E3,E4,E5,E6,I0,I1,I2,I3,I4,I5,I6,z0,z1,z2,z3,z4,z5,z6⟩ (fun hHeld => ?_)
       clear hK K
       refine tk_ ?_
       refine Sq.step rfl (by rfl) (fun K hK => ?_)
       go_simp
       refine (zjf b.t b.n b.w b.cs b.hs b.os _ _ _ _ _ _ e.To _ (by omega) HW_w6.out.o.rd).mono ?_
       rintro e' w7 ⟨rfl,hb⟩
       rw [HIXj.out]
       have HW_w7:=hd_ (HW_w6.out.below hb)
       have HE_w7:=hd_ (zqe hb (gz_ HE_w6.out).1 HE_w6.out)
       have HI_w7:=hd_ (zqe hb (gz_ HI_w6.out).1 HI_w6.out)
       have HJ_w7:=hd_ (zqe hb (gz_ HJ_w6.out).1 HJ_w6.out)
       clear hb
       clear a0 a1 a2 a3 a4 a5 a6 a7 af az z0 z1 z2 z3 z4 z5 z6 E0 E1 E2 E3 E4 E5 E6 I0 I1 I2 I3 I4 I5 I6 J0 J1 J2 J3 J4 J5 J6
       obtain ⟨a0,a1,a2,a3,a4,a5,a6,a7,af,az⟩:=HW_w7.out.open_
       obtain ⟨E0,E1,E2,E3,E4,E5,E6,-,-⟩:=box7_ HE_w7.out
       obtain ⟨I0,I1,I2,I3,I4,I5,I6,-,-⟩:=box7_ HI_w7.out
       obtain ⟨J0,J1,J2,J3,J4,J5,J6,-,-⟩:=box7_ HJ_w7.out
       have z0 : w7.cell? ⟨g,j * 7,none⟩ = some (.int .i64 y0):=HW_w7.out.o.c.cellAt HRowJ.out (j:=0) (by decide)
       have z1 : w7.cell? ⟨g,j * 7 + 1,none⟩ = some (.int .i64 y1):=HW_w7.out.o.c.cellAt HRowJ.out (j:=1) (by decide)
       have z2 : w7.cell? ⟨g,j * 7 + 2,none⟩ = some (.int .i64 y2):=HW_w7.out.o.c.cellAt HRowJ.out (j:=2) (by decide)
       have z3 : w7.cell? ⟨g,j * 7 + 3,none⟩ = some (.int .i64 y3):=HW_w7.out.o.c.cellAt HRowJ.out (j:=3) (by decide)
       have z4 : w7.cell? ⟨g,j * 7 + 4,none⟩ = some (.int .i64 y4):=HW_w7.out.o.c.cellAt HRowJ.out (j:=4) (by decide)
       have z5 : w7.cell? ⟨g,j * 7 + 5,none⟩ = some (.int .i64 y5):=HW_w7.out.o.c.cellAt HRowJ.out (j:=5) (by decide)
       have z6 : w7.cell? ⟨g,j * 7 + 6,none⟩ = some (.int .i64 y6):=HW_w7.out.o.c.cellAt HRowJ.out (j:=6) (by decide)
       go_simp
       refine hK.out _ _ ⟨a0,a1,a2,a3,a4,a5,a6,E0,E1,E2,E3,E4,E5,E6,I0,I1,I2,I3,I4,I5,I6,z0,z1,z2,z3,z4,z5,z6⟩ (fun hHeld => ?_)
       clear hK K
       refine tk_ ?_
       have cf9:=zqo HJ_w7.out
       refine Sq.step rfl (by rfl) (fun K hK => ?_)
       go_simp
       refine zjc (fun w8 hw => ?_)
       have hg9 : w7.grownBy w8 (some CJ):=by rw [hw];exact zqh (zqh (zqh (zqh (zqh (zqh (zqh (World.grownBy.refl w7 (some CJ)) _ _) _ _) _ _) _ _) _ _) _ _) _ _
       have HW_w8 : Hid (Wk 108 w w8 B X b L 0 (some ⟨g,0,none⟩) A2 A3 A4 p1 p2 p3 p4):=hd_ (HW_w7.out.ownBox HXJ.out HGJ.out HBgeJ.out HJ_w7.out hg9)
       have HE_w8 : Hid (Hx w8 E (evC e) 64):=hd_ (zqd hg9 (fun e9 => HNJE.out (Option.some.inj e9)) HE_w7.out)
       have HI_w8 : Hid (Hx w8 CI #[.int .i64 x0,.int .i64 x1,.int .i64 x2,.int .i64 x3,.int .i64 x4,.int .i64 x5,.int .i64 x6] 103):=hd_ (zqd hg9 (fun e9 => HNJI.out (Option.some.inj e9)) HI_w7.out)
       have HJ_w8 : Hid (Hx w8 CJ #[.int .i64 y0,.int .i64 y1,.int .i64 y2,.int .i64 y3,.int .i64 y4,.int .i64 y5,.int .i64 y6] 103):=hd_ (by rw [hw];exact zqa (zqa (zqa (zqa (zqa (zqa (zqa (HJ_w7.out))))))))
       clear hw hg9 cf9 a0 a1 a2 a3 a4 a5 a6 a7 af az z0 z1 z2 z3 z4 z5 z6 E0 E1 E2 E3 E4 E5 E6 I0 I1 I2 I3 I4 I5 I6 J0 J1 J2 J3 J4 J5 J6
       obtain ⟨a0,a1,a2,a3,a4,a5,a6,a7,af,az⟩:=HW_w8.out.open_
       obtain ⟨E0,E1,E2,E3,E4,E5,E6,-,-⟩:=box7_ HE_w8.out
       obtain ⟨I0,I1,I2,I3,I4,I5,I6,-,-⟩:=box7_ HI_w8.out
       obtain ⟨J0,J1,J2,J3,J4,J5,J6,-,-⟩:=box7_ HJ_w8.out
       have z0 : w8.cell? ⟨g,j * 7,none⟩ = some (.int .i64 y0):=HW_w8.out.o.c.cellAt HRowJ.out (j:=0) (by decide)
       have z1 : w8.cell? ⟨g,j * 7 + 1,none⟩ = some (.int .i64 y1):=HW_w8.out.o.c.cellAt HRowJ.out (j:=1) (by decide)
       have z2 : w8.cell? ⟨g,j * 7 + 2,none⟩ = some (.int .i64 y2):=HW_w8.out.o.c.cellAt HRowJ.out (j:=2) (by decide)
       have z3 : w8.cell? ⟨g,j * 7 + 3,none⟩ = some (.int .i64 y3):=HW_w8.out.o.c.cellAt HRowJ.out (j:=3) (by decide)
       have z4 : w8.cell? ⟨g,j * 7 + 4,none⟩ = some (.int .i64 y4):=HW_w8.out.o.c.cellAt HRowJ.out (j:=4) (by decide)
       have z5 : w8.cell? ⟨g,j * 7 + 5,none⟩ = some (.int .i64 y5):=HW_w8.out.o.c.cellAt HRowJ.out (j:=5) (by decide)
       have z6 : w8.cell? ⟨g,j * 7 + 6,none⟩ = some (.int .i64 y6):=HW_w8.out.o.c.cellAt HRowJ.out (j:=6) (by decide)
       go_simp
       refine hK.out _ _ ⟨a0,a1,a2,a3,a4,a5,a6,E0,E1,E2,E3,E4,E5,E6,I0,I1,I2,I3,I4,I5,I6,z0,z1,z2,z3,z4,z5,z6⟩ (fun hHeld => ?_)
       clear hK K
       refine tk_ ?_
       refine Sq.done (NoPanic.normal ?_)
       exact key CJ w8 ⟨HW_w8,HE_w8,HI_w8,HJ_w8,HXJ,HNJE,HNJI,HGJ⟩
     case rest3 =>
      intro CJ v3 hF
      obtain ⟨HW_v3,HE_v3,HI_v3,HJ_v3,HXJ,HNJE,HNJI,HGJ⟩:=hF
      obtain ⟨a0,a1,a2,a3,a4,a5,a6,a7,af,az⟩:=HW_v3.out.open_
      obtain ⟨E0,E1,E2,E3,E4,E5,E6,-,-⟩:=box7_ HE_v3.out
      obtain ⟨I0,I1,I2,I3,I4,I5,I6,-,-⟩:=box7_ HI_v3.out
      obtain ⟨J0,J1,J2,J3,J4,J5,J6,-,-⟩:=box7_ HJ_v3.out
      go_wp2_with fail
      refine (s_FeeUp y4 y5 e.Amt _).mono ?_
      rintro e' wz ⟨rfl,rfl⟩
      have hfa:=zpt y4 y5 e.Amt
      obtain ⟨fee,hfe⟩ : ∃ f,feeV y4 y5 e.Amt = f:=⟨_,rfl⟩
      rw [hfe] at hfa ⊢
      have HFE:=hd_ hfe
      clear hfe
      obtain ⟨m5,m6⟩:=zxy.1 hfa
      have HFA:=hd_ hfa
      clear hfa
      cases tf : amtB (e.Amt + fee)
      ·
       have HTF:=hd_ tf
       go_wp2_with fail
       refine (zjo _ _ _ (by rw [HTF.out,Bool.and_false])).mono ?_
       rintro e' wz ⟨rfl,rfl⟩
       clear tf
       cases tk : feeOk y4 y5 e.Amt
       ·
        go_wp2_with fail
        refine zqw (fun w' => kqiiissss w' X b.t b.n b.w (some ⟨g,0,none⟩) b.cs.length p1 A2 b.hs.length p2 A3 b.os.length p3 A4 L.length p4 (kqE w' E e (kqiiiiiii w' CI x0 x1 x2 x3 x4 x5 x6 (kqiiiiiii_ w' CJ y0 y1 y2 y3 y4 y5 y6)))) [yF 0 91,yF 1 92,yF 2 93,yF 3 94,yF 4 95,yF 5 96,yF 6 97,yF 7 98,yF 8 99,yF 9 100,yT 10 101,yF 11 10] (by kernel_rfl) (by kernel_rfl) (by kernel_rfl) ⟨a0,a1,a2,a3,a4,a5,a6,E0,E1,E2,E3,E4,E5,E6,I0,I1,I2,I3,I4,I5,I6,J0,J1,J2,J3,J4,J5,J6⟩ (fun hHeld => ?_)
        obtain ⟨w5,hwd⟩ : ∃ wd,v3.drew = wd:=⟨_,rfl⟩
        have HW_w5 : Hid (Wk 108 w w5 B X b L 0 (some ⟨g,0,none⟩) A2 A3 A4 p1 p2 p3 p4):=hd_ (by rw [← hwd];exact HW_v3.out.drew)
        have HE_w5 : Hid (Hx w5 E (evC e) 64):=hd_ (by rw [← hwd];exact zqk HE_v3.out)
        have HI_w5 : Hid (Hx w5 CI #[.int .i64 x0,.int .i64 x1,.int .i64 x2,.int .i64 x3,.int .i64 x4,.int .i64 x5,.int .i64 x6] 103):=hd_ (by rw [← hwd];exact zqk HI_v3.out)
        have HJ_w5 : Hid (Hx w5 CJ #[.int .i64 y0,.int .i64 y1,.int .i64 y2,.int .i64 y3,.int .i64 y4,.int .i64 y5,.int .i64 y6] 103):=hd_ (by rw [← hwd];exact zqk HJ_v3.out)
        clear a0 a1 a2 a3 a4 a5 a6 a7 af az E0 E1 E2 E3 E4 E5 E6 I0 I1 I2 I3 I4 I5 I6 J0 J1 J2 J3 J4 J5 J6
        rw [hwd] at hHeld ⊢
        clear hwd
        obtain ⟨a0,a1,a2,a3,a4,a5,a6,a7,af,az⟩:=HW_w5.out.open_
        obtain ⟨E0,E1,E2,E3,E4,E5,E6,-,-⟩:=box7_ HE_w5.out
        obtain ⟨I0,I1,I2,I3,I4,I5,I6,-,-⟩:=box7_ HI_w5.out
        obtain ⟨J0,J1,J2,J3,J4,J5,J6,-,-⟩:=box7_ HJ_w5.out
        refine tk_ ?_
        refine Sq.step rfl (by rfl) (fun K hK => ?_)
        go_simp
        refine (zvp b.t b.n b.w b.cs b.hs b.os _ _ _ _ _ _ ⟨x0,x1,x2,x3,x4,x5,x6⟩ ⟨y0,y1,y2,y3,y4,y5,y6⟩ e.Amt e.Yes _ HSM.out HW_w5.out.o.rd).mono ?_
        rintro e' w6 ⟨rfl,hb⟩
        obtain ⟨room,hrm⟩ : ∃ r,roomF b.hs ⟨y0,y1,y2,y3,y4,y5,y6⟩ y0 e.Amt x6 e.Yes = r:=⟨_,rfl⟩
        simp only
        rw [hrm]
        have HRM:=hd_ hrm
        clear hrm
        have HW_w6:=hd_ (HW_w5.out.below hb)
        have HE_w6:=hd_ (zqe hb (gz_ HE_w5.out).1 HE_w5.out)
        have HI_w6:=hd_ (zqe hb (gz_ HI_w5.out).1 HI_w5.out)
        have HJ_w6:=hd_ (zqe hb (gz_ HJ_w5.out).1 HJ_w5.out)
        clear hb
        clear a0 a1 a2 a3 a4 a5 a6 a7 af az E0 E1 E2 E3 E4 E5 E6 I0 I1 I2 I3 I4 I5 I6 J0 J1 J2 J3 J4 J5 J6
        obtain ⟨a0,a1,a2,a3,a4,a5,a6,a7,af,az⟩:=HW_w6.out.open_
        obtain ⟨E0,E1,E2,E3,E4,E5,E6,-,-⟩:=box7_ HE_w6.out
        obtain ⟨I0,I1,I2,I3,I4,I5,I6,-,-⟩:=box7_ HI_w6.out
        obtain ⟨J0,J1,J2,J3,J4,J5,J6,-,-⟩:=box7_ HJ_w6.out
        go_simp
        refine hK.out _ _ ⟨a0,a1,a2,a3,a4,a5,a6,E0,E1,E2,E3,E4,E5,E6,I0,I1,I2,I3,I4,I5,I6,J0,J1,J2,J3,J4,J5,J6⟩ (fun hHeld => ?_)
        clear hK K
        refine tk_ ?_
        refine Sq.done (NoPanic.normal ?_)
        go_wp2_with fail
        refine (zqv _ _ B X b L (some ⟨g,0,none⟩) A2 A3 A4 p1 p2 p3 p4 10 (by decide) HW_w6.out).mono ?_
        rintro e' w7 ⟨rfl,hh,ho⟩
        have HW_w7:=hd_ (HW_w6.out.trans hh)
        have HE_w7:=hd_ (ho _ _ HXE.out HE_w6.out)
        have HI_w7:=hd_ (ho _ _ HXI.out HI_w6.out)
        have HJ_w7:=hd_ (ho _ _ HXJ.out HJ_w6.out)
        clear hh ho
        clear a0 a1 a2 a3 a4 a5 a6 a7 af az E0 E1 E2 E3 E4 E5 E6 I0 I1 I2 I3 I4 I5 I6 J0 J1 J2 J3 J4 J5 J6
        obtain ⟨a0,a1,a2,a3,a4,a5,a6,a7,af,az⟩:=HW_w7.out.open_
        obtain ⟨E0,E1,E2,E3,E4,E5,E6,-,-⟩:=box7_ HE_w7.out
        obtain ⟨I0,I1,I2,I3,I4,I5,I6,-,-⟩:=box7_ HI_w7.out
        obtain ⟨J0,J1,J2,J3,J4,J5,J6,-,-⟩:=box7_ HJ_w7.out
        go_wp2_with fail
        go_end0
        rw [HCi.out,HCj.out,zwh H9.out H6.out H14.out (by (try simp only);rw [HFE.out,HTF.out,Bool.and_false])]
        exact Acts.no (by decide) ⟨_,_,_,_,_,_,_,_,rfl,HW_w7.out⟩
       ·
        go_wp2_with fail
        refine zqw (fun w' => kqiiissss w' X b.t b.n b.w (some ⟨g,0,none⟩) b.cs.length p1 A2 b.hs.length p2 A3 b.os.length p3 A4 L.length p4 (kqE w' E e (kqiiiiiii w' CI x0 x1 x2 x3 x4 x5 x6 (kqiiiiiii_ w' CJ y0 y1 y2 y3 y4 y5 y6)))) [yF 0 91,yF 1 92,yF 2 93,yF 3 94,yF 4 95,yF 5 96,yF 6 97,yF 7 98,yF 8 99,yF 9 100,yT 10 101,yF 11 10] (by kernel_rfl) (by kernel_rfl) (by kernel_rfl) ⟨a0,a1,a2,a3,a4,a5,a6,E0,E1,E2,E3,E4,E5,E6,I0,I1,I2,I3,I4,I5,I6,J0,J1,J2,J3,J4,J5,J6⟩ (fun hHeld => ?_)
        obtain ⟨w5,hwd⟩ : ∃ wd,v3.drew = wd:=⟨_,rfl⟩
        have HW_w5 : Hid (Wk 108 w w5 B X b L 0 (some ⟨g,0,none⟩) A2 A3 A4 p1 p2 p3 p4):=hd_ (by rw [← hwd];exact HW_v3.out.drew)
        have HE_w5 : Hid (Hx w5 E (evC e) 64):=hd_ (by rw [← hwd];exact zqk HE_v3.out)
        have HI_w5 : Hid (Hx w5 CI #[.int .i64 x0,.int .i64 x1,.int .i64 x2,.int .i64 x3,.int .i64 x4,.int .i64 x5,.int .i64 x6] 103):=hd_ (by rw [← hwd];exact zqk HI_v3.out)
        have HJ_w5 : Hid (Hx w5 CJ #[.int .i64 y0,.int .i64 y1,.int .i64 y2,.int .i64 y3,.int .i64 y4,.int .i64 y5,.int .i64 y6] 103):=hd_ (by rw [← hwd];exact zqk HJ_v3.out)
        clear a0 a1 a2 a3 a4 a5 a6 a7 af az E0 E1 E2 E3 E4 E5 E6 I0 I1 I2 I3 I4 I5 I6 J0 J1 J2 J3 J4 J5 J6
        rw [hwd] at hHeld ⊢
        clear hwd
        obtain ⟨a0,a1,a2,a3,a4,a5,a6,a7,af,az⟩:=HW_w5.out.open_
        obtain ⟨E0,E1,E2,E3,E4,E5,E6,-,-⟩:=box7_ HE_w5.out
        obtain ⟨I0,I1,I2,I3,I4,I5,I6,-,-⟩:=box7_ HI_w5.out
        obtain ⟨J0,J1,J2,J3,J4,J5,J6,-,-⟩:=box7_ HJ_w5.out
        refine tk_ ?_
        refine Sq.step rfl (by rfl) (fun K hK => ?_)
        go_simp
        refine (zvp b.t b.n b.w b.cs b.hs b.os _ _ _ _ _ _ ⟨x0,x1,x2,x3,x4,x5,x6⟩ ⟨y0,y1,y2,y3,y4,y5,y6⟩ e.Amt e.Yes _ HSM.out HW_w5.out.o.rd).mono ?_
        rintro e' w6 ⟨rfl,hb⟩
        obtain ⟨room,hrm⟩ : ∃ r,roomF b.hs ⟨y0,y1,y2,y3,y4,y5,y6⟩ y0 e.Amt x6 e.Yes = r:=⟨_,rfl⟩
        simp only
        rw [hrm]
        have HRM:=hd_ hrm
        clear hrm
        have HW_w6:=hd_ (HW_w5.out.below hb)
        have HE_w6:=hd_ (zqe hb (gz_ HE_w5.out).1 HE_w5.out)
        have HI_w6:=hd_ (zqe hb (gz_ HI_w5.out).1 HI_w5.out)
        have HJ_w6:=hd_ (zqe hb (gz_ HJ_w5.out).1 HJ_w5.out)
        clear hb
        clear a0 a1 a2 a3 a4 a5 a6 a7 af az E0 E1 E2 E3 E4 E5 E6 I0 I1 I2 I3 I4 I5 I6 J0 J1 J2 J3 J4 J5 J6
        obtain ⟨a0,a1,a2,a3,a4,a5,a6,a7,af,az⟩:=HW_w6.out.open_
        obtain ⟨E0,E1,E2,E3,E4,E5,E6,-,-⟩:=box7_ HE_w6.out
        obtain ⟨I0,I1,I2,I3,I4,I5,I6,-,-⟩:=box7_ HI_w6.out
        obtain ⟨J0,J1,J2,J3,J4,J5,J6,-,-⟩:=box7_ HJ_w6.out
        go_simp
        refine hK.out _ _ ⟨a0,a1,a2,a3,a4,a5,a6,E0,E1,E2,E3,E4,E5,E6,I0,I1,I2,I3,I4,I5,I6,J0,J1,J2,J3,J4,J5,J6⟩ (fun hHeld => ?_)
        clear hK K
        refine tk_ ?_
        refine Sq.done (NoPanic.normal ?_)
        go_wp2_with fail
        refine (zqv _ _ B X b L (some ⟨g,0,none⟩) A2 A3 A4 p1 p2 p3 p4 10 (by decide) HW_w6.out).mono ?_
        rintro e' w7 ⟨rfl,hh,ho⟩
        have HW_w7:=hd_ (HW_w6.out.trans hh)
        have HE_w7:=hd_ (ho _ _ HXE.out HE_w6.out)
        have HI_w7:=hd_ (ho _ _ HXI.out HI_w6.out)
        have HJ_w7:=hd_ (ho _ _ HXJ.out HJ_w6.out)
        clear hh ho
        clear a0 a1 a2 a3 a4 a5 a6 a7 af az E0 E1 E2 E3 E4 E5 E6 I0 I1 I2 I3 I4 I5 I6 J0 J1 J2 J3 J4 J5 J6
        obtain ⟨a0,a1,a2,a3,a4,a5,a6,a7,af,az⟩:=HW_w7.out.open_
        obtain ⟨E0,E1,E2,E3,E4,E5,E6,-,-⟩:=box7_ HE_w7.out
        obtain ⟨I0,I1,I2,I3,I4,I5,I6,-,-⟩:=box7_ HI_w7.out
        obtain ⟨J0,J1,J2,J3,J4,J5,J6,-,-⟩:=box7_ HJ_w7.out
        go_wp2_with fail
        go_end0
        rw [HCi.out,HCj.out,zwh H9.out H6.out H14.out (by (try simp only);rw [HFE.out,HTF.out,Bool.and_false])]
        exact Acts.no (by decide) ⟨_,_,_,_,_,_,_,_,rfl,HW_w7.out⟩
      ·
       have HTF:=hd_ tf
       go_wp2_with fail
       refine (zji _ _ _ ha HFA.out HTF.out).mono ?_
       rintro e' wz ⟨rfl,rfl⟩
       clear tf
       cases tk : feeOk y4 y5 e.Amt
       ·
        have HTK:=hd_ tk
        go_wp2_with fail
        refine zqw (fun w' => kqiiissss w' X b.t b.n b.w (some ⟨g,0,none⟩) b.cs.length p1 A2 b.hs.length p2 A3 b.os.length p3 A4 L.length p4 (kqE w' E e (kqiiiiiii w' CI x0 x1 x2 x3 x4 x5 x6 (kqiiiiiii_ w' CJ y0 y1 y2 y3 y4 y5 y6)))) [yF 0 91,yF 1 92,yF 2 93,yF 3 94,yF 4 95,yF 5 96,yF 6 97,yF 7 98,yF 8 99,yF 9 100,yT 10 101,yF 11 10] (by kernel_rfl) (by kernel_rfl) (by kernel_rfl) ⟨a0,a1,a2,a3,a4,a5,a6,E0,E1,E2,E3,E4,E5,E6,I0,I1,I2,I3,I4,I5,I6,J0,J1,J2,J3,J4,J5,J6⟩ (fun hHeld => ?_)
        obtain ⟨w5,hwd⟩ : ∃ wd,v3.drew = wd:=⟨_,rfl⟩
        have HW_w5 : Hid (Wk 108 w w5 B X b L 0 (some ⟨g,0,none⟩) A2 A3 A4 p1 p2 p3 p4):=hd_ (by rw [← hwd];exact HW_v3.out.drew)
        have HE_w5 : Hid (Hx w5 E (evC e) 64):=hd_ (by rw [← hwd];exact zqk HE_v3.out)
        have HI_w5 : Hid (Hx w5 CI #[.int .i64 x0,.int .i64 x1,.int .i64 x2,.int .i64 x3,.int .i64 x4,.int .i64 x5,.int .i64 x6] 103):=hd_ (by rw [← hwd];exact zqk HI_v3.out)
        have HJ_w5 : Hid (Hx w5 CJ #[.int .i64 y0,.int .i64 y1,.int .i64 y2,.int .i64 y3,.int .i64 y4,.int .i64 y5,.int .i64 y6] 103):=hd_ (by rw [← hwd];exact zqk HJ_v3.out)
        clear a0 a1 a2 a3 a4 a5 a6 a7 af az E0 E1 E2 E3 E4 E5 E6 I0 I1 I2 I3 I4 I5 I6 J0 J1 J2 J3 J4 J5 J6
        rw [hwd] at hHeld ⊢
        clear hwd
        obtain ⟨a0,a1,a2,a3,a4,a5,a6,a7,af,az⟩:=HW_w5.out.open_
        obtain ⟨E0,E1,E2,E3,E4,E5,E6,-,-⟩:=box7_ HE_w5.out
        obtain ⟨I0,I1,I2,I3,I4,I5,I6,-,-⟩:=box7_ HI_w5.out
        obtain ⟨J0,J1,J2,J3,J4,J5,J6,-,-⟩:=box7_ HJ_w5.out
        refine tk_ ?_
        refine Sq.step rfl (by rfl) (fun K hK => ?_)
        go_simp
        refine (zvp b.t b.n b.w b.cs b.hs b.os _ _ _ _ _ _ ⟨x0,x1,x2,x3,x4,x5,x6⟩ ⟨y0,y1,y2,y3,y4,y5,y6⟩ e.Amt e.Yes _ HSM.out HW_w5.out.o.rd).mono ?_
        rintro e' w6 ⟨rfl,hb⟩
        obtain ⟨room,hrm⟩ : ∃ r,roomF b.hs ⟨y0,y1,y2,y3,y4,y5,y6⟩ y0 e.Amt x6 e.Yes = r:=⟨_,rfl⟩
        simp only
        rw [hrm]
        have HRM:=hd_ hrm
        clear hrm
        have HW_w6:=hd_ (HW_w5.out.below hb)
        have HE_w6:=hd_ (zqe hb (gz_ HE_w5.out).1 HE_w5.out)
        have HI_w6:=hd_ (zqe hb (gz_ HI_w5.out).1 HI_w5.out)
        have HJ_w6:=hd_ (zqe hb (gz_ HJ_w5.out).1 HJ_w5.out)
        clear hb
        clear a0 a1 a2 a3 a4 a5 a6 a7 af az E0 E1 E2 E3 E4 E5 E6 I0 I1 I2 I3 I4 I5 I6 J0 J1 J2 J3 J4 J5 J6
        obtain ⟨a0,a1,a2,a3,a4,a5,a6,a7,af,az⟩:=HW_w6.out.open_
        obtain ⟨E0,E1,E2,E3,E4,E5,E6,-,-⟩:=box7_ HE_w6.out
        obtain ⟨I0,I1,I2,I3,I4,I5,I6,-,-⟩:=box7_ HI_w6.out
        obtain ⟨J0,J1,J2,J3,J4,J5,J6,-,-⟩:=box7_ HJ_w6.out
        go_simp
        refine hK.out _ _ ⟨a0,a1,a2,a3,a4,a5,a6,E0,E1,E2,E3,E4,E5,E6,I0,I1,I2,I3,I4,I5,I6,J0,J1,J2,J3,J4,J5,J6⟩ (fun hHeld => ?_)
        clear hK K
        refine tk_ ?_
        refine Sq.done (NoPanic.normal ?_)
        go_wp2_with fail
        refine (zqv _ _ B X b L (some ⟨g,0,none⟩) A2 A3 A4 p1 p2 p3 p4 10 (by decide) HW_w6.out).mono ?_
        rintro e' w7 ⟨rfl,hh,ho⟩
        have HW_w7:=hd_ (HW_w6.out.trans hh)
        have HE_w7:=hd_ (ho _ _ HXE.out HE_w6.out)
        have HI_w7:=hd_ (ho _ _ HXI.out HI_w6.out)
        have HJ_w7:=hd_ (ho _ _ HXJ.out HJ_w6.out)
        clear hh ho
        clear a0 a1 a2 a3 a4 a5 a6 a7 af az E0 E1 E2 E3 E4 E5 E6 I0 I1 I2 I3 I4 I5 I6 J0 J1 J2 J3 J4 J5 J6
        obtain ⟨a0,a1,a2,a3,a4,a5,a6,a7,af,az⟩:=HW_w7.out.open_
        obtain ⟨E0,E1,E2,E3,E4,E5,E6,-,-⟩:=box7_ HE_w7.out
        obtain ⟨I0,I1,I2,I3,I4,I5,I6,-,-⟩:=box7_ HI_w7.out
        obtain ⟨J0,J1,J2,J3,J4,J5,J6,-,-⟩:=box7_ HJ_w7.out
        go_wp2_with fail
        go_end0
        rw [HCi.out,HCj.out,zwh H9.out H6.out H14.out (by (try simp only);rw [HTK.out,Bool.false_and])]
        exact Acts.no (by decide) ⟨_,_,_,_,_,_,_,_,rfl,HW_w7.out⟩
       ·
        have HTK:=hd_ tk
        have H4 : Hid ((feeOk y4 y5 e.Amt && amtB (e.Amt + feeV y4 y5 e.Amt)) = true):=hd_ (by rw [HTK.out,HFE.out,HTF.out];rfl)
        have hsum:=zxy.1 HTF.out
        obtain ⟨m7,m8⟩:=hsum
        go_wp2_with fail
        refine zqw (fun w' => kqiiissss w' X b.t b.n b.w (some ⟨g,0,none⟩) b.cs.length p1 A2 b.hs.length p2 A3 b.os.length p3 A4 L.length p4 (kqE w' E e (kqiiiiiii w' CI x0 x1 x2 x3 x4 x5 x6 (kqiiiiiii_ w' CJ y0 y1 y2 y3 y4 y5 y6)))) [yF 0 91,yF 1 92,yF 2 93,yF 3 94,yF 4 95,yF 5 96,yF 6 97,yF 7 98,yF 8 99,yF 9 100,yT 10 101,yF 11 10] (by kernel_rfl) (by kernel_rfl) (by kernel_rfl) ⟨a0,a1,a2,a3,a4,a5,a6,E0,E1,E2,E3,E4,E5,E6,I0,I1,I2,I3,I4,I5,I6,J0,J1,J2,J3,J4,J5,J6⟩ (fun hHeld => ?_)
        obtain ⟨w5,hwd⟩ : ∃ wd,v3.drew = wd:=⟨_,rfl⟩
        have HW_w5 : Hid (Wk 108 w w5 B X b L 0 (some ⟨g,0,none⟩) A2 A3 A4 p1 p2 p3 p4):=hd_ (by rw [← hwd];exact HW_v3.out.drew)
        have HE_w5 : Hid (Hx w5 E (evC e) 64):=hd_ (by rw [← hwd];exact zqk HE_v3.out)
        have HI_w5 : Hid (Hx w5 CI #[.int .i64 x0,.int .i64 x1,.int .i64 x2,.int .i64 x3,.int .i64 x4,.int .i64 x5,.int .i64 x6] 103):=hd_ (by rw [← hwd];exact zqk HI_v3.out)
        have HJ_w5 : Hid (Hx w5 CJ #[.int .i64 y0,.int .i64 y1,.int .i64 y2,.int .i64 y3,.int .i64 y4,.int .i64 y5,.int .i64 y6] 103):=hd_ (by rw [← hwd];exact zqk HJ_v3.out)
        clear a0 a1 a2 a3 a4 a5 a6 a7 af az E0 E1 E2 E3 E4 E5 E6 I0 I1 I2 I3 I4 I5 I6 J0 J1 J2 J3 J4 J5 J6
        rw [hwd] at hHeld ⊢
        clear hwd
        obtain ⟨a0,a1,a2,a3,a4,a5,a6,a7,af,az⟩:=HW_w5.out.open_
        obtain ⟨E0,E1,E2,E3,E4,E5,E6,-,-⟩:=box7_ HE_w5.out
        obtain ⟨I0,I1,I2,I3,I4,I5,I6,-,-⟩:=box7_ HI_w5.out
        obtain ⟨J0,J1,J2,J3,J4,J5,J6,-,-⟩:=box7_ HJ_w5.out
        refine tk_ ?_
        refine Sq.step rfl (by rfl) (fun K hK => ?_)
        go_simp
        refine (zvp b.t b.n b.w b.cs b.hs b.os _ _ _ _ _ _ ⟨x0,x1,x2,x3,x4,x5,x6⟩ ⟨y0,y1,y2,y3,y4,y5,y6⟩ e.Amt e.Yes _ HSM.out HW_w5.out.o.rd).mono ?_
        rintro e' w6 ⟨rfl,hb⟩
        obtain ⟨room,hrm⟩ : ∃ r,roomF b.hs ⟨y0,y1,y2,y3,y4,y5,y6⟩ y0 e.Amt x6 e.Yes = r:=⟨_,rfl⟩
        simp only
        rw [hrm]
        have HRM:=hd_ hrm
        clear hrm
        have HW_w6:=hd_ (HW_w5.out.below hb)
        have HE_w6:=hd_ (zqe hb (gz_ HE_w5.out).1 HE_w5.out)
        have HI_w6:=hd_ (zqe hb (gz_ HI_w5.out).1 HI_w5.out)
        have HJ_w6:=hd_ (zqe hb (gz_ HJ_w5.out).1 HJ_w5.out)
        clear hb
        clear a0 a1 a2 a3 a4 a5 a6 a7 af az E0 E1 E2 E3 E4 E5 E6 I0 I1 I2 I3 I4 I5 I6 J0 J1 J2 J3 J4 J5 J6
        obtain ⟨a0,a1,a2,a3,a4,a5,a6,a7,af,az⟩:=HW_w6.out.open_
        obtain ⟨E0,E1,E2,E3,E4,E5,E6,-,-⟩:=box7_ HE_w6.out
        obtain ⟨I0,I1,I2,I3,I4,I5,I6,-,-⟩:=box7_ HI_w6.out
        obtain ⟨J0,J1,J2,J3,J4,J5,J6,-,-⟩:=box7_ HJ_w6.out
        go_simp
        refine hK.out _ _ ⟨a0,a1,a2,a3,a4,a5,a6,E0,E1,E2,E3,E4,E5,E6,I0,I1,I2,I3,I4,I5,I6,J0,J1,J2,J3,J4,J5,J6⟩ (fun hHeld => ?_)
        clear hK K
        refine tk_ ?_
        refine Sq.done (NoPanic.normal ?_)
        go_wp2_with fail
        cases t11 : decide (x3 < e.Amt + fee)
        ·
         have n1:=of_decide_eq_false t11
         have H5 : Hid (e.Amt + feeV y4 y5 e.Amt ≤ x3):=hd_ (by rw [HFE.out];omega)
         cases t12 : decide (y2 < e.Amt)
         ·
          have n2:=of_decide_eq_false t12
          cases t13 : (room == 0)
          ·
           have n3:=beq_eq_false_iff_ne.1 t13
           have HO:=hd_ (zps (b:=b) (e:=e) (i:=⟨x0,x1,x2,x3,x4,x5,x6⟩) (o:=⟨y0,y1,y2,y3,y4,y5,y6⟩) H9.out H6.out H14.out H4.out H5.out (by simp only;omega) (by simp only;rw [HRM.out];exact n3))
           clear n3
           refine (zqn _ _ B X b L (some ⟨g,0,none⟩) A2 A3 A4 p1 p2 p3 p4 10 HW_w6.out).mono ?_
           rintro e' wz ⟨rfl,rfl⟩
           go_wp2_with fail
           refine (zqn _ _ B X b L (some ⟨g,0,none⟩) A2 A3 A4 p1 p2 p3 p4 11 HW_w6.out).mono ?_
           rintro e' wz ⟨rfl,rfl⟩
           go_wp2_with fail
           refine (zqn _ _ B X b L (some ⟨g,0,none⟩) A2 A3 A4 p1 p2 p3 p4 12 HW_w6.out).mono ?_
           rintro e' wz ⟨rfl,rfl⟩
           go_wp2_with fail
           refine (zqn _ _ B X b L (some ⟨g,0,none⟩) A2 A3 A4 p1 p2 p3 p4 13 HW_w6.out).mono ?_
           rintro e' wz ⟨rfl,rfl⟩
           go_wp2_with fail
           clear t11 t12 t13 tk
           clear a0 a1 a2 a3 a4 a5 a6 a7 af az E0 E1 E2 E3 E4 E5 E6 I0 I1 I2 I3 I4 I5 I6 J0 J1 J2 J3 J4 J5 J6
           obtain ⟨a0,a1,a2,a3,a4,a5,a6,a7,af,az⟩:=HW_w6.out.open_
           obtain ⟨E0,E1,E2,E3,E4,E5,E6,-,-⟩:=box7_ HE_w6.out
           refine zxb (fun w' => kqiiissss w' X b.t b.n b.w (some ⟨g,0,none⟩) b.cs.length p1 A2 b.hs.length p2 A3 b.os.length p3 A4 L.length p4 (kqE_ w' E e)) [yF 0 133,yF 1 134,yF 2 135,yF 3 136,yF 4 137,yF 5 138,yF 6 139,yF 7 140,yF 8 141,yF 9 142,yF 10 143,yF 11 144,yF 12 145,yF 13 146,yF 14 147,yF 15 148,yF 16 149,yF 17 150,yT 18 151,yT 19 152,yF 20 153,yF 21 154,yF 22 155] rfl (by kernel_rfl) (by kernel_rfl) (by kernel_rfl) (by kernel_rfl) (by kernel_rfl) (by kernel_rfl) ⟨a0,a1,a2,a3,a4,a5,a6,E0,E1,E2,E3,E4,E5,E6⟩ (fun hHeld => ?_)
           obtain ⟨w7,hwd⟩ : ∃ wd,w6.drew = wd:=⟨_,rfl⟩
           have HW_w7 : Hid (Wk 108 w w7 B X b L 0 (some ⟨g,0,none⟩) A2 A3 A4 p1 p2 p3 p4):=hd_ (by rw [← hwd];exact HW_w6.out.drew)
           have HE_w7 : Hid (Hx w7 E (evC e) 64):=hd_ (by rw [← hwd];exact zqk HE_w6.out)
           clear a0 a1 a2 a3 a4 a5 a6 a7 af az E0 E1 E2 E3 E4 E5 E6
           rw [hwd] at hHeld ⊢
           clear hwd
           obtain ⟨a0,a1,a2,a3,a4,a5,a6,a7,af,az⟩:=HW_w7.out.open_
           obtain ⟨E0,E1,E2,E3,E4,E5,E6,-,-⟩:=box7_ HE_w7.out
           refine tk_ ?_
           refine Sq.step rfl (by rfl) (fun K hK => ?_)
           go_simp
           refine zjc (fun w8 hw => ?_)
           have HW_w8 : Hid (Wk 108 w w8 B X b L 0 (some ⟨g,0,none⟩) A2 A3 A4 p1 p2 p3 p4):=hd_ (by rw [hw];exact HW_w7.out.alloc _)
           have HE_w8 : Hid (Hx w8 E (evC e) 64):=hd_ (by rw [hw];exact zqg (gz_ HE_w7.out).1 HE_w7.out)
           have HB : Hid (w8.heap[w7.heap.size]? = some (.cells #[.int .i64 e.Key,.int .i64 e.Ch,.int .i64 e.To,.int .i64 (e.Amt + fee),.int .i64 e.Amt,.bool (room == 2),.int .i64 0] 70 (0,0))):=hd_ (by rw [hw];exact zqm rfl)
           clear hw
           clear a0 a1 a2 a3 a4 a5 a6 a7 af az E0 E1 E2 E3 E4 E5 E6
           obtain ⟨a0,a1,a2,a3,a4,a5,a6,a7,af,az⟩:=HW_w8.out.open_
           obtain ⟨E0,E1,E2,E3,E4,E5,E6,-,-⟩:=box7_ HE_w8.out
           go_simp
           refine hK.out _ _ ⟨a0,a1,a2,a3,a4,a5,a6,E0,E1,E2,E3,E4,E5,E6⟩ (fun hHeld => ?_)
           clear hK K
           refine tk_ ?_
           refine Sq.step rfl (by rfl) (fun K hK => ?_)
           refine zyb (ops:=#[]) (E:=True) rfl (ztn rfl _ _ _ rfl B 70 i0 _ 7 56 Tryz.underlying36 HI0.out HI1.out HI2.out HI3.out rfl (by decide) (.slice A2 b.hs.length p2) _ (by rfl) HW_w8.out.o.h w7.heap.size 1 [.int .i64 e.Key,.int .i64 e.Ch,.int .i64 e.To,.int .i64 (e.Amt + fee),.int .i64 e.Amt,.bool (room == 2),.int .i64 0] 70 (by rfl) HB.out rfl (by simp [Value.oneCell']) (by rw [List.length_map];omega) (by decide) HW_w8.out.ble ?_)
           intro g2 cap2 w9 how2 hgr2 hat2 hlt2
           have HA:=hd_ (HW_w8.out.appH (by decide) (by decide) (by decide) (by decide) (c:=⟨e.Key,e.Ch,e.To,(e.Amt + fee),e.Amt,(room == 2),0⟩) how2 hgr2)
           have HE_w9 : Hid (Hx w9 E (evC e) 64):=hd_ (zqd hgr2 (HW_w8.out.o.h.ne_ HE_w8.out (by decide)) HE_w8.out)
           clear how2 hgr2 hat2 HB
           rw [List.length_map]
           clear a0 a1 a2 a3 a4 a5 a6 a7 af az E0 E1 E2 E3 E4 E5 E6
           obtain ⟨_,a0,a1,a2,a3,a4,a5,a6,a7,af,az⟩:=own8 HA.out.1
           obtain ⟨E0,E1,E2,E3,E4,E5,E6,-,-⟩:=box7_ HE_w9.out
           go_simp
           refine hK.out _ _ ⟨a0,a1,a2,a3,a4,a5,a6,E0,E1,E2,E3,E4,E5,E6⟩ (fun hHeld => ?_)
           clear hK K
           refine tk_ ?_
           refine Sq.done ?_
           intro KK hKK
           go_simp
           refine hKK _ _ (NoPanic.normal ?_)
           refine nm_ ?_
           intro w10 hw
           have HW_w10 : Hid (Wk 108 w w10 B X ⟨b.t,b.n,b.w,b.cs,(b.hs ++ [⟨e.Key,e.Ch,e.To,(e.Amt + fee),e.Amt,(room == 2),0⟩]),b.os⟩ L 0 (some ⟨g,0,none⟩) (some ⟨g2,0,none⟩) A3 A4 p1 cap2 p3 p4):=hd_ (by rw [hw];exact HA.out.2)
           have HE_w10 : Hid (Hx w10 E (evC e) 64):=hd_ (by rw [hw];exact zqb HXE.out HE_w9.out)
           clear hw
           clear a0 a1 a2 a3 a4 a5 a6 a7 af az E0 E1 E2 E3 E4 E5 E6
           obtain ⟨a0,a1,a2,a3,a4,a5,a6,a7,af,az⟩:=HW_w10.out.open_
           obtain ⟨E0,E1,E2,E3,E4,E5,E6,-,-⟩:=box7_ HE_w10.out
           clear HA
           go_wp2_with fail
           refine (zje _ _ B X ⟨b.t,b.n,b.w,b.cs,(b.hs ++ [⟨e.Key,e.Ch,e.To,(e.Amt + fee),e.Amt,(room == 2),0⟩]),b.os⟩ L 0 (some ⟨g,0,none⟩) (some ⟨g2,0,none⟩) A3 A4 p1 cap2 p3 p4 e.Ch 0 (-(e.Amt + fee)) (by (try simp only);omega) (Hmi.out) (by have:=HBD.out.at_ Hmi.out;(try simp only);omega) (by omega) (by omega) HW_w10.out).mono ?_
           rintro e' w11 ⟨rfl,hh,ho⟩
           have HE_w11:=hd_ (ho g rfl _ _ (fun e9 => HW_w10.out.o.c.ne_ HE_w10.out (by decide) (by rw [e9];rfl)) HE_w10.out)
           obtain ⟨cs1,hc9⟩ : ∃ v,moveC b.cs e.Ch 0 (-(e.Amt + fee)) = v:=⟨_,rfl⟩
           rw [hc9] at hh
           have Hcs1:=hd_ hc9
           have HW_w11:=hd_ (HW_w10.out.trans hh)
           clear hh ho hc9
           clear a0 a1 a2 a3 a4 a5 a6 a7 af az E0 E1 E2 E3 E4 E5 E6
           obtain ⟨a0,a1,a2,a3,a4,a5,a6,a7,af,az⟩:=HW_w11.out.open_
           obtain ⟨E0,E1,E2,E3,E4,E5,E6,-,-⟩:=box7_ HE_w11.out
           have Hix1 : Hid (∀ ch,chanIx cs1 ch = chanIx b.cs ch):=hd_ (by rw [← Hcs1.out];exact fun ch => zxs _ _ _ _ ch)
           have hl1 : cs1.length = b.cs.length:=by rw [← Hcs1.out];exact zxj _ _ _ _
           have HBD1 : Hid (Bd (1125899906842624 + 2251799813685248) cs1):=hd_ (by rw [← Hcs1.out];exact HBD.out.move _ _ _ (by omega) (by omega))
           have HL1:=hd_ hl1
           clear hl1
           go_wp2_with fail
           refine (zje _ _ B X ⟨b.t,b.n,b.w,cs1,(b.hs ++ [⟨e.Key,e.Ch,e.To,(e.Amt + fee),e.Amt,(room == 2),0⟩]),b.os⟩ L 0 (some ⟨g,0,none⟩) (some ⟨g2,0,none⟩) A3 A4 p1 cap2 p3 p4 e.To (-e.Amt) 0 (by have:=HL1.out;(try simp only);omega) (by (try simp only);rw [Hix1.out];exact Hmo.out) (by have:=HBD1.out.at_ (ch:=e.To) (by rw [Hix1.out];exact Hmo.out);(try simp only);omega) (by omega) (by omega) HW_w11.out).mono ?_
           rintro e' w12 ⟨rfl,hh,ho⟩
           have HE_w12:=hd_ (ho g rfl _ _ (fun e9 => HW_w11.out.o.c.ne_ HE_w11.out (by decide) (by rw [e9];rfl)) HE_w11.out)
           obtain ⟨cs2,hc9⟩ : ∃ v,moveC cs1 e.To (-e.Amt) 0 = v:=⟨_,rfl⟩
           rw [hc9] at hh
           have Hcs2:=hd_ hc9
           have HW_w12:=hd_ (HW_w11.out.trans hh)
           clear hh ho hc9
           clear a0 a1 a2 a3 a4 a5 a6 a7 af az E0 E1 E2 E3 E4 E5 E6
           obtain ⟨a0,a1,a2,a3,a4,a5,a6,a7,af,az⟩:=HW_w12.out.open_
           obtain ⟨E0,E1,E2,E3,E4,E5,E6,-,-⟩:=box7_ HE_w12.out
           go_wp2_with fail
           refine (zxm _ _ B X ⟨b.t,b.n,b.w,cs2,(b.hs ++ [⟨e.Key,e.Ch,e.To,(e.Amt + fee),e.Amt,(room == 2),0⟩]),b.os⟩ L 0 (some ⟨g,0,none⟩) (some ⟨g2,0,none⟩) A3 A4 p1 cap2 p3 p4 6 e.To (-e.Amt) (by rw [HL.out];decide) HW_w12.out).mono ?_
           rintro e' w13 ⟨⟨Cw130,Cw131,Cw132,Cw133,rw130,rw131,rw132,rw133,rfl,hh⟩,ho⟩
           have HE_w13:=hd_ (ho _ _ HXE.out HE_w12.out)
           obtain ⟨M0,hL9⟩ : ∃ v,lineTo L 6 e.To (-e.Amt) = v:=⟨_,rfl⟩
           rw [hL9] at hh
           have hlM0 : M0.length ≤ L.length + 1:=by rw [← hL9];exact zxe _ _ _ _
           have HM0:=hd_ hL9
           have HW_w13:=hd_ (HW_w12.out.trans hh)
           clear hh ho hL9
           clear a0 a1 a2 a3 a4 a5 a6 a7 af az E0 E1 E2 E3 E4 E5 E6
           obtain ⟨a0,a1,a2,a3,a4,a5,a6,a7,af,az⟩:=HW_w13.out.open_
           obtain ⟨E0,E1,E2,E3,E4,E5,E6,-,-⟩:=box7_ HE_w13.out
           go_wp2_with fail
           refine (zxm _ _ B X ⟨b.t,b.n,b.w,cs2,(b.hs ++ [⟨e.Key,e.Ch,e.To,(e.Amt + fee),e.Amt,(room == 2),0⟩]),b.os⟩ M0 0 Cw130 Cw131 Cw132 Cw133 rw130 rw131 rw132 rw133 8 e.To e.Amt (by rw [HL.out] at hlM0;simp at hlM0;omega) HW_w13.out).mono ?_
           rintro e' w14 ⟨⟨Cw140,Cw141,Cw142,Cw143,rw140,rw141,rw142,rw143,rfl,hh⟩,ho⟩
           have HE_w14:=hd_ (ho _ _ HXE.out HE_w13.out)
           obtain ⟨M1,hL9⟩ : ∃ v,lineTo M0 8 e.To e.Amt = v:=⟨_,rfl⟩
           rw [hL9] at hh
           have hlM1 : M1.length ≤ M0.length + 1:=by rw [← hL9];exact zxe _ _ _ _
           have HM1:=hd_ hL9
           have HW_w14:=hd_ (HW_w13.out.trans hh)
           clear hh ho hL9
           clear a0 a1 a2 a3 a4 a5 a6 a7 af az E0 E1 E2 E3 E4 E5 E6
           obtain ⟨a0,a1,a2,a3,a4,a5,a6,a7,af,az⟩:=HW_w14.out.open_
           obtain ⟨E0,E1,E2,E3,E4,E5,E6,-,-⟩:=box7_ HE_w14.out
           go_wp2_with fail
           go_end0
           rw [HCi.out,HCj.out,HO.out]
           have HZ : nz [⟨6,e.To,(-e.Amt)⟩,⟨8,e.To,e.Amt⟩] = M1:=by rw [← HM1.out,← HM0.out,HL.out];exact (line2 (by decide)).symm
           (try simp only)
           rw [HFE.out,HRM.out,HZ,Hcs1.out,Hcs2.out]
           exact Acts.ok ⟨_,_,_,_,_,_,_,_,rfl,HW_w14.out⟩
          ·
           have n3:=eq_of_beq t13
           have HO:=hd_ (zpq (b:=b) (e:=e) (i:=⟨x0,x1,x2,x3,x4,x5,x6⟩) (o:=⟨y0,y1,y2,y3,y4,y5,y6⟩) H9.out H6.out H14.out H4.out H5.out (by simp only;omega) (by simp only;rw [HRM.out];exact n3))
           clear n3
           refine (zqn _ _ B X b L (some ⟨g,0,none⟩) A2 A3 A4 p1 p2 p3 p4 10 HW_w6.out).mono ?_
           rintro e' wz ⟨rfl,rfl⟩
           go_wp2_with fail
           refine (zqn _ _ B X b L (some ⟨g,0,none⟩) A2 A3 A4 p1 p2 p3 p4 11 HW_w6.out).mono ?_
           rintro e' wz ⟨rfl,rfl⟩
           go_wp2_with fail
           refine (zqn _ _ B X b L (some ⟨g,0,none⟩) A2 A3 A4 p1 p2 p3 p4 12 HW_w6.out).mono ?_
           rintro e' wz ⟨rfl,rfl⟩
           go_wp2_with fail
           refine (zqv _ _ B X b L (some ⟨g,0,none⟩) A2 A3 A4 p1 p2 p3 p4 13 (by decide) HW_w6.out).mono ?_
           rintro e' w7 ⟨rfl,hh,ho⟩
           have HW_w7:=hd_ (HW_w6.out.trans hh)
           have HE_w7:=hd_ (ho _ _ HXE.out HE_w6.out)
           have HI_w7:=hd_ (ho _ _ HXI.out HI_w6.out)
           have HJ_w7:=hd_ (ho _ _ HXJ.out HJ_w6.out)
           clear hh ho
           clear a0 a1 a2 a3 a4 a5 a6 a7 af az E0 E1 E2 E3 E4 E5 E6 I0 I1 I2 I3 I4 I5 I6 J0 J1 J2 J3 J4 J5 J6
           obtain ⟨a0,a1,a2,a3,a4,a5,a6,a7,af,az⟩:=HW_w7.out.open_
           obtain ⟨E0,E1,E2,E3,E4,E5,E6,-,-⟩:=box7_ HE_w7.out
           obtain ⟨I0,I1,I2,I3,I4,I5,I6,-,-⟩:=box7_ HI_w7.out
           obtain ⟨J0,J1,J2,J3,J4,J5,J6,-,-⟩:=box7_ HJ_w7.out
           go_wp2_with fail
           go_end0
           rw [HCi.out,HCj.out,HO.out]
           exact Acts.no (by decide) ⟨_,_,_,_,_,_,_,_,rfl,HW_w7.out⟩
         ·
          have n2:=of_decide_eq_true t12
          have HO:=hd_ (zpp (b:=b) (e:=e) (i:=⟨x0,x1,x2,x3,x4,x5,x6⟩) (o:=⟨y0,y1,y2,y3,y4,y5,y6⟩) H9.out H6.out H14.out H4.out H5.out (by simp only;omega))
          refine (zqn _ _ B X b L (some ⟨g,0,none⟩) A2 A3 A4 p1 p2 p3 p4 10 HW_w6.out).mono ?_
          rintro e' wz ⟨rfl,rfl⟩
          go_wp2_with fail
          refine (zqn _ _ B X b L (some ⟨g,0,none⟩) A2 A3 A4 p1 p2 p3 p4 11 HW_w6.out).mono ?_
          rintro e' wz ⟨rfl,rfl⟩
          go_wp2_with fail
          refine (zqv _ _ B X b L (some ⟨g,0,none⟩) A2 A3 A4 p1 p2 p3 p4 12 (by decide) HW_w6.out).mono ?_
          rintro e' w7 ⟨rfl,hh,ho⟩
          have HW_w7:=hd_ (HW_w6.out.trans hh)
          have HE_w7:=hd_ (ho _ _ HXE.out HE_w6.out)
          have HI_w7:=hd_ (ho _ _ HXI.out HI_w6.out)
          have HJ_w7:=hd_ (ho _ _ HXJ.out HJ_w6.out)
          clear hh ho
          clear a0 a1 a2 a3 a4 a5 a6 a7 af az E0 E1 E2 E3 E4 E5 E6 I0 I1 I2 I3 I4 I5 I6 J0 J1 J2 J3 J4 J5 J6
          obtain ⟨a0,a1,a2,a3,a4,a5,a6,a7,af,az⟩:=HW_w7.out.open_
          obtain ⟨E0,E1,E2,E3,E4,E5,E6,-,-⟩:=box7_ HE_w7.out
          obtain ⟨I0,I1,I2,I3,I4,I5,I6,-,-⟩:=box7_ HI_w7.out
          obtain ⟨J0,J1,J2,J3,J4,J5,J6,-,-⟩:=box7_ HJ_w7.out
          go_wp2_with fail
          go_end0
          rw [HCi.out,HCj.out,HO.out]
          exact Acts.no (by decide) ⟨_,_,_,_,_,_,_,_,rfl,HW_w7.out⟩
        ·
         have n1:=of_decide_eq_true t11
         have HO:=hd_ (zpo (b:=b) (e:=e) (i:=⟨x0,x1,x2,x3,x4,x5,x6⟩) (o:=⟨y0,y1,y2,y3,y4,y5,y6⟩) H9.out H6.out H14.out H4.out (by simp only;rw [HFE.out];omega))
         refine (zqn _ _ B X b L (some ⟨g,0,none⟩) A2 A3 A4 p1 p2 p3 p4 10 HW_w6.out).mono ?_
         rintro e' wz ⟨rfl,rfl⟩
         go_wp2_with fail
         refine (zqv _ _ B X b L (some ⟨g,0,none⟩) A2 A3 A4 p1 p2 p3 p4 11 (by decide) HW_w6.out).mono ?_
         rintro e' w7 ⟨rfl,hh,ho⟩
         have HW_w7:=hd_ (HW_w6.out.trans hh)
         have HE_w7:=hd_ (ho _ _ HXE.out HE_w6.out)
         have HI_w7:=hd_ (ho _ _ HXI.out HI_w6.out)
         have HJ_w7:=hd_ (ho _ _ HXJ.out HJ_w6.out)
         clear hh ho
         clear a0 a1 a2 a3 a4 a5 a6 a7 af az E0 E1 E2 E3 E4 E5 E6 I0 I1 I2 I3 I4 I5 I6 J0 J1 J2 J3 J4 J5 J6
         obtain ⟨a0,a1,a2,a3,a4,a5,a6,a7,af,az⟩:=HW_w7.out.open_
         obtain ⟨E0,E1,E2,E3,E4,E5,E6,-,-⟩:=box7_ HE_w7.out
         obtain ⟨I0,I1,I2,I3,I4,I5,I6,-,-⟩:=box7_ HI_w7.out
         obtain ⟨J0,J1,J2,J3,J4,J5,J6,-,-⟩:=box7_ HJ_w7.out
         go_wp2_with fail
         go_end0
         rw [HCi.out,HCj.out,HO.out]
         exact Acts.no (by decide) ⟨_,_,_,_,_,_,_,_,rfl,HW_w7.out⟩
   ·
    have H14 : Hid (b.hs.length = 60):=hd_ (by have:=eq_of_beq t14;omega)
    refine Sq.step rfl (by rfl) (fun K hK => ?_)
    go_simp
    refine (zxw b.t b.n b.w b.cs b.hs b.os _ _ _ _ _ _ e.Ch e.To _ (by omega) HW_w3.out.o.rd).mono ?_
    rintro e' w4 ⟨rfl,hb⟩
    have HW_w4:=hd_ (HW_w3.out.below hb)
    have HE_w4:=hd_ (zqe hb (gz_ HE_w3.out).1 HE_w3.out)
    clear hb
    clear a0 a1 a2 a3 a4 a5 a6 a7 af az E0 E1 E2 E3 E4 E5 E6
    obtain ⟨a0,a1,a2,a3,a4,a5,a6,a7,af,az⟩:=HW_w4.out.open_
    obtain ⟨E0,E1,E2,E3,E4,E5,E6,-,-⟩:=box7_ HE_w4.out
    go_simp
    refine hK.out _ _ ⟨a0,a1,a2,a3,a4,a5,a6,E0,E1,E2,E3,E4,E5,E6⟩ (fun hHeld => ?_)
    clear hK K
    refine tk_ ?_
    refine Sq.step rfl (by rfl) (fun K hK => ?_)
    go_simp
    refine (zqn _ _ B X b L A1 A2 A3 A4 p1 p2 p3 p4 6 HW_w4.out).mono ?_
    rintro e' wz ⟨rfl,rfl⟩
    go_simp
    refine hK.out _ _ ⟨a0,a1,a2,a3,a4,a5,a6,E0,E1,E2,E3,E4,E5,E6⟩ (fun hHeld => ?_)
    clear hK K
    refine tk_ ?_
    refine Sq.step rfl (by rfl) (fun K hK => ?_)
    go_simp
    refine (zqv _ _ B X b L A1 A2 A3 A4 p1 p2 p3 p4 14 (by decide) HW_w4.out).mono ?_
    rintro e' w5 ⟨rfl,hh,ho⟩
    have HW_w5:=hd_ (HW_w4.out.trans hh)
    have HE_w5:=hd_ (ho _ _ HXE.out HE_w4.out)
    clear hh ho
    clear a0 a1 a2 a3 a4 a5 a6 a7 af az E0 E1 E2 E3 E4 E5 E6
    obtain ⟨a0,a1,a2,a3,a4,a5,a6,a7,af,az⟩:=HW_w5.out.open_
    obtain ⟨E0,E1,E2,E3,E4,E5,E6,-,-⟩:=box7_ HE_w5.out
    go_simp
    refine hK.out _ _ ⟨a0,a1,a2,a3,a4,a5,a6,E0,E1,E2,E3,E4,E5,E6⟩ (fun hHeld => ?_)
    clear hK K
    refine tk_ ?_
    refine Sq.done (NoPanic.normal ?_)
    go_wp2_with fail
    go_end0
    rw [zpr H9.out H6.out H14.out]
    exact Acts.no (by decide) ⟨_,_,_,_,_,_,_,_,rfl,HW_w5.out⟩
 ·
  have H9:=hd_ t9
  refine Sq.step rfl (by rfl) (fun K hK => ?_)
  go_simp
  refine (zkc (keysOf b.hs b.os) e.Key KA kcap _ (by omega) HK.out).mono ?_
  rintro e' wz ⟨rfl,rfl⟩
  go_simp
  refine hK.out _ _ ⟨a0,a1,a2,a3,a4,a5,a6,E0,E1,E2,E3,E4,E5,E6⟩ (fun hHeld => ?_)
  clear hK K
  refine tk_ ?_
  refine Sq.step rfl (by rfl) (fun K hK => ?_)
  go_simp
  refine (zqv _ _ B X b L A1 A2 A3 A4 p1 p2 p3 p4 9 (by decide) HW_w3.out).mono ?_
  rintro e' w4 ⟨rfl,hh,ho⟩
  have HW_w4:=hd_ (HW_w3.out.trans hh)
  have HE_w4:=hd_ (ho _ _ HXE.out HE_w3.out)
  clear hh ho
  clear a0 a1 a2 a3 a4 a5 a6 a7 af az E0 E1 E2 E3 E4 E5 E6
  obtain ⟨a0,a1,a2,a3,a4,a5,a6,a7,af,az⟩:=HW_w4.out.open_
  obtain ⟨E0,E1,E2,E3,E4,E5,E6,-,-⟩:=box7_ HE_w4.out
  go_simp
  refine hK.out _ _ ⟨a0,a1,a2,a3,a4,a5,a6,E0,E1,E2,E3,E4,E5,E6⟩ (fun hHeld => ?_)
  clear hK K
  refine tk_ ?_
  refine Sq.done (NoPanic.normal ?_)
  go_wp2_with fail
  go_end0
  rw [zso H9.out]
  exact Acts.no (by decide) ⟨_,_,_,_,_,_,_,_,rfl,HW_w4.out⟩
end Go.Proofs.YtdbmkfmenfcbiaaGreat
