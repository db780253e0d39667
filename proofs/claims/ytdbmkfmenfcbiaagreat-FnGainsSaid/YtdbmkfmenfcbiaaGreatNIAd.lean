/- A payment is admitted: the program's walk. -/
import Derived.Test.YtdbmkfmenfcbiaaGreatRows
import Derived.Test.YtdbmkfmenfcbiaaGreatNILu
import Derived.Test.YtdbmkfmenfcbiaaGreatNM5
import Derived.Test.YtdbmkfmenfcbiaaGreatNSAdmit
namespace Go.Proofs.YtdbmkfmenfcbiaaGreat
open Go.RowKit Go.Deep
def sumV (d : Chan) (e : Event) : Int:=addV e.Amt (feeV d.Base d.Ppm e.Amt)
def sumOk (d : Chan) (e : Event) : Bool:=feeOk d.Base d.Ppm e.Amt && amtB (e.Amt + feeV d.Base d.Ppm e.Amt)
theorem zgb {cs : List Chan} {ch : Int} (h : 0 ≤ chanIx cs ch) : (chanOf cs ch).Id = ch:=by
 obtain ⟨i,hi⟩:=Int.eq_ofNat_of_zero_le h
 have hlt:=zxm hi
 have hid : cs[i].Id = ch:=by
  unfold chanIx at hi
  split at hi
  ·
   rename_i j hj
   obtain ⟨_,h2,_⟩:=List.findIdx?_eq_some_iff_getElem.1 hj
   have : j = i:=by omega
   subst this
   simpa [notId] using h2
  omega
 unfold chanOf
 rw [hi,Int.toNat_natCast,List.getD_eq_getElem?_getD,List.getElem?_eq_getElem hlt]
 exact hid
theorem feeV_amt (base ppm n : Int) : amtB (feeV base ppm n) = true:=by
 unfold feeV
 split
 ·
  rename_i h
  unfold feeOk at h
  simp only [Bool.and_eq_true] at h
  exact h.2
 decide
theorem zts {b : Bk} {e : Event} {f d : Chan} {cd : Int} (hne : e.Ch ≠ e.To) (h60 : b.hs.length ≤ 60) (hf : 0 ≤ chanIx b.cs e.Ch → f = chanOf b.cs e.Ch) (hd : 0 ≤ chanIx b.cs e.To → d = chanOf b.cs e.To)
  (h : cd = failF (failF (failF (failF (failF (failF (failF 0 (hasB (keysOf b.hs b.os) e.Key) 9) (decide (chanIx b.cs e.Ch < 0)) 6) (decide (chanIx b.cs e.To < 0)) 6) (decide ((60 : Int) ≤ (b.hs.length : Int))) 14) (!feeOk d.Base d.Ppm e.Amt || !amtB (e.Amt + feeV d.Base d.Ppm e.Amt)) 10) (decide (f.Remote < sumV d e)) 11) (decide (d.Local < e.Amt)) 12) :
  (cd ≠ 0 → admitS b e (chanOf b.cs e.Ch) (chanOf b.cs e.To) = bad cd)∧(cd = 0 → hasB (keysOf b.hs b.os) e.Key = false∧0 ≤ chanIx b.cs e.Ch∧0 ≤ chanIx b.cs e.To∧twoB b.cs e.Ch e.To = true∧b.hs.length ≠ 60∧sumOk d e = true∧e.Amt + feeV d.Base d.Ppm e.Amt ≤ f.Remote∧e.Amt ≤ d.Local):=by
 subst h
 cases h9 : hasB (keysOf b.hs b.os) e.Key
 case true =>
  rw [admitS_9 h9]
  simp [failF]
 by_cases h6 : chanIx b.cs e.Ch < 0
 ·
  have h2 : twoB b.cs e.Ch e.To = false:=by unfold twoB;rw [decide_eq_false (by omega : ¬ 0 ≤ chanIx b.cs e.Ch)];simp
  rw [zms h9 h2]
  simp [failF,h6]
 by_cases h6' : chanIx b.cs e.To < 0
 ·
  have h2 : twoB b.cs e.Ch e.To = false:=by unfold twoB;rw [decide_eq_false (by omega : ¬ 0 ≤ chanIx b.cs e.To)];simp
  rw [zms h9 h2]
  simp [failF,h6,h6']
 have h2 : twoB b.cs e.Ch e.To = true:=by unfold twoB;rw [decide_eq_true (by omega : 0 ≤ chanIx b.cs e.Ch),decide_eq_true (by omega : 0 ≤ chanIx b.cs e.To)];simpa using hne
 have hf':=(hf (by omega)).symm
 have hd':=(hd (by omega)).symm
 rw [hf',hd']
 by_cases h14 : (60 : Int) ≤ (b.hs.length : Int)
 ·
  rw [zpu h9 h2 (by omega)]
  simp [failF,h6,h6',h14]
 cases h10 : sumOk d e
 ·
  have h10' : (!feeOk d.Base d.Ppm e.Amt || !amtB (e.Amt + feeV d.Base d.Ppm e.Amt)) = true:=by
   unfold sumOk at h10
   cases h1 : feeOk d.Base d.Ppm e.Amt <;> cases h3 : amtB (e.Amt + feeV d.Base d.Ppm e.Amt) <;> simp_all
  rw [zwu h9 h2 (by omega) h10,h10']
  simp [failF,h6,h6',h14]
 have h10' : (!feeOk d.Base d.Ppm e.Amt || !amtB (e.Amt + feeV d.Base d.Ppm e.Amt)) = false:=by
  unfold sumOk at h10
  simp only [Bool.and_eq_true] at h10
  rw [h10.1,h10.2]
  rfl
 have ha : sumV d e = e.Amt + feeV d.Base d.Ppm e.Amt:=by
  unfold sumOk at h10
  simp only [Bool.and_eq_true] at h10
  unfold sumV addV
  rw [if_pos h10.2]
 rw [ha,h10']
 by_cases h11 : f.Remote < e.Amt + feeV d.Base d.Ppm e.Amt
 ·
  rw [zps h9 h2 (by omega) h10 h11]
  simp [failF,h6,h6',h14,h11]
 by_cases h12 : d.Local < e.Amt
 ·
  rw [zpt h9 h2 (by omega) h10 (by omega) h12]
  simp [failF,h6,h6',h14,h12,h11]
 refine ⟨fun h => absurd ?_ h,fun _ => ⟨rfl,by omega,by omega,h2,by omega,rfl,by omega,by omega⟩⟩
 simp [failF,h6,h6',h14,h12,h11]
set_option maxRecDepth 100000 in
set_option maxHeartbeats 8000000 in
theorem i_admit (w0 w : World) (B X : Nat) (b : Bk) (A1 A2 A3 A4 : Option Addr) (p1 p2 p3 p4 : Nat) (e : Event) (hF : BookFacts b.t b.n b.w b.cs b.hs b.os) (ha : amtB e.Amt = true) (hne : e.Ch ≠ e.To) (h : Wk 136 w0 w B X b [] 0 A1 A2 A3 A4 p1 p2 p3 p4) :
  Calls Tryz.prog 92 #[.pointer (some ⟨X,0,none⟩),.agg #[.int .i64 e.Kind,.int .i64 e.Key,.int .i64 e.Ch,.int .i64 e.To,.int .i64 e.Amt,.int .i64 e.Fee,.bool e.Yes]] w (Acts 136 w B X (admitS b e (chanOf b.cs e.Ch) (chanOf b.cs e.To))):=by
 have H:=hd_ h.here
 clear h
 have hcl:=hF.cl
 have h60:=hF.small.hl
 have h20:=hF.small.ol
 obtain ⟨ae1,ae2⟩:=zja.1 ha
 have HAA:=hd_ ha
 have HNE:=hd_ hne
 have HSM:=hd_ hF.small
 have HBD:=hd_ (zjd hF)
 clear hF ha hne
 obtain ⟨i0,hi,hz0,hz1,hz2⟩:=info_parts zjy
 have HI0:=hd_ hi
 have HI1:=hd_ hz0
 have HI2:=hd_ hz1
 have HI3:=hd_ hz2
 clear hi hz0 hz1 hz2
 obtain ⟨a,af,az⟩:=opc_ H.out.open_
 go_enter Tryz.func92,Tryz.ntmps92
 go_wp2_with fail
 have HW_w:=H
 clear a af az
 refine nm_ ?_
 intro w1 hw
 obtain ⟨EB,hB9⟩ : ∃ v9,v9 = w.heap.size:=⟨_,rfl⟩
 try rw [← hB9]
 have HW1:=wka_ hw HW_w
 have HE1 : Hid (Hx w1 EB (evC e) 64):=hd_ (by rw [hw,hB9];exact zqi rfl)
 have HXE : Hid (EB ≠ X):=hd_ (by have:=HW_w.out.lt;omega)
 clear hw hB9
 obtain ⟨a,af,az⟩:=opc_ HW1.out.open_
 have jE:=bd7_ HE1
 refine zql (fun w' => kqiiissss w' X b.t b.n b.w A1 b.cs.length p1 A2 b.hs.length p2 A3 b.os.length p3 A4 ([].length) p4 (kqE_ w' EB e)) [yF 0 11,yF 1 12,yF 2 13,yF 3 14,yF 4 15,yF 5 16,yF 6 17,yT 7 18,yT 8 19] (by kernel_rfl) (by kernel_rfl) (by kernel_rfl) (q78_ a jE) (fun hH => ?_)
 obtain ⟨w2,hwd⟩ : ∃ wd,w1.drew = wd:=⟨_,rfl⟩
 have HW2:=wkd_ hwd HW1
 have HE2:=hr_ hwd HE1
 clear a af az jE
 rw [hwd] at hH ⊢
 clear hwd
 obtain ⟨a,af,az⟩:=opc_ HW2.out.open_
 have jE:=bd7_ HE2
 refine tk_ ?_
 refine ss_ (fun K hK => ?_)
 go_simp
 refine (i_known b.t b.n b.w b.cs b.hs b.os _ _ _ _ _ _ e.Key _ (by omega) (by omega) ⟨HW2.out.o.c.rd,HW2.out.o.h.rd,HW2.out.o.o.rd⟩).mono ?_
 rintro e' w3 ⟨rfl,hb⟩
 have HW3:=hd_ (HW2.out.below hb)
 have HE3:=hb_ hb HE2
 clear hb
 go_simp
 refine hK.out _ _ (q78_ (opc_ HW3.out.open_).1 (bd7_ HE3)) (fun hH => ?_)
 clear hK K
 refine tk_ ?_
 refine ss_ (fun K hK => ?_)
 go_simp
 refine (zjf _ _ B X b [] 0 A1 A2 A3 A4 p1 p2 p3 p4 (hasB (keysOf b.hs b.os) e.Key) 9 HW3).mono ?_
 rintro e' w4 ⟨rfl,hh,ho⟩
 have HW4:=hd_ (HW3.out.trans hh)
 have HE4:=hd_ (ho _ _ HXE HE3)
 clear hh ho
 clear a af az jE
 obtain ⟨a,af,az⟩:=opc_ HW4.out.open_
 have jE:=bd7_ HE4
 go_simp
 refine hK.out _ _ (q78_ a jE) (fun hH => ?_)
 clear hK K
 refine tk_ ?_
 refine Sq.done (NoPanic.normal ?_)
 go_wp2_with fail
 refine (i_ch _ _ B X b [] (failF 0 (hasB (keysOf b.hs b.os) e.Key) 9) A1 A2 A3 A4 p1 p2 p3 p4 e.Ch (by (try simp only);omega) HW4).mono ?_
 rintro e' w5 ⟨gF,oF,cF,rfl,hat,hgx,hh,ho,hf⟩
 have PXF:=hd_ hgx
 have HFF:=hd_ hf
 have HW5:=hd_ (HW4.out.trans hh)
 have HE5:=hd_ (ho _ _ HXE HE4)
 have PF_w5:=hd_ hat
 clear hat hgx hh ho hf
 clear a af az jE
 obtain ⟨a,af,az⟩:=opc_ HW5.out.open_
 have jE:=bd7_ HE5
 go_wp2_with fail
 refine (i_ch _ _ B X b [] (failF (failF 0 (hasB (keysOf b.hs b.os) e.Key) 9) (decide (chanIx (b : Bk).cs e.Ch < 0)) 6) A1 A2 A3 A4 p1 p2 p3 p4 e.To (by (try simp only);omega) HW5).mono ?_
 rintro e' w6 ⟨gT,oT,cT,rfl,hat,hgx,hh,ho,hf⟩
 have PXT:=hd_ hgx
 have HFT:=hd_ hf
 have HW6:=hd_ (HW5.out.trans hh)
 have HE6:=hd_ (ho _ _ HXE HE5)
 have PF_w6:=hd_ (PF_w5.out.only ho PXF.out)
 have PT_w6:=hd_ hat
 clear hat hgx hh ho hf
 clear a af az jE
 obtain ⟨a,af,az⟩:=opc_ HW6.out.open_
 have jE:=bd7_ HE6
 go_wp2_with fail
 refine (zjf _ _ B X b [] (failF (failF (failF 0 (hasB (keysOf b.hs b.os) e.Key) 9) (decide (chanIx (b : Bk).cs e.Ch < 0)) 6) (decide (chanIx (b : Bk).cs e.To < 0)) 6) A1 A2 A3 A4 p1 p2 p3 p4 (decide ((60 : Int) ≤ (b.hs.length : Int))) 14 HW6).mono ?_
 rintro e' w7 ⟨rfl,hh,ho⟩
 have HW7:=hd_ (HW6.out.trans hh)
 have HE7:=hd_ (ho _ _ HXE HE6)
 have PF_w7:=hd_ (PF_w6.out.only ho PXF.out)
 have PT_w7:=hd_ (PT_w6.out.only ho PXT.out)
 clear hh ho
 clear a af az jE
 obtain ⟨a,af,az⟩:=opc_ HW7.out.open_
 have jE:=bd7_ HE7
 have pc0:=PT_w7.out.c0
 have pc1:=PT_w7.out.c1
 have pc2:=PT_w7.out.c2
 have pc3:=PT_w7.out.c3
 have pc4:=PT_w7.out.c4
 have pc5:=PT_w7.out.c5
 have pc6:=PT_w7.out.c6
 go_wp2_with fail
 refine zql (fun w' => kqiiissss w' X b.t b.n b.w A1 b.cs.length p1 A2 b.hs.length p2 A3 b.os.length p3 A4 ([].length) p4 (kqE w' EB e (kqio w' gT (oT + 4) cT.Base (kqio_ w' gT (oT + 5) cT.Ppm)))) [yF 0 38,yF 1 39,yF 2 40,yF 3 41,yF 4 42,yF 5 43,yF 6 44,yF 7 45,yF 8 46,yF 9 47,yT 10 48,yF 11 37,yF 12 49,yF 13 50,yF 14 6,yF 15 7] (by kernel_rfl) (by kernel_rfl) (by kernel_rfl) (q78_ a (q7_ jE ⟨pc4,pc5⟩)) (fun hH => ?_)
 obtain ⟨w8,hwd⟩ : ∃ wd,w7.drew = wd:=⟨_,rfl⟩
 have HW8:=wkd_ hwd HW7
 have HE8:=hr_ hwd HE7
 have PF_w8:=hd_ (show ChAt w8 gF oF cF by rw [← hwd];exact ⟨PF_w7.out.c0,PF_w7.out.c1,PF_w7.out.c2,PF_w7.out.c3,PF_w7.out.c4,PF_w7.out.c5,PF_w7.out.c6⟩)
 have PT_w8:=hd_ (show ChAt w8 gT oT cT by rw [← hwd];exact ⟨PT_w7.out.c0,PT_w7.out.c1,PT_w7.out.c2,PT_w7.out.c3,PT_w7.out.c4,PT_w7.out.c5,PT_w7.out.c6⟩)
 clear a af az jE
 rw [hwd] at hH ⊢
 clear hwd
 obtain ⟨a,af,az⟩:=opc_ HW8.out.open_
 have jE:=bd7_ HE8
 refine tk_ ?_
 clear pc0 pc1 pc2 pc3 pc4 pc5 pc6
 have pc0:=PT_w8.out.c0
 have pc1:=PT_w8.out.c1
 have pc2:=PT_w8.out.c2
 have pc3:=PT_w8.out.c3
 have pc4:=PT_w8.out.c4
 have pc5:=PT_w8.out.c5
 have pc6:=PT_w8.out.c6
 refine tk_ ?_
 refine ss_ (fun K hK => ?_)
 go_simp
 clear pc0 pc1 pc2 pc3 pc4 pc5 pc6
 refine (i_FeeUp cT.Base cT.Ppm e.Amt _).mono ?_
 rintro e' w9 ⟨rfl,hb⟩
 have HW9:=hd_ (HW8.out.below hb)
 have HE9:=hb_ hb HE8
 have PF_w9:=hd_ (PF_w8.out.below hb)
 have PT_w9:=hd_ (PT_w8.out.below hb)
 clear hb
 clear a af az jE
 obtain ⟨a,af,az⟩:=opc_ HW9.out.open_
 have jE:=bd7_ HE9
 obtain ⟨fv,hfv⟩ : ∃ v,v = feeV cT.Base cT.Ppm e.Amt:=⟨_,rfl⟩
 have hfa:=feeV_amt cT.Base cT.Ppm e.Amt
 rw [← hfv] at hfa ⊢
 have HFV:=hd_ hfv
 have HFA:=hd_ hfa
 clear hfv hfa
 obtain ⟨one,hone⟩ : ∃ v,v = feeOk cT.Base cT.Ppm e.Amt:=⟨_,rfl⟩
 rw [← hone]
 have HONE:=hd_ hone
 clear hone
 go_simp
 refine hK.out _ _ (q78_ a (q7_ jE ⟨PT_w9.out.c4,PT_w9.out.c5⟩)) (fun hH => ?_)
 clear hK K
 refine tk_ ?_
 refine Sq.done (NoPanic.normal ?_)
 go_wp2_with fail
 refine (zhs e.Amt fv _ HAA HFA).mono ?_
 rintro e' wz ⟨rfl,rfl⟩
 obtain ⟨sm,hsm⟩ : ∃ v,v = addV e.Amt fv:=⟨_,rfl⟩
 rw [← hsm]
 have HSUM:=hd_ hsm
 clear hsm
 obtain ⟨two,htwo⟩ : ∃ v,v = amtB (e.Amt + fv):=⟨_,rfl⟩
 rw [← htwo]
 have HTWO:=hd_ htwo
 clear htwo
 obtain ⟨nk,hnk⟩ : ∃ v,v = (!one || !two):=⟨_,rfl⟩
 have HNK:=hd_ hnk
 have HCALL : Hid (one = false → nk = true):=hd_ (fun h9 => by rw [hnk,h9];rfl)
 clear hnk
 cases hone2 : one
 ·
  have hnk2 : nk = true:=by rw [HNK.out,hone2];rfl
  clear hone2
  go_wp2_with fail
  rw [← hnk2]
  clear hnk2
  refine (zjf _ _ B X b [] (failF (failF (failF (failF 0 (hasB (keysOf b.hs b.os) e.Key) 9) (decide (chanIx (b : Bk).cs e.Ch < 0)) 6) (decide (chanIx (b : Bk).cs e.To < 0)) 6) (decide ((60 : Int) ≤ (b.hs.length : Int))) 14) A1 A2 A3 A4 p1 p2 p3 p4 nk 10 HW9).mono ?_
  rintro e' w10 ⟨rfl,hh,ho⟩
  have HW10:=hd_ (HW9.out.trans hh)
  have HE10:=hd_ (ho _ _ HXE HE9)
  have PF_w10:=hd_ (PF_w9.out.only ho PXF.out)
  have PT_w10:=hd_ (PT_w9.out.only ho PXT.out)
  clear hh ho
  clear a af az jE
  obtain ⟨a,af,az⟩:=opc_ HW10.out.open_
  have jE:=bd7_ HE10
  have pc0:=PF_w10.out.c0
  have pc1:=PF_w10.out.c1
  have pc2:=PF_w10.out.c2
  have pc3:=PF_w10.out.c3
  have pc4:=PF_w10.out.c4
  have pc5:=PF_w10.out.c5
  have pc6:=PF_w10.out.c6
  go_wp2_with fail
  refine (zjf _ _ B X b [] (failF (failF (failF (failF (failF 0 (hasB (keysOf b.hs b.os) e.Key) 9) (decide (chanIx (b : Bk).cs e.Ch < 0)) 6) (decide (chanIx (b : Bk).cs e.To < 0)) 6) (decide ((60 : Int) ≤ (b.hs.length : Int))) 14) nk 10) A1 A2 A3 A4 p1 p2 p3 p4 (decide (cF.Remote < sm)) 11 HW10).mono ?_
  rintro e' w11 ⟨rfl,hh,ho⟩
  have HW11:=hd_ (HW10.out.trans hh)
  have HE11:=hd_ (ho _ _ HXE HE10)
  have PF_w11:=hd_ (PF_w10.out.only ho PXF.out)
  have PT_w11:=hd_ (PT_w10.out.only ho PXT.out)
  clear hh ho
  clear a af az jE
  obtain ⟨a,af,az⟩:=opc_ HW11.out.open_
  have jE:=bd7_ HE11
  clear pc0 pc1 pc2 pc3 pc4 pc5 pc6
  have pc0:=PT_w11.out.c0
  have pc1:=PT_w11.out.c1
  have pc2:=PT_w11.out.c2
  have pc3:=PT_w11.out.c3
  have pc4:=PT_w11.out.c4
  have pc5:=PT_w11.out.c5
  have pc6:=PT_w11.out.c6
  go_wp2_with fail
  refine zql (fun w' => kqiiissss w' X b.t b.n b.w A1 b.cs.length p1 A2 b.hs.length p2 A3 b.os.length p3 A4 ([].length) p4 (kqE w' EB e (kqio_ w' gT (oT + 2) cT.Local))) [yF 0 74,yF 1 75,yF 2 76,yF 3 77,yF 4 78,yF 5 79,yF 6 80,yF 7 81,yT 8 82] (by kernel_rfl) (by kernel_rfl) (by kernel_rfl) (q78_ a (q7_ jE pc2)) (fun hH => ?_)
  obtain ⟨w12,hwd⟩ : ∃ wd,w11.drew = wd:=⟨_,rfl⟩
  have HW12:=wkd_ hwd HW11
  have HE12:=hr_ hwd HE11
  have PF_w12:=hd_ (show ChAt w12 gF oF cF by rw [← hwd];exact ⟨PF_w11.out.c0,PF_w11.out.c1,PF_w11.out.c2,PF_w11.out.c3,PF_w11.out.c4,PF_w11.out.c5,PF_w11.out.c6⟩)
  have PT_w12:=hd_ (show ChAt w12 gT oT cT by rw [← hwd];exact ⟨PT_w11.out.c0,PT_w11.out.c1,PT_w11.out.c2,PT_w11.out.c3,PT_w11.out.c4,PT_w11.out.c5,PT_w11.out.c6⟩)
  clear a af az jE
  rw [hwd] at hH ⊢
  clear hwd
  obtain ⟨a,af,az⟩:=opc_ HW12.out.open_
  have jE:=bd7_ HE12
  refine tk_ ?_
  clear pc0 pc1 pc2 pc3 pc4 pc5 pc6
  have pc0:=PT_w12.out.c0
  have pc1:=PT_w12.out.c1
  have pc2:=PT_w12.out.c2
  have pc3:=PT_w12.out.c3
  have pc4:=PT_w12.out.c4
  have pc5:=PT_w12.out.c5
  have pc6:=PT_w12.out.c6
  refine tk_ ?_
  refine ss_ (fun K hK => ?_)
  go_simp
  clear pc0 pc1 pc2 pc3 pc4 pc5 pc6
  refine (zjf _ _ B X b [] (failF (failF (failF (failF (failF (failF 0 (hasB (keysOf b.hs b.os) e.Key) 9) (decide (chanIx (b : Bk).cs e.Ch < 0)) 6) (decide (chanIx (b : Bk).cs e.To < 0)) 6) (decide ((60 : Int) ≤ (b.hs.length : Int))) 14) nk 10) (decide (cF.Remote < sm)) 11) A1 A2 A3 A4 p1 p2 p3 p4 (decide (cT.Local < e.Amt)) 12 HW12).mono ?_
  rintro e' w13 ⟨rfl,hh,ho⟩
  have HW13:=hd_ (HW12.out.trans hh)
  have HE13:=hd_ (ho _ _ HXE HE12)
  have PF_w13:=hd_ (PF_w12.out.only ho PXF.out)
  have PT_w13:=hd_ (PT_w12.out.only ho PXT.out)
  clear hh ho
  clear a af az jE
  obtain ⟨a,af,az⟩:=opc_ HW13.out.open_
  have jE:=bd7_ HE13
  go_simp
  refine hK.out _ _ (q78_ a (q7_ jE PT_w13.out.c2)) (fun hH => ?_)
  clear hK K
  refine tk_ ?_
  refine Sq.done (NoPanic.normal ?_)
  obtain ⟨cd,hcd⟩ : ∃ v,v = (failF (failF (failF (failF (failF (failF (failF 0 (hasB (keysOf b.hs b.os) e.Key) 9) (decide (chanIx (b : Bk).cs e.Ch < 0)) 6) (decide (chanIx (b : Bk).cs e.To < 0)) 6) (decide ((60 : Int) ≤ (b.hs.length : Int))) 14) nk 10) (decide (cF.Remote < sm)) 11) (decide (cT.Local < e.Amt)) 12):=⟨_,rfl⟩
  rw [← hcd] at HW13
  have HCcd:=hd_ hcd
  clear hcd
  clear a af az jE
  obtain ⟨a,af,az⟩:=opc_ HW13.out.open_
  have jE:=bd7_ HE13
  have hcd9 : cd = failF (failF (failF (failF (failF (failF (failF 0 (hasB (keysOf b.hs b.os) e.Key) 9) (decide (chanIx b.cs e.Ch < 0)) 6) (decide (chanIx b.cs e.To < 0)) 6) (decide ((60 : Int) ≤ (b.hs.length : Int))) 14) (!feeOk cT.Base cT.Ppm e.Amt || !amtB (e.Amt + feeV cT.Base cT.Ppm e.Amt)) 10) (decide (cF.Remote < sumV cT e)) 11) (decide (cT.Local < e.Amt)) 12:=by unfold sumV;rw [HCcd.out,HNK.out,HSUM.out,HTWO.out,← HONE.out,HFV.out]
  obtain ⟨hcA,hcB⟩:=zts HNE h60 (fun h9 => (HFF.out h9).2.2) (fun h9 => (HFT.out h9).2.2) hcd9
  have HCA:=hd_ hcA
  have HCB:=hd_ hcB
  clear hcA hcB hcd9
  cases tc : (cd != 0)
  rotate_left
  ·
   have hne : cd ≠ 0:=by simpa using tc
   have tc2 : (cd == 0) = false:=by rw [beq_eq_false_iff_ne];exact hne
   go_wp2_with fail
   go_end0
   rw [HCA.out hne]
   exact Acts.no hne ⟨_,_,_,_,_,_,_,_,rfl,HW13.out⟩
  have hcd0 : cd = 0:=by simpa using tc
  have tc2 : (cd == 0) = true:=by rw [hcd0];rfl
  obtain ⟨c9,mi,mo,c6,c14,c10,c11,c12⟩:=HCB.out hcd0
  have hsm2 : sm = e.Amt + fv:=by rw [HSUM.out];unfold addV;rw [if_pos];unfold sumOk at c10;simp only [Bool.and_eq_true] at c10;rw [HFV.out];exact c10.2
  have hsa : amtB sm = true:=by rw [hsm2,HFV.out];unfold sumOk at c10;simp only [Bool.and_eq_true] at c10;exact c10.2
  obtain ⟨am1,am2⟩:=zja.1 hsa
  rw [← HFV.out,← hsm2] at c11
  clear hsa
  obtain ⟨hA,hoF,hcF⟩:=HFF.out mi
  obtain ⟨hA2,hoT,hcT⟩:=HFT.out mo
  have HCF:=hd_ hcF
  have HCT:=hd_ hcT
  have HSM2:=hd_ hsm2
  have HC9:=hd_ c9
  have HC6:=hd_ c6
  have HC10:=hd_ c10
  have KA:=hd_ hA
  have KF:=hd_ hoF
  have KA2:=hd_ hA2
  have KT:=hd_ hoT
  clear hcF hcT hsm2 c9 c6 c10 hA hoF hA2 hoT
  have pc0:=PF_w13.out.c0
  have pc1:=PF_w13.out.c1
  have pc2:=PF_w13.out.c2
  have pc3:=PF_w13.out.c3
  have pc4:=PF_w13.out.c4
  have pc5:=PF_w13.out.c5
  have pc6:=PF_w13.out.c6
  have qc0:=PT_w13.out.c0
  have qc1:=PT_w13.out.c1
  have qc2:=PT_w13.out.c2
  have qc3:=PT_w13.out.c3
  have qc4:=PT_w13.out.c4
  have qc5:=PT_w13.out.c5
  have qc6:=PT_w13.out.c6
  go_wp2_with fail
  refine zql (fun w' => kqiiissss w' X b.t b.n b.w A1 b.cs.length p1 A2 b.hs.length p2 A3 b.os.length p3 A4 ([].length) p4 (kqE w' EB e (kqiiiiiiio w' gF oF cF.Id cF.Size cF.Local cF.Remote cF.Base cF.Ppm cF.Score (kqiiiiiiio_ w' gT oT cT.Id cT.Size cT.Local cT.Remote cT.Base cT.Ppm cT.Score)))) [yF 0 88,yF 1 89,yF 2 90,yF 3 91,yF 4 92,yF 5 93,yF 6 94,yF 7 95,yT 8 96,yF 9 10] (by kernel_rfl) (by kernel_rfl) (by kernel_rfl) (q78_ a (q7_ jE ⟨pc0,pc1,pc2,pc3,pc4,pc5,pc6,qc0,qc1,qc2,qc3,qc4,qc5,qc6⟩)) (fun hH => ?_)
  obtain ⟨w14,hwd⟩ : ∃ wd,w13.drew = wd:=⟨_,rfl⟩
  have HW14:=wkd_ hwd HW13
  have HE14:=hr_ hwd HE13
  have PF_w14:=hd_ (show ChAt w14 gF oF cF by rw [← hwd];exact ⟨PF_w13.out.c0,PF_w13.out.c1,PF_w13.out.c2,PF_w13.out.c3,PF_w13.out.c4,PF_w13.out.c5,PF_w13.out.c6⟩)
  have PT_w14:=hd_ (show ChAt w14 gT oT cT by rw [← hwd];exact ⟨PT_w13.out.c0,PT_w13.out.c1,PT_w13.out.c2,PT_w13.out.c3,PT_w13.out.c4,PT_w13.out.c5,PT_w13.out.c6⟩)
  clear a af az jE
  rw [hwd] at hH ⊢
  clear hwd
  obtain ⟨a,af,az⟩:=opc_ HW14.out.open_
  have jE:=bd7_ HE14
  refine tk_ ?_
  clear pc0 pc1 pc2 pc3 pc4 pc5 pc6 qc0 qc1 qc2 qc3 qc4 qc5 qc6
  have pc0:=PF_w14.out.c0
  have pc1:=PF_w14.out.c1
  have pc2:=PF_w14.out.c2
  have pc3:=PF_w14.out.c3
  have pc4:=PF_w14.out.c4
  have pc5:=PF_w14.out.c5
  have pc6:=PF_w14.out.c6
  have qc0:=PT_w14.out.c0
  have qc1:=PT_w14.out.c1
  have qc2:=PT_w14.out.c2
  have qc3:=PT_w14.out.c3
  have qc4:=PT_w14.out.c4
  have qc5:=PT_w14.out.c5
  have qc6:=PT_w14.out.c6
  refine tk_ ?_
  refine ss_ (fun K hK => ?_)
  go_simp
  clear pc0 pc1 pc2 pc3 pc4 pc5 pc6 qc0 qc1 qc2 qc3 qc4 qc5 qc6
  refine (zgp _ _ B X b [] cd A1 A2 A3 A4 p1 p2 p3 p4 cF cT e HSM HW14).mono ?_
  rintro e' w15 ⟨rfl,hb⟩
  have HW15:=hd_ (HW14.out.below hb)
  have HE15:=hb_ hb HE14
  have PF_w15:=hd_ (PF_w14.out.below hb)
  have PT_w15:=hd_ (PT_w14.out.below hb)
  clear hb
  clear a af az jE
  obtain ⟨a,af,az⟩:=opc_ HW15.out.open_
  have jE:=bd7_ HE15
  obtain ⟨rm,hrm⟩ : ∃ v,v = roomF b.hs cT e.To e.Amt cF.Score e.Yes:=⟨_,rfl⟩
  rw [← hrm]
  have HRM:=hd_ hrm
  clear hrm
  go_simp
  refine hK.out _ _ (q78_ a (q7_ jE ⟨PF_w15.out.c0,PF_w15.out.c1,PF_w15.out.c2,PF_w15.out.c3,PF_w15.out.c4,PF_w15.out.c5,PF_w15.out.c6,PT_w15.out.c0,PT_w15.out.c1,PT_w15.out.c2,PT_w15.out.c3,PT_w15.out.c4,PT_w15.out.c5,PT_w15.out.c6⟩)) (fun hH => ?_)
  clear hK K
  refine tk_ ?_
  refine Sq.done (NoPanic.normal ?_)
  go_wp2_with fail
  refine (zjf _ _ B X b [] cd A1 A2 A3 A4 p1 p2 p3 p4 (rm == 0) 13 HW15).mono ?_
  rintro e' w16 ⟨rfl,hh,ho⟩
  have HW16:=hd_ (HW15.out.trans hh)
  have HE16:=hd_ (ho _ _ HXE HE15)
  have PF_w16:=hd_ (PF_w15.out.only ho PXF.out)
  have PT_w16:=hd_ (PT_w15.out.only ho PXT.out)
  clear hh ho
  clear a af az jE
  obtain ⟨a,af,az⟩:=opc_ HW16.out.open_
  have jE:=bd7_ HE16
  have hid : (chanOf b.cs e.To).Id = e.To:=zgb mo
  have HRM2 : Hid (roomF b.hs (chanOf b.cs e.To) (chanOf b.cs e.To).Id e.Amt (chanOf b.cs e.Ch).Score e.Yes = rm):=hd_ (by rw [hid,← HCF.out,← HCT.out];exact HRM.out.symm)
  clear hid
  cases tr : (rm == 0)
  rotate_left
  ·
   have hrm0:=eq_of_beq tr
   clear a af az jE
   rw [tr,hcd0,show failF 0 true 13 = 13 from rfl] at HW16
   obtain ⟨a,af,az⟩:=opc_ HW16.out.open_
   have jE:=bd7_ HE16
   have HO:=hd_ (zyf (b:=b) (e:=e) (i:=chanOf b.cs e.Ch) (o:=chanOf b.cs e.To) HC9 HC6 c14 (by have:=HC10.out;rw [HCT.out] at this;exact this) (by rw [← HCF.out,← HCT.out,← HFV.out,← HSM2.out];exact c11) (by rw [← HCT.out];exact c12) (by rw [HRM2.out];exact hrm0))
   go_wp2_with fail
   go_end0
   rw [HO.out]
   exact Acts.no (by decide) ⟨_,_,_,_,_,_,_,_,rfl,HW16.out⟩
  have hrm0 : rm ≠ 0:=by simpa using tr
  clear a af az jE
  rw [tr,zkj,hcd0] at HW16
  obtain ⟨a,af,az⟩:=opc_ HW16.out.open_
  have jE:=bd7_ HE16
  have HO:=hd_ (zyg (b:=b) (e:=e) (i:=chanOf b.cs e.Ch) (o:=chanOf b.cs e.To) HC9 HC6 c14 (by have:=HC10.out;rw [HCT.out] at this;exact this) (by rw [← HCF.out,← HCT.out,← HFV.out,← HSM2.out];exact c11) (by rw [← HCT.out];exact c12) (by rw [HRM2.out];exact hrm0))
  obtain ⟨u,hu⟩:=Int.eq_ofNat_of_zero_le mi
  obtain ⟨v,hv⟩:=Int.eq_ofNat_of_zero_le mo
  have hlu:=zxm hu
  have hlv:=zxm hv
  have HU:=hd_ hu
  have HV:=hd_ hv
  have hA:=KA.out
  have hA2:=KA2.out
  have hoF:=KF.out
  have hoT:=KT.out
  clear KA KA2 KF KT
  subst hA
  injection hA2 with hA2
  injection hA2 with hA2
  subst hA2
  rw [hu,Int.toNat_natCast] at hoF
  rw [hv,Int.toNat_natCast] at hoT
  subst hoF hoT
  clear hu hv mi mo
  clear a af az jE
  obtain ⟨a,af,az⟩:=opc_ HW16.out.open_
  have jE:=bd7_ HE16
  go_wp2_with fail
  refine zqs (fun w' => kqiiissss w' X b.t b.n b.w (some ⟨gF,0,none⟩) b.cs.length p1 A2 b.hs.length p2 A3 b.os.length p3 A4 ([].length) p4 (kqE_ w' EB e)) [yF 0 106,yF 1 107,yF 2 108,yF 3 109,yF 4 110,yF 5 111,yF 6 112,yF 7 113,yF 8 114,yF 9 115,yF 10 116,yF 11 117,yF 12 118,yF 13 119,yF 14 120,yF 15 121,yF 16 122,yF 17 123,yT 18 124,yT 19 125,yF 20 126,yF 21 127,yF 22 128] rfl (by kernel_rfl) (by kernel_rfl) (by kernel_rfl) (by kernel_rfl) (by kernel_rfl) (by kernel_rfl) (q78_ a jE) (fun hH => ?_)
  obtain ⟨w17,hwd⟩ : ∃ wd,w16.drew = wd:=⟨_,rfl⟩
  have HW17:=wkd_ hwd HW16
  have HE17:=hr_ hwd HE16
  clear a af az jE
  rw [hwd] at hH ⊢
  clear hwd
  obtain ⟨a,af,az⟩:=opc_ HW17.out.open_
  have jE:=bd7_ HE17
  refine tk_ ?_
  refine ss_ (fun K hK => ?_)
  go_simp
  refine zxu (fun w18 hw => ?_)
  have HW18:=wka_ hw HW17
  have HE18:=ha_ hw HE17
  have HB : Hid (w18.heap[w17.heap.size]? = some (.cells #[.int .i64 e.Key,.int .i64 e.Ch,.int .i64 e.To,.int .i64 sm,.int .i64 e.Amt,.bool (rm == 2),.int .i64 0] 70 (0,0))):=hd_ (by rw [hw];exact zqi rfl)
  clear hw
  clear a af az jE
  obtain ⟨a,af,az⟩:=opc_ HW18.out.open_
  have jE:=bd7_ HE18
  go_simp
  refine hK.out _ _ (q78_ a jE) (fun hH => ?_)
  clear hK K
  refine tk_ ?_
  refine ss_ (fun K hK => ?_)
  refine zje (ops:=#[]) (E:=True) rfl (zks rfl _ _ _ rfl B 70 i0 _ 7 56 Tryz.underlying36 HI0 HI1 HI2 HI3 rfl (by decide) (.slice A2 b.hs.length p2) _ (by rfl) HW18.out.o.h w17.heap.size 1 [.int .i64 e.Key,.int .i64 e.Ch,.int .i64 e.To,.int .i64 sm,.int .i64 e.Amt,.bool (rm == 2),.int .i64 0] 70 (by rfl) HB rfl (by simp [Value.oneCell']) (by rw [List.length_map];omega) (by decide) HW18.out.ble ?_)
  intro g2 cap2 w19 how2 hgr2 hat2 hlt2
  have HA:=hd_ (HW18.out.appH (by decide) (by decide) (by decide) (by decide) (c:=⟨e.Key,e.Ch,e.To,sm,e.Amt,(rm == 2),0⟩) how2 hgr2)
  have HE19 : Hid (Hx w19 EB (evC e) 64):=hd_ (zqe hgr2 (HW18.out.o.h.ne_ HE18 (by decide)) HE18)
  clear how2 hgr2 hat2 HB
  rw [List.length_map]
  clear a af az jE
  obtain ⟨_,a,af,az⟩:=opd_ (own8 HA.out.1)
  have jE:=bd7_ HE19
  go_simp
  refine hK.out _ _ (q78_ a jE) (fun hH => ?_)
  clear hK K
  refine tk_ ?_
  refine Sq.done ?_
  intro KK hKK
  go_simp
  refine hKK _ _ (NoPanic.normal ?_)
  refine nm_ ?_
  intro w20 hw
  have HW20 : Hid (Wk 136 w w20 B X ⟨b.t,b.n,b.w,b.cs,(b.hs ++ [⟨e.Key,e.Ch,e.To,sm,e.Amt,(rm == 2),0⟩]),b.os⟩ [] 0 (some ⟨gF,0,none⟩) (some ⟨g2,0,none⟩) A3 A4 p1 cap2 p3 p4):=hd_ (by rw [hw];exact HA.out.2)
  have HE20:=hf_ hw HXE HE19
  clear hw
  clear a af az jE
  obtain ⟨a,af,az⟩:=opc_ HW20.out.open_
  have jE:=bd7_ HE20
  clear HA
  obtain ⟨hs1,hhs1⟩ : ∃ l,b.hs ++ [(⟨e.Key,e.Ch,e.To,sm,e.Amt,rm == 2,0⟩ : Htlc)] = l:=⟨_,rfl⟩
  rw [hhs1] at HW20
  have HHS1:=hd_ hhs1
  clear hhs1
  clear a af az jE
  obtain ⟨a,af,az⟩:=opc_ HW20.out.open_
  have jE:=bd7_ HE20
  obtain ⟨c,hc⟩ : ∃ c,b.cs[u]'hlu = c:=⟨_,rfl⟩
  have hr : (b.cs.map Chan.cells)[u]? = some c.cells:=by rw [List.getElem?_map,List.getElem?_eq_getElem hlu,hc];rfl
  obtain ⟨y0,y1,y2,y3,y4,y5,y6⟩:=c
  have HRowy:=hd_ hr
  have HCIy:=hd_ hc
  clear hr hc
  have hb1:=HBD.out _ (List.getElem_mem hlu)
  rw [HCIy.out] at hb1
  simp only at hb1
  have yc:=HW20.out.o.c.cellAt HRowy (j:=3) (by decide)
  simp only [Chan.cells,List.getElem?_cons_zero,List.getElem?_cons_succ] at yc
  have yf:=fun j => HW20.out.o.c.frozenAt j
  go_upto_region 17 with fail
  clear yc yf
  refine nm_ ?_
  intro w21 hw
  have HW21 : Hid (Wk 136 w w21 B X ⟨b.t,b.n,b.w,(b.cs.set u ⟨y0,y1,y2,(y3 - sm),y4,y5,y6⟩),hs1,b.os⟩ [] 0 (some ⟨gF,0,none⟩) (some ⟨g2,0,none⟩) A3 A4 p1 cap2 p3 p4):=hd_ (by rw [hw];exact HW20.out.putCell (c':=⟨y0,y1,y2,(y3 - sm),y4,y5,y6⟩) (by decide) hlu (by decide) (by rw [HCIy.out];rfl))
  have HE21:=hf_ hw (fun e9 => HW20.out.o.c.ne_ HE20 (by decide) (by rw [e9];rfl)) HE20
  clear hw
  clear a af az jE
  obtain ⟨a,af,az⟩:=opc_ HW21.out.open_
  have jE:=bd7_ HE21
  obtain ⟨cs1,hc3⟩ : ∃ v9,(b.cs.set u ⟨y0,y1,y2,(y3 - sm),y4,y5,y6⟩) = v9:=⟨_,rfl⟩
  rw [hc3] at HW21
  have Hcs1:=hd_ hc3
  clear hc3
  clear a af az jE
  obtain ⟨a,af,az⟩:=opc_ HW21.out.open_
  have jE:=bd7_ HE21
  have HM1 : Hid (moveC b.cs e.Ch 0 (-sm) = cs1):=hd_ (by rw [← Hcs1.out,zwr HU hlu HCIy.out];rw [Int.sub_eq_add_neg])
  have hix1 : ∀ ch,chanIx cs1 ch = chanIx b.cs ch:=by rw [← HM1.out];exact fun ch => zxn _ _ _ _ ch
  have hl1 : cs1.length = b.cs.length:=by rw [← HM1.out];exact zxg _ _ _ _
  have HBD1 : Hid (Bd (1125899906842624 + 1125899906842624) cs1):=hd_ (by rw [← HM1.out];exact HBD.out.move _ _ _ (by omega) (by omega))
  have hlv1 : v < cs1.length:=by omega
  have HIX1:=hd_ hix1
  clear hix1
  obtain ⟨c,hc⟩ : ∃ c,cs1[v]'hlv1 = c:=⟨_,rfl⟩
  have hr : (cs1.map Chan.cells)[v]? = some c.cells:=by rw [List.getElem?_map,List.getElem?_eq_getElem hlv1,hc];rfl
  obtain ⟨z0,z1,z2,z3,z4,z5,z6⟩:=c
  have HRowz:=hd_ hr
  have HCIz:=hd_ hc
  clear hr hc
  have hb2:=HBD1.out _ (List.getElem_mem hlv1)
  rw [HCIz.out] at hb2
  simp only at hb2
  have ws : IntKind.i64.wrap (z2 - e.Amt) = z2 - e.Amt:=IntWalk.i64_in _ ⟨by omega,by omega⟩
  have yc:=HW21.out.o.c.cellAt HRowz (j:=2) (by decide)
  simp only [Chan.cells,List.getElem?_cons_zero,List.getElem?_cons_succ] at yc
  refine zqs (fun w' => kqiiissss w' X b.t b.n b.w (some ⟨gF,0,none⟩) cs1.length p1 (some ⟨g2,0,none⟩) hs1.length cap2 A3 b.os.length p3 A4 ([].length) p4 (kqE w' EB e (kqio_ w' gF (v * 7 + 2) z2))) [yF 0 137,yF 1 138,yF 2 139,yF 3 140,yF 4 141,yF 5 142,yF 6 143,yF 7 144,yF 8 145] rfl (by kernel_rfl) (by kernel_rfl) (by kernel_rfl) (by kernel_rfl) (by kernel_rfl) (by kernel_rfl) (q78_ a (q7_ jE yc)) (fun hH => ?_)
  obtain ⟨w22,hwd⟩ : ∃ wd,w21.drew = wd:=⟨_,rfl⟩
  have HW22:=wkd_ hwd HW21
  have HE22:=hr_ hwd HE21
  clear a af az jE
  rw [hwd] at hH ⊢
  clear hwd
  obtain ⟨a,af,az⟩:=opc_ HW22.out.open_
  have jE:=bd7_ HE22
  refine tk_ ?_
  clear yc
  have yc:=HW22.out.o.c.cellAt HRowz (j:=2) (by decide)
  simp only [Chan.cells,List.getElem?_cons_zero,List.getElem?_cons_succ] at yc
  have yf:=fun j => HW22.out.o.c.frozenAt j
  refine Sq.done ?_
  intro KK hKK
  go_simp
  refine hKK _ _ (NoPanic.normal ?_)
  clear yc yf
  refine nm_ ?_
  intro w23 hw
  have HW23 : Hid (Wk 136 w w23 B X ⟨b.t,b.n,b.w,(cs1.set v ⟨z0,z1,(z2 - e.Amt),z3,z4,z5,z6⟩),hs1,b.os⟩ [] 0 (some ⟨gF,0,none⟩) (some ⟨g2,0,none⟩) A3 A4 p1 cap2 p3 p4):=hd_ (by rw [hw];exact HW22.out.putCell (c':=⟨z0,z1,(z2 - e.Amt),z3,z4,z5,z6⟩) (by decide) hlv1 (by decide) (by rw [HCIz.out];rfl))
  have HE23:=hf_ hw (fun e9 => HW22.out.o.c.ne_ HE22 (by decide) (by rw [e9];rfl)) HE22
  clear hw
  clear a af az jE
  obtain ⟨a,af,az⟩:=opc_ HW23.out.open_
  have jE:=bd7_ HE23
  obtain ⟨cs2,hc3⟩ : ∃ v9,(cs1.set v ⟨z0,z1,(z2 - e.Amt),z3,z4,z5,z6⟩) = v9:=⟨_,rfl⟩
  rw [hc3] at HW23
  have Hcs2:=hd_ hc3
  clear hc3
  clear a af az jE
  obtain ⟨a,af,az⟩:=opc_ HW23.out.open_
  have jE:=bd7_ HE23
  clear ws
  have HM2 : Hid (moveC cs1 e.To (-e.Amt) 0 = cs2):=hd_ (by rw [← Hcs2.out,zwq (by rw [HIX1.out];exact HV) hlv1 HCIz.out];rw [Int.sub_eq_add_neg])
  go_wp2_with fail
  refine (zjg _ _ B X ⟨b.t,b.n,b.w,cs2,hs1,b.os⟩ [] 0 (some ⟨gF,0,none⟩) (some ⟨g2,0,none⟩) A3 A4 p1 cap2 p3 p4 6 e.To (-e.Amt) (by decide) (by (try simp only);omega) (fun y hy => by cases hy) (fun y hy => by cases hy) HW23).mono ?_
  rintro e' w24 ⟨⟨Cw240,Cw241,Cw242,Cw243,rw240,rw241,rw242,rw243,rfl,hh⟩,ho⟩
  have HE24:=hd_ (ho _ _ HXE HE23)
  obtain ⟨M0,hL9⟩ : ∃ v,lineTo [] 6 e.To (-e.Amt) = v:=⟨_,rfl⟩
  rw [hL9] at hh
  have HMl0:=hd_ hL9
  have HW24:=hd_ (HW23.out.trans hh)
  clear hh ho hL9
  clear a af az jE
  obtain ⟨a,af,az⟩:=opc_ HW24.out.open_
  have jE:=bd7_ HE24
  have HLM0 : Hid (M0.length ≤ 1):=hd_ (by rw [← HMl0.out];have h9:=zqu [] (6) (e.To) ((-e.Amt));have h8 : ([] : List Line).length ≤ 0:=Nat.le_refl _;omega)
  have HQ0 : Hid (∀ y ∈ M0,y = ⟨6,e.To,(-e.Amt)⟩):=hd_ (fun y hy => by rw [← HMl0.out] at hy;rcases zxk (fun y hy => by cases hy) hy with h9 | h9;cases h9;exact h9)
  go_wp2_with fail
  refine (zjg _ _ B X ⟨b.t,b.n,b.w,cs2,hs1,b.os⟩ M0 0 Cw240 Cw241 Cw242 Cw243 rw240 rw241 rw242 rw243 8 e.To e.Amt (by have:=HLM0.out;omega) (by (try simp only);omega) (fun y hy => by rcases HQ0 y hy with rfl <;> (simp only;omega)) (fun y hy => by rcases HQ0 y hy with rfl <;> (simp only;omega)) HW24).mono ?_
  rintro e' w25 ⟨⟨Cw250,Cw251,Cw252,Cw253,rw250,rw251,rw252,rw253,rfl,hh⟩,ho⟩
  have HE25:=hd_ (ho _ _ HXE HE24)
  obtain ⟨M1,hL9⟩ : ∃ v,lineTo M0 8 e.To e.Amt = v:=⟨_,rfl⟩
  rw [hL9] at hh
  have HMl1:=hd_ hL9
  have HW25:=hd_ (HW24.out.trans hh)
  clear hh ho hL9
  clear a af az jE
  obtain ⟨a,af,az⟩:=opc_ HW25.out.open_
  have jE:=bd7_ HE25
  have HLM1 : Hid (M1.length ≤ 2):=hd_ (by rw [← HMl1.out];have h9:=zqu M0 (8) (e.To) (e.Amt);have h8 : (M0).length ≤ 1:=HLM0.out;omega)
  have HQ1 : Hid (∀ y ∈ M1,y = ⟨6,e.To,(-e.Amt)⟩ ∨ y = ⟨8,e.To,e.Amt⟩):=hd_ (fun y hy => by rw [← HMl1.out] at hy;rcases zxk (fun y hy => by rcases HQ0 y hy with rfl <;> (simp only;omega)) hy with h9 | h9;exact HQ0 y h9 |> Or.inl;exact Or.inr h9)
  go_wp2_with fail
  go_end0
  rw [HO.out]
  have HZ : nz [⟨6,e.To,(-e.Amt)⟩,⟨8,e.To,e.Amt⟩] = M1:=by rw [← HMl1.out,← HMl0.out];exact (line2 (by decide)).symm
  rw [HZ,HRM2.out,← HCT.out,← HFV.out,← HSM2.out,HM1.out,HM2.out,HHS1.out]
  exact Acts.ok ⟨_,_,_,_,_,_,_,_,rfl,HW25.out⟩
 have hnk2 : nk = (!two):=by rw [HNK.out,hone2];rfl
 clear hone2
 go_wp2_with fail
 rw [← hnk2]
 clear hnk2
 refine (zjf _ _ B X b [] (failF (failF (failF (failF 0 (hasB (keysOf b.hs b.os) e.Key) 9) (decide (chanIx (b : Bk).cs e.Ch < 0)) 6) (decide (chanIx (b : Bk).cs e.To < 0)) 6) (decide ((60 : Int) ≤ (b.hs.length : Int))) 14) A1 A2 A3 A4 p1 p2 p3 p4 nk 10 HW9).mono ?_
 rintro e' w10 ⟨rfl,hh,ho⟩
 have HW10:=hd_ (HW9.out.trans hh)
 have HE10:=hd_ (ho _ _ HXE HE9)
 have PF_w10:=hd_ (PF_w9.out.only ho PXF.out)
 have PT_w10:=hd_ (PT_w9.out.only ho PXT.out)
 clear hh ho
 clear a af az jE
 obtain ⟨a,af,az⟩:=opc_ HW10.out.open_
 have jE:=bd7_ HE10
 have pc0:=PF_w10.out.c0
 have pc1:=PF_w10.out.c1
 have pc2:=PF_w10.out.c2
 have pc3:=PF_w10.out.c3
 have pc4:=PF_w10.out.c4
 have pc5:=PF_w10.out.c5
 have pc6:=PF_w10.out.c6
 go_wp2_with fail
 refine (zjf _ _ B X b [] (failF (failF (failF (failF (failF 0 (hasB (keysOf b.hs b.os) e.Key) 9) (decide (chanIx (b : Bk).cs e.Ch < 0)) 6) (decide (chanIx (b : Bk).cs e.To < 0)) 6) (decide ((60 : Int) ≤ (b.hs.length : Int))) 14) nk 10) A1 A2 A3 A4 p1 p2 p3 p4 (decide (cF.Remote < sm)) 11 HW10).mono ?_
 rintro e' w11 ⟨rfl,hh,ho⟩
 have HW11:=hd_ (HW10.out.trans hh)
 have HE11:=hd_ (ho _ _ HXE HE10)
 have PF_w11:=hd_ (PF_w10.out.only ho PXF.out)
 have PT_w11:=hd_ (PT_w10.out.only ho PXT.out)
 clear hh ho
 clear a af az jE
 obtain ⟨a,af,az⟩:=opc_ HW11.out.open_
 have jE:=bd7_ HE11
 clear pc0 pc1 pc2 pc3 pc4 pc5 pc6
 have pc0:=PT_w11.out.c0
 have pc1:=PT_w11.out.c1
 have pc2:=PT_w11.out.c2
 have pc3:=PT_w11.out.c3
 have pc4:=PT_w11.out.c4
 have pc5:=PT_w11.out.c5
 have pc6:=PT_w11.out.c6
 go_wp2_with fail
 refine zql (fun w' => kqiiissss w' X b.t b.n b.w A1 b.cs.length p1 A2 b.hs.length p2 A3 b.os.length p3 A4 ([].length) p4 (kqE w' EB e (kqio_ w' gT (oT + 2) cT.Local))) [yF 0 74,yF 1 75,yF 2 76,yF 3 77,yF 4 78,yF 5 79,yF 6 80,yF 7 81,yT 8 82] (by kernel_rfl) (by kernel_rfl) (by kernel_rfl) (q78_ a (q7_ jE pc2)) (fun hH => ?_)
 obtain ⟨w12,hwd⟩ : ∃ wd,w11.drew = wd:=⟨_,rfl⟩
 have HW12:=wkd_ hwd HW11
 have HE12:=hr_ hwd HE11
 have PF_w12:=hd_ (show ChAt w12 gF oF cF by rw [← hwd];exact ⟨PF_w11.out.c0,PF_w11.out.c1,PF_w11.out.c2,PF_w11.out.c3,PF_w11.out.c4,PF_w11.out.c5,PF_w11.out.c6⟩)
 have PT_w12:=hd_ (show ChAt w12 gT oT cT by rw [← hwd];exact ⟨PT_w11.out.c0,PT_w11.out.c1,PT_w11.out.c2,PT_w11.out.c3,PT_w11.out.c4,PT_w11.out.c5,PT_w11.out.c6⟩)
 clear a af az jE
 rw [hwd] at hH ⊢
 clear hwd
 obtain ⟨a,af,az⟩:=opc_ HW12.out.open_
 have jE:=bd7_ HE12
 refine tk_ ?_
 clear pc0 pc1 pc2 pc3 pc4 pc5 pc6
 have pc0:=PT_w12.out.c0
 have pc1:=PT_w12.out.c1
 have pc2:=PT_w12.out.c2
 have pc3:=PT_w12.out.c3
 have pc4:=PT_w12.out.c4
 have pc5:=PT_w12.out.c5
 have pc6:=PT_w12.out.c6
 refine tk_ ?_
 refine ss_ (fun K hK => ?_)
 go_simp
 clear pc0 pc1 pc2 pc3 pc4 pc5 pc6
 refine (zjf _ _ B X b [] (failF (failF (failF (failF (failF (failF 0 (hasB (keysOf b.hs b.os) e.Key) 9) (decide (chanIx (b : Bk).cs e.Ch < 0)) 6) (decide (chanIx (b : Bk).cs e.To < 0)) 6) (decide ((60 : Int) ≤ (b.hs.length : Int))) 14) nk 10) (decide (cF.Remote < sm)) 11) A1 A2 A3 A4 p1 p2 p3 p4 (decide (cT.Local < e.Amt)) 12 HW12).mono ?_
 rintro e' w13 ⟨rfl,hh,ho⟩
 have HW13:=hd_ (HW12.out.trans hh)
 have HE13:=hd_ (ho _ _ HXE HE12)
 have PF_w13:=hd_ (PF_w12.out.only ho PXF.out)
 have PT_w13:=hd_ (PT_w12.out.only ho PXT.out)
 clear hh ho
 clear a af az jE
 obtain ⟨a,af,az⟩:=opc_ HW13.out.open_
 have jE:=bd7_ HE13
 go_simp
 refine hK.out _ _ (q78_ a (q7_ jE PT_w13.out.c2)) (fun hH => ?_)
 clear hK K
 refine tk_ ?_
 refine Sq.done (NoPanic.normal ?_)
 obtain ⟨cd,hcd⟩ : ∃ v,v = (failF (failF (failF (failF (failF (failF (failF 0 (hasB (keysOf b.hs b.os) e.Key) 9) (decide (chanIx (b : Bk).cs e.Ch < 0)) 6) (decide (chanIx (b : Bk).cs e.To < 0)) 6) (decide ((60 : Int) ≤ (b.hs.length : Int))) 14) nk 10) (decide (cF.Remote < sm)) 11) (decide (cT.Local < e.Amt)) 12):=⟨_,rfl⟩
 rw [← hcd] at HW13
 have HCcd:=hd_ hcd
 clear hcd
 clear a af az jE
 obtain ⟨a,af,az⟩:=opc_ HW13.out.open_
 have jE:=bd7_ HE13
 have hcd9 : cd = failF (failF (failF (failF (failF (failF (failF 0 (hasB (keysOf b.hs b.os) e.Key) 9) (decide (chanIx b.cs e.Ch < 0)) 6) (decide (chanIx b.cs e.To < 0)) 6) (decide ((60 : Int) ≤ (b.hs.length : Int))) 14) (!feeOk cT.Base cT.Ppm e.Amt || !amtB (e.Amt + feeV cT.Base cT.Ppm e.Amt)) 10) (decide (cF.Remote < sumV cT e)) 11) (decide (cT.Local < e.Amt)) 12:=by unfold sumV;rw [HCcd.out,HNK.out,HSUM.out,HTWO.out,← HONE.out,HFV.out]
 obtain ⟨hcA,hcB⟩:=zts HNE h60 (fun h9 => (HFF.out h9).2.2) (fun h9 => (HFT.out h9).2.2) hcd9
 have HCA:=hd_ hcA
 have HCB:=hd_ hcB
 clear hcA hcB hcd9
 cases tc : (cd != 0)
 rotate_left
 ·
  have hne : cd ≠ 0:=by simpa using tc
  have tc2 : (cd == 0) = false:=by rw [beq_eq_false_iff_ne];exact hne
  go_wp2_with fail
  go_end0
  rw [HCA.out hne]
  exact Acts.no hne ⟨_,_,_,_,_,_,_,_,rfl,HW13.out⟩
 have hcd0 : cd = 0:=by simpa using tc
 have tc2 : (cd == 0) = true:=by rw [hcd0];rfl
 obtain ⟨c9,mi,mo,c6,c14,c10,c11,c12⟩:=HCB.out hcd0
 have hsm2 : sm = e.Amt + fv:=by rw [HSUM.out];unfold addV;rw [if_pos];unfold sumOk at c10;simp only [Bool.and_eq_true] at c10;rw [HFV.out];exact c10.2
 have hsa : amtB sm = true:=by rw [hsm2,HFV.out];unfold sumOk at c10;simp only [Bool.and_eq_true] at c10;exact c10.2
 obtain ⟨am1,am2⟩:=zja.1 hsa
 rw [← HFV.out,← hsm2] at c11
 clear hsa
 obtain ⟨hA,hoF,hcF⟩:=HFF.out mi
 obtain ⟨hA2,hoT,hcT⟩:=HFT.out mo
 have HCF:=hd_ hcF
 have HCT:=hd_ hcT
 have HSM2:=hd_ hsm2
 have HC9:=hd_ c9
 have HC6:=hd_ c6
 have HC10:=hd_ c10
 have KA:=hd_ hA
 have KF:=hd_ hoF
 have KA2:=hd_ hA2
 have KT:=hd_ hoT
 clear hcF hcT hsm2 c9 c6 c10 hA hoF hA2 hoT
 have pc0:=PF_w13.out.c0
 have pc1:=PF_w13.out.c1
 have pc2:=PF_w13.out.c2
 have pc3:=PF_w13.out.c3
 have pc4:=PF_w13.out.c4
 have pc5:=PF_w13.out.c5
 have pc6:=PF_w13.out.c6
 have qc0:=PT_w13.out.c0
 have qc1:=PT_w13.out.c1
 have qc2:=PT_w13.out.c2
 have qc3:=PT_w13.out.c3
 have qc4:=PT_w13.out.c4
 have qc5:=PT_w13.out.c5
 have qc6:=PT_w13.out.c6
 go_wp2_with fail
 refine zql (fun w' => kqiiissss w' X b.t b.n b.w A1 b.cs.length p1 A2 b.hs.length p2 A3 b.os.length p3 A4 ([].length) p4 (kqE w' EB e (kqiiiiiiio w' gF oF cF.Id cF.Size cF.Local cF.Remote cF.Base cF.Ppm cF.Score (kqiiiiiiio_ w' gT oT cT.Id cT.Size cT.Local cT.Remote cT.Base cT.Ppm cT.Score)))) [yF 0 88,yF 1 89,yF 2 90,yF 3 91,yF 4 92,yF 5 93,yF 6 94,yF 7 95,yT 8 96,yF 9 10] (by kernel_rfl) (by kernel_rfl) (by kernel_rfl) (q78_ a (q7_ jE ⟨pc0,pc1,pc2,pc3,pc4,pc5,pc6,qc0,qc1,qc2,qc3,qc4,qc5,qc6⟩)) (fun hH => ?_)
 obtain ⟨w14,hwd⟩ : ∃ wd,w13.drew = wd:=⟨_,rfl⟩
 have HW14:=wkd_ hwd HW13
 have HE14:=hr_ hwd HE13
 have PF_w14:=hd_ (show ChAt w14 gF oF cF by rw [← hwd];exact ⟨PF_w13.out.c0,PF_w13.out.c1,PF_w13.out.c2,PF_w13.out.c3,PF_w13.out.c4,PF_w13.out.c5,PF_w13.out.c6⟩)
 have PT_w14:=hd_ (show ChAt w14 gT oT cT by rw [← hwd];exact ⟨PT_w13.out.c0,PT_w13.out.c1,PT_w13.out.c2,PT_w13.out.c3,PT_w13.out.c4,PT_w13.out.c5,PT_w13.out.c6⟩)
 clear a af az jE
 rw [hwd] at hH ⊢
 clear hwd
 obtain ⟨a,af,az⟩:=opc_ HW14.out.open_
 have jE:=bd7_ HE14
 refine tk_ ?_
 clear pc0 pc1 pc2 pc3 pc4 pc5 pc6 qc0 qc1 qc2 qc3 qc4 qc5 qc6
 have pc0:=PF_w14.out.c0
 have pc1:=PF_w14.out.c1
 have pc2:=PF_w14.out.c2
 have pc3:=PF_w14.out.c3
 have pc4:=PF_w14.out.c4
 have pc5:=PF_w14.out.c5
 have pc6:=PF_w14.out.c6
 have qc0:=PT_w14.out.c0
 have qc1:=PT_w14.out.c1
 have qc2:=PT_w14.out.c2
 have qc3:=PT_w14.out.c3
 have qc4:=PT_w14.out.c4
 have qc5:=PT_w14.out.c5
 have qc6:=PT_w14.out.c6
 refine tk_ ?_
 refine ss_ (fun K hK => ?_)
 go_simp
 clear pc0 pc1 pc2 pc3 pc4 pc5 pc6 qc0 qc1 qc2 qc3 qc4 qc5 qc6
 refine (zgp _ _ B X b [] cd A1 A2 A3 A4 p1 p2 p3 p4 cF cT e HSM HW14).mono ?_
 rintro e' w15 ⟨rfl,hb⟩
 have HW15:=hd_ (HW14.out.below hb)
 have HE15:=hb_ hb HE14
 have PF_w15:=hd_ (PF_w14.out.below hb)
 have PT_w15:=hd_ (PT_w14.out.below hb)
 clear hb
 clear a af az jE
 obtain ⟨a,af,az⟩:=opc_ HW15.out.open_
 have jE:=bd7_ HE15
 obtain ⟨rm,hrm⟩ : ∃ v,v = roomF b.hs cT e.To e.Amt cF.Score e.Yes:=⟨_,rfl⟩
 rw [← hrm]
 have HRM:=hd_ hrm
 clear hrm
 go_simp
 refine hK.out _ _ (q78_ a (q7_ jE ⟨PF_w15.out.c0,PF_w15.out.c1,PF_w15.out.c2,PF_w15.out.c3,PF_w15.out.c4,PF_w15.out.c5,PF_w15.out.c6,PT_w15.out.c0,PT_w15.out.c1,PT_w15.out.c2,PT_w15.out.c3,PT_w15.out.c4,PT_w15.out.c5,PT_w15.out.c6⟩)) (fun hH => ?_)
 clear hK K
 refine tk_ ?_
 refine Sq.done (NoPanic.normal ?_)
 go_wp2_with fail
 refine (zjf _ _ B X b [] cd A1 A2 A3 A4 p1 p2 p3 p4 (rm == 0) 13 HW15).mono ?_
 rintro e' w16 ⟨rfl,hh,ho⟩
 have HW16:=hd_ (HW15.out.trans hh)
 have HE16:=hd_ (ho _ _ HXE HE15)
 have PF_w16:=hd_ (PF_w15.out.only ho PXF.out)
 have PT_w16:=hd_ (PT_w15.out.only ho PXT.out)
 clear hh ho
 clear a af az jE
 obtain ⟨a,af,az⟩:=opc_ HW16.out.open_
 have jE:=bd7_ HE16
 have hid : (chanOf b.cs e.To).Id = e.To:=zgb mo
 have HRM2 : Hid (roomF b.hs (chanOf b.cs e.To) (chanOf b.cs e.To).Id e.Amt (chanOf b.cs e.Ch).Score e.Yes = rm):=hd_ (by rw [hid,← HCF.out,← HCT.out];exact HRM.out.symm)
 clear hid
 cases tr : (rm == 0)
 rotate_left
 ·
  have hrm0:=eq_of_beq tr
  clear a af az jE
  rw [tr,hcd0,show failF 0 true 13 = 13 from rfl] at HW16
  obtain ⟨a,af,az⟩:=opc_ HW16.out.open_
  have jE:=bd7_ HE16
  have HO:=hd_ (zyf (b:=b) (e:=e) (i:=chanOf b.cs e.Ch) (o:=chanOf b.cs e.To) HC9 HC6 c14 (by have:=HC10.out;rw [HCT.out] at this;exact this) (by rw [← HCF.out,← HCT.out,← HFV.out,← HSM2.out];exact c11) (by rw [← HCT.out];exact c12) (by rw [HRM2.out];exact hrm0))
  go_wp2_with fail
  go_end0
  rw [HO.out]
  exact Acts.no (by decide) ⟨_,_,_,_,_,_,_,_,rfl,HW16.out⟩
 have hrm0 : rm ≠ 0:=by simpa using tr
 clear a af az jE
 rw [tr,zkj,hcd0] at HW16
 obtain ⟨a,af,az⟩:=opc_ HW16.out.open_
 have jE:=bd7_ HE16
 have HO:=hd_ (zyg (b:=b) (e:=e) (i:=chanOf b.cs e.Ch) (o:=chanOf b.cs e.To) HC9 HC6 c14 (by have:=HC10.out;rw [HCT.out] at this;exact this) (by rw [← HCF.out,← HCT.out,← HFV.out,← HSM2.out];exact c11) (by rw [← HCT.out];exact c12) (by rw [HRM2.out];exact hrm0))
 obtain ⟨u,hu⟩:=Int.eq_ofNat_of_zero_le mi
 obtain ⟨v,hv⟩:=Int.eq_ofNat_of_zero_le mo
 have hlu:=zxm hu
 have hlv:=zxm hv
 have HU:=hd_ hu
 have HV:=hd_ hv
 have hA:=KA.out
 have hA2:=KA2.out
 have hoF:=KF.out
 have hoT:=KT.out
 clear KA KA2 KF KT
 subst hA
 injection hA2 with hA2
 injection hA2 with hA2
 subst hA2
 rw [hu,Int.toNat_natCast] at hoF
 rw [hv,Int.toNat_natCast] at hoT
 subst hoF hoT
 clear hu hv mi mo
 clear a af az jE
 obtain ⟨a,af,az⟩:=opc_ HW16.out.open_
 have jE:=bd7_ HE16
 go_wp2_with fail
 refine zqs (fun w' => kqiiissss w' X b.t b.n b.w (some ⟨gF,0,none⟩) b.cs.length p1 A2 b.hs.length p2 A3 b.os.length p3 A4 ([].length) p4 (kqE_ w' EB e)) [yF 0 106,yF 1 107,yF 2 108,yF 3 109,yF 4 110,yF 5 111,yF 6 112,yF 7 113,yF 8 114,yF 9 115,yF 10 116,yF 11 117,yF 12 118,yF 13 119,yF 14 120,yF 15 121,yF 16 122,yF 17 123,yT 18 124,yT 19 125,yF 20 126,yF 21 127,yF 22 128] rfl (by kernel_rfl) (by kernel_rfl) (by kernel_rfl) (by kernel_rfl) (by kernel_rfl) (by kernel_rfl) (q78_ a jE) (fun hH => ?_)
 obtain ⟨w17,hwd⟩ : ∃ wd,w16.drew = wd:=⟨_,rfl⟩
 have HW17:=wkd_ hwd HW16
 have HE17:=hr_ hwd HE16
 clear a af az jE
 rw [hwd] at hH ⊢
 clear hwd
 obtain ⟨a,af,az⟩:=opc_ HW17.out.open_
 have jE:=bd7_ HE17
 refine tk_ ?_
 refine ss_ (fun K hK => ?_)
 go_simp
 refine zxu (fun w18 hw => ?_)
 have HW18:=wka_ hw HW17
 have HE18:=ha_ hw HE17
 have HB : Hid (w18.heap[w17.heap.size]? = some (.cells #[.int .i64 e.Key,.int .i64 e.Ch,.int .i64 e.To,.int .i64 sm,.int .i64 e.Amt,.bool (rm == 2),.int .i64 0] 70 (0,0))):=hd_ (by rw [hw];exact zqi rfl)
 clear hw
 clear a af az jE
 obtain ⟨a,af,az⟩:=opc_ HW18.out.open_
 have jE:=bd7_ HE18
 go_simp
 refine hK.out _ _ (q78_ a jE) (fun hH => ?_)
 clear hK K
 refine tk_ ?_
 refine ss_ (fun K hK => ?_)
 refine zje (ops:=#[]) (E:=True) rfl (zks rfl _ _ _ rfl B 70 i0 _ 7 56 Tryz.underlying36 HI0 HI1 HI2 HI3 rfl (by decide) (.slice A2 b.hs.length p2) _ (by rfl) HW18.out.o.h w17.heap.size 1 [.int .i64 e.Key,.int .i64 e.Ch,.int .i64 e.To,.int .i64 sm,.int .i64 e.Amt,.bool (rm == 2),.int .i64 0] 70 (by rfl) HB rfl (by simp [Value.oneCell']) (by rw [List.length_map];omega) (by decide) HW18.out.ble ?_)
 intro g2 cap2 w19 how2 hgr2 hat2 hlt2
 have HA:=hd_ (HW18.out.appH (by decide) (by decide) (by decide) (by decide) (c:=⟨e.Key,e.Ch,e.To,sm,e.Amt,(rm == 2),0⟩) how2 hgr2)
 have HE19 : Hid (Hx w19 EB (evC e) 64):=hd_ (zqe hgr2 (HW18.out.o.h.ne_ HE18 (by decide)) HE18)
 clear how2 hgr2 hat2 HB
 rw [List.length_map]
 clear a af az jE
 obtain ⟨_,a,af,az⟩:=opd_ (own8 HA.out.1)
 have jE:=bd7_ HE19
 go_simp
 refine hK.out _ _ (q78_ a jE) (fun hH => ?_)
 clear hK K
 refine tk_ ?_
 refine Sq.done ?_
 intro KK hKK
 go_simp
 refine hKK _ _ (NoPanic.normal ?_)
 refine nm_ ?_
 intro w20 hw
 have HW20 : Hid (Wk 136 w w20 B X ⟨b.t,b.n,b.w,b.cs,(b.hs ++ [⟨e.Key,e.Ch,e.To,sm,e.Amt,(rm == 2),0⟩]),b.os⟩ [] 0 (some ⟨gF,0,none⟩) (some ⟨g2,0,none⟩) A3 A4 p1 cap2 p3 p4):=hd_ (by rw [hw];exact HA.out.2)
 have HE20:=hf_ hw HXE HE19
 clear hw
 clear a af az jE
 obtain ⟨a,af,az⟩:=opc_ HW20.out.open_
 have jE:=bd7_ HE20
 clear HA
 obtain ⟨hs1,hhs1⟩ : ∃ l,b.hs ++ [(⟨e.Key,e.Ch,e.To,sm,e.Amt,rm == 2,0⟩ : Htlc)] = l:=⟨_,rfl⟩
 rw [hhs1] at HW20
 have HHS1:=hd_ hhs1
 clear hhs1
 clear a af az jE
 obtain ⟨a,af,az⟩:=opc_ HW20.out.open_
 have jE:=bd7_ HE20
 obtain ⟨c,hc⟩ : ∃ c,b.cs[u]'hlu = c:=⟨_,rfl⟩
 have hr : (b.cs.map Chan.cells)[u]? = some c.cells:=by rw [List.getElem?_map,List.getElem?_eq_getElem hlu,hc];rfl
 obtain ⟨y0,y1,y2,y3,y4,y5,y6⟩:=c
 have HRowy:=hd_ hr
 have HCIy:=hd_ hc
 clear hr hc
 have hb1:=HBD.out _ (List.getElem_mem hlu)
 rw [HCIy.out] at hb1
 simp only at hb1
 have yc:=HW20.out.o.c.cellAt HRowy (j:=3) (by decide)
 simp only [Chan.cells,List.getElem?_cons_zero,List.getElem?_cons_succ] at yc
 have yf:=fun j => HW20.out.o.c.frozenAt j
 go_upto_region 17 with fail
 clear yc yf
 refine nm_ ?_
 intro w21 hw
 have HW21 : Hid (Wk 136 w w21 B X ⟨b.t,b.n,b.w,(b.cs.set u ⟨y0,y1,y2,(y3 - sm),y4,y5,y6⟩),hs1,b.os⟩ [] 0 (some ⟨gF,0,none⟩) (some ⟨g2,0,none⟩) A3 A4 p1 cap2 p3 p4):=hd_ (by rw [hw];exact HW20.out.putCell (c':=⟨y0,y1,y2,(y3 - sm),y4,y5,y6⟩) (by decide) hlu (by decide) (by rw [HCIy.out];rfl))
 have HE21:=hf_ hw (fun e9 => HW20.out.o.c.ne_ HE20 (by decide) (by rw [e9];rfl)) HE20
 clear hw
 clear a af az jE
 obtain ⟨a,af,az⟩:=opc_ HW21.out.open_
 have jE:=bd7_ HE21
 obtain ⟨cs1,hc3⟩ : ∃ v9,(b.cs.set u ⟨y0,y1,y2,(y3 - sm),y4,y5,y6⟩) = v9:=⟨_,rfl⟩
 rw [hc3] at HW21
 have Hcs1:=hd_ hc3
 clear hc3
 clear a af az jE
 obtain ⟨a,af,az⟩:=opc_ HW21.out.open_
 have jE:=bd7_ HE21
 have HM1 : Hid (moveC b.cs e.Ch 0 (-sm) = cs1):=hd_ (by rw [← Hcs1.out,zwr HU hlu HCIy.out];rw [Int.sub_eq_add_neg])
 have hix1 : ∀ ch,chanIx cs1 ch = chanIx b.cs ch:=by rw [← HM1.out];exact fun ch => zxn _ _ _ _ ch
 have hl1 : cs1.length = b.cs.length:=by rw [← HM1.out];exact zxg _ _ _ _
 have HBD1 : Hid (Bd (1125899906842624 + 1125899906842624) cs1):=hd_ (by rw [← HM1.out];exact HBD.out.move _ _ _ (by omega) (by omega))
 have hlv1 : v < cs1.length:=by omega
 have HIX1:=hd_ hix1
 clear hix1
 obtain ⟨c,hc⟩ : ∃ c,cs1[v]'hlv1 = c:=⟨_,rfl⟩
 have hr : (cs1.map Chan.cells)[v]? = some c.cells:=by rw [List.getElem?_map,List.getElem?_eq_getElem hlv1,hc];rfl
 obtain ⟨z0,z1,z2,z3,z4,z5,z6⟩:=c
 have HRowz:=hd_ hr
 have HCIz:=hd_ hc
 clear hr hc
 have hb2:=HBD1.out _ (List.getElem_mem hlv1)
 rw [HCIz.out] at hb2
 simp only at hb2
 have ws : IntKind.i64.wrap (z2 - e.Amt) = z2 - e.Amt:=IntWalk.i64_in _ ⟨by omega,by omega⟩
 have yc:=HW21.out.o.c.cellAt HRowz (j:=2) (by decide)
 simp only [Chan.cells,List.getElem?_cons_zero,List.getElem?_cons_succ] at yc
 refine zqs (fun w' => kqiiissss w' X b.t b.n b.w (some ⟨gF,0,none⟩) cs1.length p1 (some ⟨g2,0,none⟩) hs1.length cap2 A3 b.os.length p3 A4 ([].length) p4 (kqE w' EB e (kqio_ w' gF (v * 7 + 2) z2))) [yF 0 137,yF 1 138,yF 2 139,yF 3 140,yF 4 141,yF 5 142,yF 6 143,yF 7 144,yF 8 145] rfl (by kernel_rfl) (by kernel_rfl) (by kernel_rfl) (by kernel_rfl) (by kernel_rfl) (by kernel_rfl) (q78_ a (q7_ jE yc)) (fun hH => ?_)
 obtain ⟨w22,hwd⟩ : ∃ wd,w21.drew = wd:=⟨_,rfl⟩
 have HW22:=wkd_ hwd HW21
 have HE22:=hr_ hwd HE21
 clear a af az jE
 rw [hwd] at hH ⊢
 clear hwd
 obtain ⟨a,af,az⟩:=opc_ HW22.out.open_
 have jE:=bd7_ HE22
 refine tk_ ?_
 clear yc
 have yc:=HW22.out.o.c.cellAt HRowz (j:=2) (by decide)
 simp only [Chan.cells,List.getElem?_cons_zero,List.getElem?_cons_succ] at yc
 have yf:=fun j => HW22.out.o.c.frozenAt j
 refine Sq.done ?_
 intro KK hKK
 go_simp
 refine hKK _ _ (NoPanic.normal ?_)
 clear yc yf
 refine nm_ ?_
 intro w23 hw
 have HW23 : Hid (Wk 136 w w23 B X ⟨b.t,b.n,b.w,(cs1.set v ⟨z0,z1,(z2 - e.Amt),z3,z4,z5,z6⟩),hs1,b.os⟩ [] 0 (some ⟨gF,0,none⟩) (some ⟨g2,0,none⟩) A3 A4 p1 cap2 p3 p4):=hd_ (by rw [hw];exact HW22.out.putCell (c':=⟨z0,z1,(z2 - e.Amt),z3,z4,z5,z6⟩) (by decide) hlv1 (by decide) (by rw [HCIz.out];rfl))
 have HE23:=hf_ hw (fun e9 => HW22.out.o.c.ne_ HE22 (by decide) (by rw [e9];rfl)) HE22
 clear hw
 clear a af az jE
 obtain ⟨a,af,az⟩:=opc_ HW23.out.open_
 have jE:=bd7_ HE23
 obtain ⟨cs2,hc3⟩ : ∃ v9,(cs1.set v ⟨z0,z1,(z2 - e.Amt),z3,z4,z5,z6⟩) = v9:=⟨_,rfl⟩
 rw [hc3] at HW23
 have Hcs2:=hd_ hc3
 clear hc3
 clear a af az jE
 obtain ⟨a,af,az⟩:=opc_ HW23.out.open_
 have jE:=bd7_ HE23
 clear ws
 have HM2 : Hid (moveC cs1 e.To (-e.Amt) 0 = cs2):=hd_ (by rw [← Hcs2.out,zwq (by rw [HIX1.out];exact HV) hlv1 HCIz.out];rw [Int.sub_eq_add_neg])
 go_wp2_with fail
 refine (zjg _ _ B X ⟨b.t,b.n,b.w,cs2,hs1,b.os⟩ [] 0 (some ⟨gF,0,none⟩) (some ⟨g2,0,none⟩) A3 A4 p1 cap2 p3 p4 6 e.To (-e.Amt) (by decide) (by (try simp only);omega) (fun y hy => by cases hy) (fun y hy => by cases hy) HW23).mono ?_
 rintro e' w24 ⟨⟨Cw240,Cw241,Cw242,Cw243,rw240,rw241,rw242,rw243,rfl,hh⟩,ho⟩
 have HE24:=hd_ (ho _ _ HXE HE23)
 obtain ⟨M0,hL9⟩ : ∃ v,lineTo [] 6 e.To (-e.Amt) = v:=⟨_,rfl⟩
 rw [hL9] at hh
 have HMl0:=hd_ hL9
 have HW24:=hd_ (HW23.out.trans hh)
 clear hh ho hL9
 clear a af az jE
 obtain ⟨a,af,az⟩:=opc_ HW24.out.open_
 have jE:=bd7_ HE24
 have HLM0 : Hid (M0.length ≤ 1):=hd_ (by rw [← HMl0.out];have h9:=zqu [] (6) (e.To) ((-e.Amt));have h8 : ([] : List Line).length ≤ 0:=Nat.le_refl _;omega)
 have HQ0 : Hid (∀ y ∈ M0,y = ⟨6,e.To,(-e.Amt)⟩):=hd_ (fun y hy => by rw [← HMl0.out] at hy;rcases zxk (fun y hy => by cases hy) hy with h9 | h9;cases h9;exact h9)
 go_wp2_with fail
 refine (zjg _ _ B X ⟨b.t,b.n,b.w,cs2,hs1,b.os⟩ M0 0 Cw240 Cw241 Cw242 Cw243 rw240 rw241 rw242 rw243 8 e.To e.Amt (by have:=HLM0.out;omega) (by (try simp only);omega) (fun y hy => by rcases HQ0 y hy with rfl <;> (simp only;omega)) (fun y hy => by rcases HQ0 y hy with rfl <;> (simp only;omega)) HW24).mono ?_
 rintro e' w25 ⟨⟨Cw250,Cw251,Cw252,Cw253,rw250,rw251,rw252,rw253,rfl,hh⟩,ho⟩
 have HE25:=hd_ (ho _ _ HXE HE24)
 obtain ⟨M1,hL9⟩ : ∃ v,lineTo M0 8 e.To e.Amt = v:=⟨_,rfl⟩
 rw [hL9] at hh
 have HMl1:=hd_ hL9
 have HW25:=hd_ (HW24.out.trans hh)
 clear hh ho hL9
 clear a af az jE
 obtain ⟨a,af,az⟩:=opc_ HW25.out.open_
 have jE:=bd7_ HE25
 have HLM1 : Hid (M1.length ≤ 2):=hd_ (by rw [← HMl1.out];have h9:=zqu M0 (8) (e.To) (e.Amt);have h8 : (M0).length ≤ 1:=HLM0.out;omega)
 have HQ1 : Hid (∀ y ∈ M1,y = ⟨6,e.To,(-e.Amt)⟩ ∨ y = ⟨8,e.To,e.Amt⟩):=hd_ (fun y hy => by rw [← HMl1.out] at hy;rcases zxk (fun y hy => by rcases HQ0 y hy with rfl <;> (simp only;omega)) hy with h9 | h9;exact HQ0 y h9 |> Or.inl;exact Or.inr h9)
 go_wp2_with fail
 go_end0
 rw [HO.out]
 have HZ : nz [⟨6,e.To,(-e.Amt)⟩,⟨8,e.To,e.Amt⟩] = M1:=by rw [← HMl1.out,← HMl0.out];exact (line2 (by decide)).symm
 rw [HZ,HRM2.out,← HCT.out,← HFV.out,← HSM2.out,HM1.out,HM2.out,HHS1.out]
 exact Acts.ok ⟨_,_,_,_,_,_,_,_,rfl,HW25.out⟩
end Go.Proofs.YtdbmkfmenfcbiaaGreat
