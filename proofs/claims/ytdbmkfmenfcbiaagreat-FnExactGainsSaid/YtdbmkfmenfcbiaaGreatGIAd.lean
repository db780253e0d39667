/- A payment is admitted: the program's walk. -/
import Derived.Test.YtdbmkfmenfcbiaaGreatRows
import Derived.Test.YtdbmkfmenfcbiaaGreatGILu
import Derived.Test.YtdbmkfmenfcbiaaGreatGM5
import Derived.Test.YtdbmkfmenfcbiaaGreatGSAdmit
namespace Go.Proofs.YtdbmkfmenfcbiaaGreat
open Go.RowKit Go.Deep
def sumV (d : Chan) (e : Event) : Int:=addV e.Amt (feeV d.Base d.Ppm e.Amt)
def sumOk (d : Chan) (e : Event) : Bool:=feeOk d.Base d.Ppm e.Amt && amtB (e.Amt + feeV d.Base d.Ppm e.Amt)
theorem zml {cs : List Chan} {ch : Int} (h : 0 ≤ chanIx cs ch) : (chanOf cs ch).Id = ch:=by
 obtain ⟨i,hi⟩:=Int.eq_ofNat_of_zero_le h
 have hlt:=zxh hi
 have hid : cs[i].Id = ch:=by
  unfold chanIx at hi
  split at hi
  ·
   rename_i j hj
   obtain ⟨_,h2,_⟩:=List.findIdx?_eq_some_iff_getElem.1 hj
   have : j = i:=by omega
   subst this
   simpa [notId] using h2
  ·
   omega
 unfold chanOf
 rw [hi,Int.toNat_natCast,List.getD_eq_getElem?_getD,List.getElem?_eq_getElem hlt]
 exact hid
theorem feeV_amt (base ppm n : Int) : amtB (feeV base ppm n) = true:=by
 unfold feeV
 split
 ·
  rename_i h
  unfold feeOk at h
  simp only [Bool.and_eq_true] at h
  exact h.2
 ·
  decide
theorem zyo {b : Bk} {e : Event} {f d : Chan} {cd : Int} (hne : e.Ch ≠ e.To) (h60 : b.hs.length ≤ 60) (hf : 0 ≤ chanIx b.cs e.Ch → f = chanOf b.cs e.Ch) (hd : 0 ≤ chanIx b.cs e.To → d = chanOf b.cs e.To)
  (h : cd = failF (failF (failF (failF (failF (failF (failF 0 (hasB (keysOf b.hs b.os) e.Key) 9) (decide (chanIx b.cs e.Ch < 0)) 6) (decide (chanIx b.cs e.To < 0)) 6) (decide ((60 : Int) ≤ (b.hs.length : Int))) 14) (!feeOk d.Base d.Ppm e.Amt || !amtB (e.Amt + feeV d.Base d.Ppm e.Amt)) 10) (decide (f.Remote < sumV d e)) 11) (decide (d.Local < e.Amt)) 12) :
  (cd ≠ 0 → admitS b e (chanOf b.cs e.Ch) (chanOf b.cs e.To) = bad cd)∧(cd = 0 → hasB (keysOf b.hs b.os) e.Key = false∧0 ≤ chanIx b.cs e.Ch∧0 ≤ chanIx b.cs e.To∧twoB b.cs e.Ch e.To = true∧b.hs.length ≠ 60∧sumOk d e = true∧e.Amt + feeV d.Base d.Ppm e.Amt ≤ f.Remote∧e.Amt ≤ d.Local):=by
 subst h
 cases h9 : hasB (keysOf b.hs b.os) e.Key
 case true =>
  rw [zgs h9]
  simp [failF]
 by_cases h6 : chanIx b.cs e.Ch < 0
 ·
  have h2 : twoB b.cs e.Ch e.To = false:=by unfold twoB;rw [decide_eq_false (by omega : ¬ 0 ≤ chanIx b.cs e.Ch)];simp
  rw [ztg h9 h2]
  simp [failF,h6]
 by_cases h6' : chanIx b.cs e.To < 0
 ·
  have h2 : twoB b.cs e.Ch e.To = false:=by unfold twoB;rw [decide_eq_false (by omega : ¬ 0 ≤ chanIx b.cs e.To)];simp
  rw [ztg h9 h2]
  simp [failF,h6,h6']
 have h2 : twoB b.cs e.Ch e.To = true:=by unfold twoB;rw [decide_eq_true (by omega : 0 ≤ chanIx b.cs e.Ch),decide_eq_true (by omega : 0 ≤ chanIx b.cs e.To)];simpa using hne
 have hf':=(hf (by omega)).symm
 have hd':=(hd (by omega)).symm
 rw [hf',hd']
 by_cases h14 : (60 : Int) ≤ (b.hs.length : Int)
 ·
  rw [zmf h9 h2 (by omega)]
  simp [failF,h6,h6',h14]
 cases h10 : sumOk d e
 ·
  have h10' : (!feeOk d.Base d.Ppm e.Amt || !amtB (e.Amt + feeV d.Base d.Ppm e.Amt)) = true:=by
   unfold sumOk at h10
   cases h1 : feeOk d.Base d.Ppm e.Amt <;> cases h3 : amtB (e.Amt + feeV d.Base d.Ppm e.Amt) <;> simp_all
  rw [zvw h9 h2 (by omega) h10,h10']
  simp [failF,h6,h6',h14]
 have h10' : (!feeOk d.Base d.Ppm e.Amt || !amtB (e.Amt + feeV d.Base d.Ppm e.Amt)) = false:=by
  unfold sumOk at h10
  simp only [Bool.and_eq_true] at h10
  rw [h10.1,h10.2]
  rfl
 have ha : sumV d e = e.Amt + feeV d.Base d.Ppm e.Amt:=by
  unfold sumOk at h10
  simp only [Bool.and_eq_true] at h10
  unfold sumV addV
  rw [if_pos h10.2]
 rw [ha,h10']
 by_cases h11 : f.Remote < e.Amt + feeV d.Base d.Ppm e.Amt
 ·
  rw [zmd h9 h2 (by omega) h10 h11]
  simp [failF,h6,h6',h14,h11]
 by_cases h12 : d.Local < e.Amt
 ·
  rw [zme h9 h2 (by omega) h10 (by omega) h12]
  simp [failF,h6,h6',h14,h12,h11]
 ·
  refine ⟨fun h => absurd ?_ h,fun _ => ⟨rfl,by omega,by omega,h2,by omega,rfl,by omega,by omega⟩⟩
  simp [failF,h6,h6',h14,h12,h11]
set_option maxRecDepth 100000 in
set_option maxHeartbeats 8000000 in
theorem i_admit (w0 w : World) (B X : Nat) (b : Bk) (A1 A2 A3 A4 : Option Addr) (p1 p2 p3 p4 : Nat) (e : Event) (hF : BookFacts b.t b.n b.w b.cs b.hs b.os) (ha : amtB e.Amt = true) (hne : e.Ch ≠ e.To) (h : Wk 136 w0 w B X b [] 0 A1 A2 A3 A4 p1 p2 p3 p4) :
  Calls Tryz.prog 92 #[.pointer (some ⟨X,0,none⟩),.agg #[.int .i64 e.Kind,.int .i64 e.Key,.int .i64 e.Ch,.int .i64 e.To,.int .i64 e.Amt,.int .i64 e.Fee,.bool e.Yes]] w (Acts 136 w B X (admitS b e (chanOf b.cs e.Ch) (chanOf b.cs e.To))):=by
 have H:=hd_ h.here
 clear h
 have hcl:=hF.cl
 have h60:=hF.small.hl
 have h20:=hF.small.ol
 obtain ⟨ae1,ae2⟩:=zxu.1 ha
 have HAA:=hd_ ha
 have HNE:=hd_ hne
 have HSM:=hd_ hF.small
 have HBD:=hd_ (zxx hF)
 clear hF ha hne
 obtain ⟨i0,hi,hz0,hz1,hz2⟩:=info_parts zjq
 have HI0:=hd_ hi
 have HI1:=hd_ hz0
 have HI2:=hd_ hz1
 have HI3:=hd_ hz2
 clear hi hz0 hz1 hz2
 obtain ⟨a0,a1,a2,a3,a4,a5,a6,a7,af,az⟩:=H.out.open_
 go_enter Tryz.func92,Tryz.ntmps92
 go_wp2_with fail
 have HW_w:=H
 clear a0 a1 a2 a3 a4 a5 a6 a7 af az
 refine nm_ ?_
 intro w1 hw
 obtain ⟨EB,hB9⟩ : ∃ v9,v9 = w.heap.size:=⟨_,rfl⟩
 try rw [← hB9]
 have HW_w1 : Hid (Wk 136 w w1 B X b [] 0 A1 A2 A3 A4 p1 p2 p3 p4):=hd_ (by rw [hw];exact HW_w.out.alloc _)
 have HE_w1 : Hid (Hx w1 EB (evC e) 64):=hd_ (by rw [hw,hB9];exact zqk rfl)
 have HXE : Hid (EB ≠ X):=hd_ (by have:=HW_w.out.lt;omega)
 clear hw hB9
 obtain ⟨a0,a1,a2,a3,a4,a5,a6,a7,af,az⟩:=HW_w1.out.open_
 obtain ⟨E0,E1,E2,E3,E4,E5,E6,-,-⟩:=box7_ HE_w1.out
 refine zql (fun w' => kqiiissss w' X b.t b.n b.w A1 b.cs.length p1 A2 b.hs.length p2 A3 b.os.length p3 A4 ([].length) p4 (kqE_ w' EB e)) [yF 0 11,yF 1 12,yF 2 13,yF 3 14,yF 4 15,yF 5 16,yF 6 17,yT 7 18,yT 8 19] (by kernel_rfl) (by kernel_rfl) (by kernel_rfl) ⟨a0,a1,a2,a3,a4,a5,a6,E0,E1,E2,E3,E4,E5,E6⟩ (fun hHeld => ?_)
 obtain ⟨w2,hwd⟩ : ∃ wd,w1.drew = wd:=⟨_,rfl⟩
 have HW_w2 : Hid (Wk 136 w w2 B X b [] 0 A1 A2 A3 A4 p1 p2 p3 p4):=hd_ (by rw [← hwd];exact HW_w1.out.drew)
 have HE_w2 : Hid (Hx w2 EB (evC e) 64):=hd_ (by rw [← hwd];exact zqf HE_w1.out)
 clear a0 a1 a2 a3 a4 a5 a6 a7 af az E0 E1 E2 E3 E4 E5 E6
 rw [hwd] at hHeld ⊢
 clear hwd
 obtain ⟨a0,a1,a2,a3,a4,a5,a6,a7,af,az⟩:=HW_w2.out.open_
 obtain ⟨E0,E1,E2,E3,E4,E5,E6,-,-⟩:=box7_ HE_w2.out
 refine tk_ ?_
 refine Sq.step rfl (by rfl) (fun K hK => ?_)
 go_simp
 refine (i_known b.t b.n b.w b.cs b.hs b.os _ _ _ _ _ _ e.Key _ (by omega) (by omega) ⟨HW_w2.out.o.c.rd,HW_w2.out.o.h.rd,HW_w2.out.o.o.rd⟩).mono ?_
 rintro e' w3 ⟨rfl,hb⟩
 have HW_w3:=hd_ (HW_w2.out.below hb)
 have HE_w3:=hd_ (zqc hb (gz_ HE_w2.out).1 HE_w2.out)
 clear hb
 clear a0 a1 a2 a3 a4 a5 a6 a7 af az E0 E1 E2 E3 E4 E5 E6
 obtain ⟨a0,a1,a2,a3,a4,a5,a6,a7,af,az⟩:=HW_w3.out.open_
 obtain ⟨E0,E1,E2,E3,E4,E5,E6,-,-⟩:=box7_ HE_w3.out
 go_simp
 refine hK.out _ _ ⟨a0,a1,a2,a3,a4,a5,a6,E0,E1,E2,E3,E4,E5,E6⟩ (fun hHeld => ?_)
 clear hK K
 refine tk_ ?_
 refine Sq.step rfl (by rfl) (fun K hK => ?_)
 go_simp
 refine (zxy _ _ B X b [] 0 A1 A2 A3 A4 p1 p2 p3 p4 (hasB (keysOf b.hs b.os) e.Key) 9 HW_w3.out).mono ?_
 rintro e' w4 ⟨rfl,hh,ho⟩
 have HW_w4:=hd_ (HW_w3.out.trans hh)
 have HE_w4:=hd_ (ho _ _ HXE.out HE_w3.out)
 clear hh ho
 clear a0 a1 a2 a3 a4 a5 a6 a7 af az E0 E1 E2 E3 E4 E5 E6
 obtain ⟨a0,a1,a2,a3,a4,a5,a6,a7,af,az⟩:=HW_w4.out.open_
 obtain ⟨E0,E1,E2,E3,E4,E5,E6,-,-⟩:=box7_ HE_w4.out
 go_simp
 refine hK.out _ _ ⟨a0,a1,a2,a3,a4,a5,a6,E0,E1,E2,E3,E4,E5,E6⟩ (fun hHeld => ?_)
 clear hK K
 refine tk_ ?_
 refine Sq.done (NoPanic.normal ?_)
 go_wp2_with fail
 refine (i_ch _ _ B X b [] (failF 0 (hasB (keysOf b.hs b.os) e.Key) 9) A1 A2 A3 A4 p1 p2 p3 p4 e.Ch (by (try simp only);omega) HW_w4.out).mono ?_
 rintro e' w5 ⟨gF,oF,cF,rfl,hat,hgx,hh,ho,hf⟩
 have PXF:=hd_ hgx
 have HFF:=hd_ hf
 have HW_w5:=hd_ (HW_w4.out.trans hh)
 have HE_w5:=hd_ (ho _ _ HXE.out HE_w4.out)
 have PF_w5:=hd_ hat
 clear hat hgx hh ho hf
 clear a0 a1 a2 a3 a4 a5 a6 a7 af az E0 E1 E2 E3 E4 E5 E6
 obtain ⟨a0,a1,a2,a3,a4,a5,a6,a7,af,az⟩:=HW_w5.out.open_
 obtain ⟨E0,E1,E2,E3,E4,E5,E6,-,-⟩:=box7_ HE_w5.out
 go_wp2_with fail
 refine (i_ch _ _ B X b [] (failF (failF 0 (hasB (keysOf b.hs b.os) e.Key) 9) (decide (chanIx (b : Bk).cs e.Ch < 0)) 6) A1 A2 A3 A4 p1 p2 p3 p4 e.To (by (try simp only);omega) HW_w5.out).mono ?_
 rintro e' w6 ⟨gT,oT,cT,rfl,hat,hgx,hh,ho,hf⟩
 have PXT:=hd_ hgx
 have HFT:=hd_ hf
 have HW_w6:=hd_ (HW_w5.out.trans hh)
 have HE_w6:=hd_ (ho _ _ HXE.out HE_w5.out)
 have PF_w6:=hd_ (PF_w5.out.only ho PXF.out)
 have PT_w6:=hd_ hat
 clear hat hgx hh ho hf
 clear a0 a1 a2 a3 a4 a5 a6 a7 af az E0 E1 E2 E3 E4 E5 E6
 obtain ⟨a0,a1,a2,a3,a4,a5,a6,a7,af,az⟩:=HW_w6.out.open_
 obtain ⟨E0,E1,E2,E3,E4,E5,E6,-,-⟩:=box7_ HE_w6.out
 go_wp2_with fail
 refine (zxy _ _ B X b [] (failF (failF (failF 0 (hasB (keysOf b.hs b.os) e.Key) 9) (decide (chanIx (b : Bk).cs e.Ch < 0)) 6) (decide (chanIx (b : Bk).cs e.To < 0)) 6) A1 A2 A3 A4 p1 p2 p3 p4 (decide ((60 : Int) ≤ (b.hs.length : Int))) 14 HW_w6.out).mono ?_
 rintro e' w7 ⟨rfl,hh,ho⟩
 have HW_w7:=hd_ (HW_w6.out.trans hh)
 have HE_w7:=hd_ (ho _ _ HXE.out HE_w6.out)
 have PF_w7:=hd_ (PF_w6.out.only ho PXF.out)
 have PT_w7:=hd_ (PT_w6.out.only ho PXT.out)
 clear hh ho
 clear a0 a1 a2 a3 a4 a5 a6 a7 af az E0 E1 E2 E3 E4 E5 E6
 obtain ⟨a0,a1,a2,a3,a4,a5,a6,a7,af,az⟩:=HW_w7.out.open_
 obtain ⟨E0,E1,E2,E3,E4,E5,E6,-,-⟩:=box7_ HE_w7.out
 have pc0:=PT_w7.out.c0
 have pc1:=PT_w7.out.c1
 have pc2:=PT_w7.out.c2
 have pc3:=PT_w7.out.c3
 have pc4:=PT_w7.out.c4
 have pc5:=PT_w7.out.c5
 have pc6:=PT_w7.out.c6
 go_wp2_with fail
 refine zql (fun w' => kqiiissss w' X b.t b.n b.w A1 b.cs.length p1 A2 b.hs.length p2 A3 b.os.length p3 A4 ([].length) p4 (kqE w' EB e (kqio w' gT (oT + 4) cT.Base (kqio_ w' gT (oT + 5) cT.Ppm)))) [yF 0 38,yF 1 39,yF 2 40,yF 3 41,yF 4 42,yF 5 43,yF 6 44,yF 7 45,yF 8 46,yF 9 47,yT 10 48,yF 11 37,yF 12 49,yF 13 50,yF 14 6,yF 15 7] (by kernel_rfl) (by kernel_rfl) (by kernel_rfl) ⟨a0,a1,a2,a3,a4,a5,a6,E0,E1,E2,E3,E4,E5,E6,pc4,pc5⟩ (fun hHeld => ?_)
 obtain ⟨w8,hwd⟩ : ∃ wd,w7.drew = wd:=⟨_,rfl⟩
 have HW_w8 : Hid (Wk 136 w w8 B X b [] (failF (failF (failF (failF 0 (hasB (keysOf b.hs b.os) e.Key) 9) (decide (chanIx (b : Bk).cs e.Ch < 0)) 6) (decide (chanIx (b : Bk).cs e.To < 0)) 6) (decide ((60 : Int) ≤ (b.hs.length : Int))) 14) A1 A2 A3 A4 p1 p2 p3 p4):=hd_ (by rw [← hwd];exact HW_w7.out.drew)
 have HE_w8 : Hid (Hx w8 EB (evC e) 64):=hd_ (by rw [← hwd];exact zqf HE_w7.out)
 have PF_w8:=hd_ (show ChAt w8 gF oF cF by rw [← hwd];exact ⟨PF_w7.out.c0,PF_w7.out.c1,PF_w7.out.c2,PF_w7.out.c3,PF_w7.out.c4,PF_w7.out.c5,PF_w7.out.c6⟩)
 have PT_w8:=hd_ (show ChAt w8 gT oT cT by rw [← hwd];exact ⟨PT_w7.out.c0,PT_w7.out.c1,PT_w7.out.c2,PT_w7.out.c3,PT_w7.out.c4,PT_w7.out.c5,PT_w7.out.c6⟩)
 clear a0 a1 a2 a3 a4 a5 a6 a7 af az E0 E1 E2 E3 E4 E5 E6
 rw [hwd] at hHeld ⊢
 clear hwd
 obtain ⟨a0,a1,a2,a3,a4,a5,a6,a7,af,az⟩:=HW_w8.out.open_
 obtain ⟨E0,E1,E2,E3,E4,E5,E6,-,-⟩:=box7_ HE_w8.out
 refine tk_ ?_
 clear pc0 pc1 pc2 pc3 pc4 pc5 pc6
 have pc0:=PT_w8.out.c0
 have pc1:=PT_w8.out.c1
 have pc2:=PT_w8.out.c2
 have pc3:=PT_w8.out.c3
 have pc4:=PT_w8.out.c4
 have pc5:=PT_w8.out.c5
 have pc6:=PT_w8.out.c6
 refine tk_ ?_
 refine Sq.step rfl (by rfl) (fun K hK => ?_)
 go_simp
 clear pc0 pc1 pc2 pc3 pc4 pc5 pc6
 refine (i_FeeUp cT.Base cT.Ppm e.Amt _).mono ?_
 rintro e' w9 ⟨rfl,hb⟩
 have HW_w9:=hd_ (HW_w8.out.below hb)
 have HE_w9:=hd_ (zqc hb (gz_ HE_w8.out).1 HE_w8.out)
 have PF_w9:=hd_ (PF_w8.out.below hb)
 have PT_w9:=hd_ (PT_w8.out.below hb)
 clear hb
 clear a0 a1 a2 a3 a4 a5 a6 a7 af az E0 E1 E2 E3 E4 E5 E6
 obtain ⟨a0,a1,a2,a3,a4,a5,a6,a7,af,az⟩:=HW_w9.out.open_
 obtain ⟨E0,E1,E2,E3,E4,E5,E6,-,-⟩:=box7_ HE_w9.out
 obtain ⟨fv,hfv⟩ : ∃ v,v = feeV cT.Base cT.Ppm e.Amt:=⟨_,rfl⟩
 have hfa:=feeV_amt cT.Base cT.Ppm e.Amt
 rw [← hfv] at hfa ⊢
 have HFV:=hd_ hfv
 have HFA:=hd_ hfa
 clear hfv hfa
 obtain ⟨one,hone⟩ : ∃ v,v = feeOk cT.Base cT.Ppm e.Amt:=⟨_,rfl⟩
 rw [← hone]
 have HONE:=hd_ hone
 clear hone
 go_simp
 refine hK.out _ _ ⟨a0,a1,a2,a3,a4,a5,a6,E0,E1,E2,E3,E4,E5,E6,PT_w9.out.c4,PT_w9.out.c5⟩ (fun hHeld => ?_)
 clear hK K
 refine tk_ ?_
 refine Sq.done (NoPanic.normal ?_)
 go_wp2_with fail
 refine (zwr e.Amt fv _ HAA.out HFA.out).mono ?_
 rintro e' wz ⟨rfl,rfl⟩
 obtain ⟨sm,hsm⟩ : ∃ v,v = addV e.Amt fv:=⟨_,rfl⟩
 rw [← hsm]
 have HSUM:=hd_ hsm
 clear hsm
 obtain ⟨two,htwo⟩ : ∃ v,v = amtB (e.Amt + fv):=⟨_,rfl⟩
 rw [← htwo]
 have HTWO:=hd_ htwo
 clear htwo
 obtain ⟨nk,hnk⟩ : ∃ v,v = (!one || !two):=⟨_,rfl⟩
 have HNK:=hd_ hnk
 have HCALL : Hid (one = false → nk = true):=hd_ (fun h9 => by rw [hnk,h9];rfl)
 clear hnk
 cases hone2 : one
 ·
  have hnk2 : nk = true:=by rw [HNK.out,hone2];rfl
  clear hone2
  go_wp2_with fail
  rw [← hnk2]
  clear hnk2
  refine (zxy _ _ B X b [] (failF (failF (failF (failF 0 (hasB (keysOf b.hs b.os) e.Key) 9) (decide (chanIx (b : Bk).cs e.Ch < 0)) 6) (decide (chanIx (b : Bk).cs e.To < 0)) 6) (decide ((60 : Int) ≤ (b.hs.length : Int))) 14) A1 A2 A3 A4 p1 p2 p3 p4 nk 10 HW_w9.out).mono ?_
  rintro e' w10 ⟨rfl,hh,ho⟩
  have HW_w10:=hd_ (HW_w9.out.trans hh)
  have HE_w10:=hd_ (ho _ _ HXE.out HE_w9.out)
  have PF_w10:=hd_ (PF_w9.out.only ho PXF.out)
  have PT_w10:=hd_ (PT_w9.out.only ho PXT.out)
  clear hh ho
  clear a0 a1 a2 a3 a4 a5 a6 a7 af az E0 E1 E2 E3 E4 E5 E6
  obtain ⟨a0,a1,a2,a3,a4,a5,a6,a7,af,az⟩:=HW_w10.out.open_
  obtain ⟨E0,E1,E2,E3,E4,E5,E6,-,-⟩:=box7_ HE_w10.out
  have pc0:=PF_w10.out.c0
  have pc1:=PF_w10.out.c1
  have pc2:=PF_w10.out.c2
  have pc3:=PF_w10.out.c3
  have pc4:=PF_w10.out.c4
  have pc5:=PF_w10.out.c5
  have pc6:=PF_w10.out.c6
  go_wp2_with fail
  refine (zxy _ _ B X b [] (failF (failF (failF (failF (failF 0 (hasB (keysOf b.hs b.os) e.Key) 9) (decide (chanIx (b : Bk).cs e.Ch < 0)) 6) (decide (chanIx (b : Bk).cs e.To < 0)) 6) (decide ((60 : Int) ≤ (b.hs.length : Int))) 14) nk 10) A1 A2 A3 A4 p1 p2 p3 p4 (decide (cF.Remote < sm)) 11 HW_w10.out).mono ?_
  rintro e' w11 ⟨rfl,hh,ho⟩
  have HW_w11:=hd_ (HW_w10.out.trans hh)
  have HE_w11:=hd_ (ho _ _ HXE.out HE_w10.out)
  have PF_w11:=hd_ (PF_w10.out.only ho PXF.out)
  have PT_w11:=hd_ (PT_w10.out.only ho PXT.out)
  clear hh ho
  clear a0 a1 a2 a3 a4 a5 a6 a7 af az E0 E1 E2 E3 E4 E5 E6
  obtain ⟨a0,a1,a2,a3,a4,a5,a6,a7,af,az⟩:=HW_w11.out.open_
  obtain ⟨E0,E1,E2,E3,E4,E5,E6,-,-⟩:=box7_ HE_w11.out
  clear pc0 pc1 pc2 pc3 pc4 pc5 pc6
  have pc0:=PT_w11.out.c0
  have pc1:=PT_w11.out.c1
  have pc2:=PT_w11.out.c2
  have pc3:=PT_w11.out.c3
  have pc4:=PT_w11.out.c4
  have pc5:=PT_w11.out.c5
  have pc6:=PT_w11.out.c6
  go_wp2_with fail
  refine zql (fun w' => kqiiissss w' X b.t b.n b.w A1 b.cs.length p1 A2 b.hs.length p2 A3 b.os.length p3 A4 ([].length) p4 (kqE w' EB e (kqio_ w' gT (oT + 2) cT.Local))) [yF 0 74,yF 1 75,yF 2 76,yF 3 77,yF 4 78,yF 5 79,yF 6 80,yF 7 81,yT 8 82] (by kernel_rfl) (by kernel_rfl) (by kernel_rfl) ⟨a0,a1,a2,a3,a4,a5,a6,E0,E1,E2,E3,E4,E5,E6,pc2⟩ (fun hHeld => ?_)
  obtain ⟨w12,hwd⟩ : ∃ wd,w11.drew = wd:=⟨_,rfl⟩
  have HW_w12 : Hid (Wk 136 w w12 B X b [] (failF (failF (failF (failF (failF (failF 0 (hasB (keysOf b.hs b.os) e.Key) 9) (decide (chanIx (b : Bk).cs e.Ch < 0)) 6) (decide (chanIx (b : Bk).cs e.To < 0)) 6) (decide ((60 : Int) ≤ (b.hs.length : Int))) 14) nk 10) (decide (cF.Remote < sm)) 11) A1 A2 A3 A4 p1 p2 p3 p4):=hd_ (by rw [← hwd];exact HW_w11.out.drew)
  have HE_w12 : Hid (Hx w12 EB (evC e) 64):=hd_ (by rw [← hwd];exact zqf HE_w11.out)
  have PF_w12:=hd_ (show ChAt w12 gF oF cF by rw [← hwd];exact ⟨PF_w11.out.c0,PF_w11.out.c1,PF_w11.out.c2,PF_w11.out.c3,PF_w11.out.c4,PF_w11.out.c5,PF_w11.out.c6⟩)
  have PT_w12:=hd_ (show ChAt w12 gT oT cT by rw [← hwd];exact ⟨PT_w11.out.c0,PT_w11.out.c1,PT_w11.out.c2,PT_w11.out.c3,PT_w11.out.c4,PT_w11.out.c5,PT_w11.out.c6⟩)
  clear a0 a1 a2 a3 a4 a5 a6 a7 af az E0 E1 E2 E3 E4 E5 E6
  rw [hwd] at hHeld ⊢
  clear hwd
  obtain ⟨a0,a1,a2,a3,a4,a5,a6,a7,af,az⟩:=HW_w12.out.open_
  obtain ⟨E0,E1,E2,E3,E4,E5,E6,-,-⟩:=box7_ HE_w12.out
  refine tk_ ?_
  clear pc0 pc1 pc2 pc3 pc4 pc5 pc6
  have pc0:=PT_w12.out.c0
  have pc1:=PT_w12.out.c1
  have pc2:=PT_w12.out.c2
  have pc3:=PT_w12.out.c3
  have pc4:=PT_w12.out.c4
  have pc5:=PT_w12.out.c5
  have pc6:=PT_w12.out.c6
  refine tk_ ?_
  refine Sq.step rfl (by rfl) (fun K hK => ?_)
  go_simp
  clear pc0 pc1 pc2 pc3 pc4 pc5 pc6
  refine (zxy _ _ B X b [] (failF (failF (failF (failF (failF (failF 0 (hasB (keysOf b.hs b.os) e.Key) 9) (decide (chanIx (b : Bk).cs e.Ch < 0)) 6) (decide (chanIx (b : Bk).cs e.To < 0)) 6) (decide ((60 : Int) ≤ (b.hs.length : Int))) 14) nk 10) (decide (cF.Remote < sm)) 11) A1 A2 A3 A4 p1 p2 p3 p4 (decide (cT.Local < e.Amt)) 12 HW_w12.out).mono ?_
  rintro e' w13 ⟨rfl,hh,ho⟩
  have HW_w13:=hd_ (HW_w12.out.trans hh)
  have HE_w13:=hd_ (ho _ _ HXE.out HE_w12.out)
  have PF_w13:=hd_ (PF_w12.out.only ho PXF.out)
  have PT_w13:=hd_ (PT_w12.out.only ho PXT.out)
  clear hh ho
  clear a0 a1 a2 a3 a4 a5 a6 a7 af az E0 E1 E2 E3 E4 E5 E6
  obtain ⟨a0,a1,a2,a3,a4,a5,a6,a7,af,az⟩:=HW_w13.out.open_
  obtain ⟨E0,E1,E2,E3,E4,E5,E6,-,-⟩:=box7_ HE_w13.out
  go_simp
  refine hK.out _ _ ⟨a0,a1,a2,a3,a4,a5,a6,E0,E1,E2,E3,E4,E5,E6,PT_w13.out.c2⟩ (fun hHeld => ?_)
  clear hK K
  refine tk_ ?_
  refine Sq.done (NoPanic.normal ?_)
  obtain ⟨cd,hcd⟩ : ∃ v,v = (failF (failF (failF (failF (failF (failF (failF 0 (hasB (keysOf b.hs b.os) e.Key) 9) (decide (chanIx (b : Bk).cs e.Ch < 0)) 6) (decide (chanIx (b : Bk).cs e.To < 0)) 6) (decide ((60 : Int) ≤ (b.hs.length : Int))) 14) nk 10) (decide (cF.Remote < sm)) 11) (decide (cT.Local < e.Amt)) 12):=⟨_,rfl⟩
  rw [← hcd] at HW_w13
  have HCcd:=hd_ hcd
  clear hcd
  clear a0 a1 a2 a3 a4 a5 a6 a7 af az E0 E1 E2 E3 E4 E5 E6
  obtain ⟨a0,a1,a2,a3,a4,a5,a6,a7,af,az⟩:=HW_w13.out.open_
  obtain ⟨E0,E1,E2,E3,E4,E5,E6,-,-⟩:=box7_ HE_w13.out
  have hcd9 : cd = failF (failF (failF (failF (failF (failF (failF 0 (hasB (keysOf b.hs b.os) e.Key) 9) (decide (chanIx b.cs e.Ch < 0)) 6) (decide (chanIx b.cs e.To < 0)) 6) (decide ((60 : Int) ≤ (b.hs.length : Int))) 14) (!feeOk cT.Base cT.Ppm e.Amt || !amtB (e.Amt + feeV cT.Base cT.Ppm e.Amt)) 10) (decide (cF.Remote < sumV cT e)) 11) (decide (cT.Local < e.Amt)) 12:=by unfold sumV;rw [HCcd.out,HNK.out,HSUM.out,HTWO.out,← HONE.out,HFV.out]
  obtain ⟨hcA,hcB⟩:=zyo HNE.out h60 (fun h9 => (HFF.out h9).2.2) (fun h9 => (HFT.out h9).2.2) hcd9
  have HCA:=hd_ hcA
  have HCB:=hd_ hcB
  clear hcA hcB hcd9
  cases tc : (cd != 0)
  ·
   have hcd0 : cd = 0:=by simpa using tc
   have tc2 : (cd == 0) = true:=by rw [hcd0];rfl
   obtain ⟨c9,mi,mo,c6,c14,c10,c11,c12⟩:=HCB.out hcd0
   have hsm2 : sm = e.Amt + fv:=by rw [HSUM.out];unfold addV;rw [if_pos];unfold sumOk at c10;simp only [Bool.and_eq_true] at c10;rw [HFV.out];exact c10.2
   have hsa : amtB sm = true:=by rw [hsm2,HFV.out];unfold sumOk at c10;simp only [Bool.and_eq_true] at c10;exact c10.2
   obtain ⟨am1,am2⟩:=zxu.1 hsa
   rw [← HFV.out,← hsm2] at c11
   clear hsa
   obtain ⟨hA,hoF,hcF⟩:=HFF.out mi
   obtain ⟨hA2,hoT,hcT⟩:=HFT.out mo
   have HCF:=hd_ hcF
   have HCT:=hd_ hcT
   have HSM2:=hd_ hsm2
   have HC9:=hd_ c9
   have HC6:=hd_ c6
   have HC10:=hd_ c10
   have KA:=hd_ hA
   have KF:=hd_ hoF
   have KA2:=hd_ hA2
   have KT:=hd_ hoT
   clear hcF hcT hsm2 c9 c6 c10 hA hoF hA2 hoT
   have pc0:=PF_w13.out.c0
   have pc1:=PF_w13.out.c1
   have pc2:=PF_w13.out.c2
   have pc3:=PF_w13.out.c3
   have pc4:=PF_w13.out.c4
   have pc5:=PF_w13.out.c5
   have pc6:=PF_w13.out.c6
   have qc0:=PT_w13.out.c0
   have qc1:=PT_w13.out.c1
   have qc2:=PT_w13.out.c2
   have qc3:=PT_w13.out.c3
   have qc4:=PT_w13.out.c4
   have qc5:=PT_w13.out.c5
   have qc6:=PT_w13.out.c6
   go_wp2_with fail
   refine zql (fun w' => kqiiissss w' X b.t b.n b.w A1 b.cs.length p1 A2 b.hs.length p2 A3 b.os.length p3 A4 ([].length) p4 (kqE w' EB e (kqiiiiiiio w' gF oF cF.Id cF.Size cF.Local cF.Remote cF.Base cF.Ppm cF.Score (kqiiiiiiio_ w' gT oT cT.Id cT.Size cT.Local cT.Remote cT.Base cT.Ppm cT.Score)))) [yF 0 88,yF 1 89,yF 2 90,yF 3 91,yF 4 92,yF 5 93,yF 6 94,yF 7 95,yT 8 96,yF 9 10] (by kernel_rfl) (by kernel_rfl) (by kernel_rfl) ⟨a0,a1,a2,a3,a4,a5,a6,E0,E1,E2,E3,E4,E5,E6,pc0,pc1,pc2,pc3,pc4,pc5,pc6,qc0,qc1,qc2,qc3,qc4,qc5,qc6⟩ (fun hHeld => ?_)
   obtain ⟨w14,hwd⟩ : ∃ wd,w13.drew = wd:=⟨_,rfl⟩
   have HW_w14 : Hid (Wk 136 w w14 B X b [] cd A1 A2 A3 A4 p1 p2 p3 p4):=hd_ (by rw [← hwd];exact HW_w13.out.drew)
   have HE_w14 : Hid (Hx w14 EB (evC e) 64):=hd_ (by rw [← hwd];exact zqf HE_w13.out)
   have PF_w14:=hd_ (show ChAt w14 gF oF cF by rw [← hwd];exact ⟨PF_w13.out.c0,PF_w13.out.c1,PF_w13.out.c2,PF_w13.out.c3,PF_w13.out.c4,PF_w13.out.c5,PF_w13.out.c6⟩)
   have PT_w14:=hd_ (show ChAt w14 gT oT cT by rw [← hwd];exact ⟨PT_w13.out.c0,PT_w13.out.c1,PT_w13.out.c2,PT_w13.out.c3,PT_w13.out.c4,PT_w13.out.c5,PT_w13.out.c6⟩)
   clear a0 a1 a2 a3 a4 a5 a6 a7 af az E0 E1 E2 E3 E4 E5 E6
   rw [hwd] at hHeld ⊢
   clear hwd
   obtain ⟨a0,a1,a2,a3,a4,a5,a6,a7,af,az⟩:=HW_w14.out.open_
   obtain ⟨E0,E1,E2,E3,E4,E5,E6,-,-⟩:=box7_ HE_w14.out
   refine tk_ ?_
   clear pc0 pc1 pc2 pc3 pc4 pc5 pc6 qc0 qc1 qc2 qc3 qc4 qc5 qc6
   have pc0:=PF_w14.out.c0
   have pc1:=PF_w14.out.c1
   have pc2:=PF_w14.out.c2
   have pc3:=PF_w14.out.c3
   have pc4:=PF_w14.out.c4
   have pc5:=PF_w14.out.c5
   have pc6:=PF_w14.out.c6
   have qc0:=PT_w14.out.c0
   have qc1:=PT_w14.out.c1
   have qc2:=PT_w14.out.c2
   have qc3:=PT_w14.out.c3
   have qc4:=PT_w14.out.c4
   have qc5:=PT_w14.out.c5
   have qc6:=PT_w14.out.c6
   refine tk_ ?_
   refine Sq.step rfl (by rfl) (fun K hK => ?_)
   go_simp
   clear pc0 pc1 pc2 pc3 pc4 pc5 pc6 qc0 qc1 qc2 qc3 qc4 qc5 qc6
   refine (zmu _ _ B X b [] cd A1 A2 A3 A4 p1 p2 p3 p4 cF cT e HSM.out HW_w14.out).mono ?_
   rintro e' w15 ⟨rfl,hb⟩
   have HW_w15:=hd_ (HW_w14.out.below hb)
   have HE_w15:=hd_ (zqc hb (gz_ HE_w14.out).1 HE_w14.out)
   have PF_w15:=hd_ (PF_w14.out.below hb)
   have PT_w15:=hd_ (PT_w14.out.below hb)
   clear hb
   clear a0 a1 a2 a3 a4 a5 a6 a7 af az E0 E1 E2 E3 E4 E5 E6
   obtain ⟨a0,a1,a2,a3,a4,a5,a6,a7,af,az⟩:=HW_w15.out.open_
   obtain ⟨E0,E1,E2,E3,E4,E5,E6,-,-⟩:=box7_ HE_w15.out
   obtain ⟨rm,hrm⟩ : ∃ v,v = roomF b.hs cT e.To e.Amt cF.Score e.Yes:=⟨_,rfl⟩
   rw [← hrm]
   have HRM:=hd_ hrm
   clear hrm
   go_simp
   refine hK.out _ _ ⟨a0,a1,a2,a3,a4,a5,a6,E0,E1,E2,E3,E4,E5,E6,PF_w15.out.c0,PF_w15.out.c1,PF_w15.out.c2,PF_w15.out.c3,PF_w15.out.c4,PF_w15.out.c5,PF_w15.out.c6,PT_w15.out.c0,PT_w15.out.c1,PT_w15.out.c2,PT_w15.out.c3,PT_w15.out.c4,PT_w15.out.c5,PT_w15.out.c6⟩ (fun hHeld => ?_)
   clear hK K
   refine tk_ ?_
   refine Sq.done (NoPanic.normal ?_)
   go_wp2_with fail
   refine (zxy _ _ B X b [] cd A1 A2 A3 A4 p1 p2 p3 p4 (rm == 0) 13 HW_w15.out).mono ?_
   rintro e' w16 ⟨rfl,hh,ho⟩
   have HW_w16:=hd_ (HW_w15.out.trans hh)
   have HE_w16:=hd_ (ho _ _ HXE.out HE_w15.out)
   have PF_w16:=hd_ (PF_w15.out.only ho PXF.out)
   have PT_w16:=hd_ (PT_w15.out.only ho PXT.out)
   clear hh ho
   clear a0 a1 a2 a3 a4 a5 a6 a7 af az E0 E1 E2 E3 E4 E5 E6
   obtain ⟨a0,a1,a2,a3,a4,a5,a6,a7,af,az⟩:=HW_w16.out.open_
   obtain ⟨E0,E1,E2,E3,E4,E5,E6,-,-⟩:=box7_ HE_w16.out
   have hid : (chanOf b.cs e.To).Id = e.To:=zml mo
   have HRM2 : Hid (roomF b.hs (chanOf b.cs e.To) (chanOf b.cs e.To).Id e.Amt (chanOf b.cs e.Ch).Score e.Yes = rm):=hd_ (by rw [hid,← HCF.out,← HCT.out];exact HRM.out.symm)
   clear hid
   cases tr : (rm == 0)
   ·
    have hrm0 : rm ≠ 0:=by simpa using tr
    clear a0 a1 a2 a3 a4 a5 a6 a7 af az E0 E1 E2 E3 E4 E5 E6
    rw [tr,zjz,hcd0] at HW_w16
    obtain ⟨a0,a1,a2,a3,a4,a5,a6,a7,af,az⟩:=HW_w16.out.open_
    obtain ⟨E0,E1,E2,E3,E4,E5,E6,-,-⟩:=box7_ HE_w16.out
    have HO:=hd_ (zhe (b:=b) (e:=e) (i:=chanOf b.cs e.Ch) (o:=chanOf b.cs e.To) HC9.out HC6.out c14 (by have:=HC10.out;rw [HCT.out] at this;exact this) (by rw [← HCF.out,← HCT.out,← HFV.out,← HSM2.out];exact c11) (by rw [← HCT.out];exact c12) (by rw [HRM2.out];exact hrm0))
    obtain ⟨u,hu⟩:=Int.eq_ofNat_of_zero_le mi
    obtain ⟨v,hv⟩:=Int.eq_ofNat_of_zero_le mo
    have hlu:=zxh hu
    have hlv:=zxh hv
    have HU:=hd_ hu
    have HV:=hd_ hv
    have hA:=KA.out
    have hA2:=KA2.out
    have hoF:=KF.out
    have hoT:=KT.out
    clear KA KA2 KF KT
    subst hA
    injection hA2 with hA2
    injection hA2 with hA2
    subst hA2
    rw [hu,Int.toNat_natCast] at hoF
    rw [hv,Int.toNat_natCast] at hoT
    subst hoF hoT
    clear hu hv mi mo
    clear a0 a1 a2 a3 a4 a5 a6 a7 af az E0 E1 E2 E3 E4 E5 E6
    obtain ⟨a0,a1,a2,a3,a4,a5,a6,a7,af,az⟩:=HW_w16.out.open_
    obtain ⟨E0,E1,E2,E3,E4,E5,E6,-,-⟩:=box7_ HE_w16.out
    go_wp2_with fail
    refine zqq (fun w' => kqiiissss w' X b.t b.n b.w (some ⟨gF,0,none⟩) b.cs.length p1 A2 b.hs.length p2 A3 b.os.length p3 A4 ([].length) p4 (kqE_ w' EB e)) [yF 0 106,yF 1 107,yF 2 108,yF 3 109,yF 4 110,yF 5 111,yF 6 112,yF 7 113,yF 8 114,yF 9 115,yF 10 116,yF 11 117,yF 12 118,yF 13 119,yF 14 120,yF 15 121,yF 16 122,yF 17 123,yT 18 124,yT 19 125,yF 20 126,yF 21 127,yF 22 128] rfl (by kernel_rfl) (by kernel_rfl) (by kernel_rfl) (by kernel_rfl) (by kernel_rfl) (by kernel_rfl) ⟨a0,a1,a2,a3,a4,a5,a6,E0,E1,E2,E3,E4,E5,E6⟩ (fun hHeld => ?_)
    obtain ⟨w17,hwd⟩ : ∃ wd,w16.drew = wd:=⟨_,rfl⟩
    have HW_w17 : Hid (Wk 136 w w17 B X b [] 0 (some ⟨gF,0,none⟩) A2 A3 A4 p1 p2 p3 p4):=hd_ (by rw [← hwd];exact HW_w16.out.drew)
    have HE_w17 : Hid (Hx w17 EB (evC e) 64):=hd_ (by rw [← hwd];exact zqf HE_w16.out)
    clear a0 a1 a2 a3 a4 a5 a6 a7 af az E0 E1 E2 E3 E4 E5 E6
    rw [hwd] at hHeld ⊢
    clear hwd
    obtain ⟨a0,a1,a2,a3,a4,a5,a6,a7,af,az⟩:=HW_w17.out.open_
    obtain ⟨E0,E1,E2,E3,E4,E5,E6,-,-⟩:=box7_ HE_w17.out
    refine tk_ ?_
    refine Sq.step rfl (by rfl) (fun K hK => ?_)
    go_simp
    refine zxm (fun w18 hw => ?_)
    have HW_w18 : Hid (Wk 136 w w18 B X b [] 0 (some ⟨gF,0,none⟩) A2 A3 A4 p1 p2 p3 p4):=hd_ (by rw [hw];exact HW_w17.out.alloc _)
    have HE_w18 : Hid (Hx w18 EB (evC e) 64):=hd_ (by rw [hw];exact zqe (gz_ HE_w17.out).1 HE_w17.out)
    have HB : Hid (w18.heap[w17.heap.size]? = some (.cells #[.int .i64 e.Key,.int .i64 e.Ch,.int .i64 e.To,.int .i64 sm,.int .i64 e.Amt,.bool (rm == 2),.int .i64 0] 70 (0,0))):=hd_ (by rw [hw];exact zqk rfl)
    clear hw
    clear a0 a1 a2 a3 a4 a5 a6 a7 af az E0 E1 E2 E3 E4 E5 E6
    obtain ⟨a0,a1,a2,a3,a4,a5,a6,a7,af,az⟩:=HW_w18.out.open_
    obtain ⟨E0,E1,E2,E3,E4,E5,E6,-,-⟩:=box7_ HE_w18.out
    go_simp
    refine hK.out _ _ ⟨a0,a1,a2,a3,a4,a5,a6,E0,E1,E2,E3,E4,E5,E6⟩ (fun hHeld => ?_)
    clear hK K
    refine tk_ ?_
    refine Sq.step rfl (by rfl) (fun K hK => ?_)
    refine zjf (ops:=#[]) (E:=True) rfl (zkh rfl _ _ _ rfl B 70 i0 _ 7 56 Tryz.underlying36 HI0.out HI1.out HI2.out HI3.out rfl (by decide) (.slice A2 b.hs.length p2) _ (by rfl) HW_w18.out.o.h w17.heap.size 1 [.int .i64 e.Key,.int .i64 e.Ch,.int .i64 e.To,.int .i64 sm,.int .i64 e.Amt,.bool (rm == 2),.int .i64 0] 70 (by rfl) HB.out rfl (by simp [Value.oneCell']) (by rw [List.length_map];omega) (by decide) HW_w18.out.ble ?_)
    intro g2 cap2 w19 how2 hgr2 hat2 hlt2
    have HA:=hd_ (HW_w18.out.appH (by decide) (by decide) (by decide) (by decide) (c:=⟨e.Key,e.Ch,e.To,sm,e.Amt,(rm == 2),0⟩) how2 hgr2)
    have HE_w19 : Hid (Hx w19 EB (evC e) 64):=hd_ (zqj hgr2 (HW_w18.out.o.h.ne_ HE_w18.out (by decide)) HE_w18.out)
    clear how2 hgr2 hat2 HB
    rw [List.length_map]
    clear a0 a1 a2 a3 a4 a5 a6 a7 af az E0 E1 E2 E3 E4 E5 E6
    obtain ⟨_,a0,a1,a2,a3,a4,a5,a6,a7,af,az⟩:=own8 HA.out.1
    obtain ⟨E0,E1,E2,E3,E4,E5,E6,-,-⟩:=box7_ HE_w19.out
    go_simp
    refine hK.out _ _ ⟨a0,a1,a2,a3,a4,a5,a6,E0,E1,E2,E3,E4,E5,E6⟩ (fun hHeld => ?_)
    clear hK K
    refine tk_ ?_
    refine Sq.done ?_
    intro KK hKK
    go_simp
    refine hKK _ _ (NoPanic.normal ?_)
    refine nm_ ?_
    intro w20 hw
    have HW_w20 : Hid (Wk 136 w w20 B X ⟨b.t,b.n,b.w,b.cs,(b.hs ++ [⟨e.Key,e.Ch,e.To,sm,e.Amt,(rm == 2),0⟩]),b.os⟩ [] 0 (some ⟨gF,0,none⟩) (some ⟨g2,0,none⟩) A3 A4 p1 cap2 p3 p4):=hd_ (by rw [hw];exact HA.out.2)
    have HE_w20 : Hid (Hx w20 EB (evC e) 64):=hd_ (by rw [hw];exact zqb HXE.out HE_w19.out)
    clear hw
    clear a0 a1 a2 a3 a4 a5 a6 a7 af az E0 E1 E2 E3 E4 E5 E6
    obtain ⟨a0,a1,a2,a3,a4,a5,a6,a7,af,az⟩:=HW_w20.out.open_
    obtain ⟨E0,E1,E2,E3,E4,E5,E6,-,-⟩:=box7_ HE_w20.out
    clear HA
    obtain ⟨hs1,hhs1⟩ : ∃ l,b.hs ++ [(⟨e.Key,e.Ch,e.To,sm,e.Amt,rm == 2,0⟩ : Htlc)] = l:=⟨_,rfl⟩
    rw [hhs1] at HW_w20
    have HHS1:=hd_ hhs1
    clear hhs1
    clear a0 a1 a2 a3 a4 a5 a6 a7 af az E0 E1 E2 E3 E4 E5 E6
    obtain ⟨a0,a1,a2,a3,a4,a5,a6,a7,af,az⟩:=HW_w20.out.open_
    obtain ⟨E0,E1,E2,E3,E4,E5,E6,-,-⟩:=box7_ HE_w20.out
    obtain ⟨c,hc⟩ : ∃ c,b.cs[u]'hlu = c:=⟨_,rfl⟩
    have hr : (b.cs.map Chan.cells)[u]? = some c.cells:=by rw [List.getElem?_map,List.getElem?_eq_getElem hlu,hc];rfl
    obtain ⟨y0,y1,y2,y3,y4,y5,y6⟩:=c
    have HRowy:=hd_ hr
    have HCIy:=hd_ hc
    clear hr hc
    have hb1:=HBD.out _ (List.getElem_mem hlu)
    rw [HCIy.out] at hb1
    simp only at hb1
    have yc:=HW_w20.out.o.c.cellAt HRowy.out (j:=3) (by decide)
    simp only [Chan.cells,List.getElem?_cons_zero,List.getElem?_cons_succ] at yc
    have yf:=fun j => HW_w20.out.o.c.frozenAt j
    go_upto_region 17 with fail
    clear yc yf
    refine nm_ ?_
    intro w21 hw
    have HW_w21 : Hid (Wk 136 w w21 B X ⟨b.t,b.n,b.w,(b.cs.set u ⟨y0,y1,y2,(y3 - sm),y4,y5,y6⟩),hs1,b.os⟩ [] 0 (some ⟨gF,0,none⟩) (some ⟨g2,0,none⟩) A3 A4 p1 cap2 p3 p4):=hd_ (by rw [hw];exact HW_w20.out.putCell (c':=⟨y0,y1,y2,(y3 - sm),y4,y5,y6⟩) (by decide) hlu (by decide) (by rw [HCIy.out];rfl))
    have HE_w21 : Hid (Hx w21 EB (evC e) 64):=hd_ (by rw [hw];exact zqb (fun e9 => HW_w20.out.o.c.ne_ HE_w20.out (by decide) (by rw [e9];rfl)) HE_w20.out)
    clear hw
    clear a0 a1 a2 a3 a4 a5 a6 a7 af az E0 E1 E2 E3 E4 E5 E6
    obtain ⟨a0,a1,a2,a3,a4,a5,a6,a7,af,az⟩:=HW_w21.out.open_
    obtain ⟨E0,E1,E2,E3,E4,E5,E6,-,-⟩:=box7_ HE_w21.out
    obtain ⟨cs1,hc3⟩ : ∃ v9,(b.cs.set u ⟨y0,y1,y2,(y3 - sm),y4,y5,y6⟩) = v9:=⟨_,rfl⟩
    rw [hc3] at HW_w21
    have Hcs1:=hd_ hc3
    clear hc3
    clear a0 a1 a2 a3 a4 a5 a6 a7 af az E0 E1 E2 E3 E4 E5 E6
    obtain ⟨a0,a1,a2,a3,a4,a5,a6,a7,af,az⟩:=HW_w21.out.open_
    obtain ⟨E0,E1,E2,E3,E4,E5,E6,-,-⟩:=box7_ HE_w21.out
    have HM1 : Hid (moveC b.cs e.Ch 0 (-sm) = cs1):=hd_ (by rw [← Hcs1.out,zvu HU.out hlu HCIy.out];rw [Int.sub_eq_add_neg])
    have hix1 : ∀ ch,chanIx cs1 ch = chanIx b.cs ch:=by rw [← HM1.out];exact fun ch => zxj _ _ _ _ ch
    have hl1 : cs1.length = b.cs.length:=by rw [← HM1.out];exact zxc _ _ _ _
    have HBD1 : Hid (Bd (1125899906842624 + 1125899906842624) cs1):=hd_ (by rw [← HM1.out];exact HBD.out.move _ _ _ (by omega) (by omega))
    have hlv1 : v < cs1.length:=by omega
    have HIX1:=hd_ hix1
    clear hix1
    obtain ⟨c,hc⟩ : ∃ c,cs1[v]'hlv1 = c:=⟨_,rfl⟩
    have hr : (cs1.map Chan.cells)[v]? = some c.cells:=by rw [List.getElem?_map,List.getElem?_eq_getElem hlv1,hc];rfl
    obtain ⟨z0,z1,z2,z3,z4,z5,z6⟩:=c
    have HRowz:=hd_ hr
    have HCIz:=hd_ hc
    clear hr hc
    have hb2:=HBD1.out _ (List.getElem_mem hlv1)
    rw [HCIz.out] at hb2
    simp only at hb2
    have ws : IntKind.i64.wrap (z2 - e.Amt) = z2 - e.Amt:=IntWalk.i64_in _ ⟨by omega,by omega⟩
    have yc:=HW_w21.out.o.c.cellAt HRowz.out (j:=2) (by decide)
    simp only [Chan.cells,List.getElem?_cons_zero,List.getElem?_cons_succ] at yc
    refine zqq (fun w' => kqiiissss w' X b.t b.n b.w (some ⟨gF,0,none⟩) cs1.length p1 (some ⟨g2,0,none⟩) hs1.length cap2 A3 b.os.length p3 A4 ([].length) p4 (kqE w' EB e (kqio_ w' gF (v * 7 + 2) z2))) [yF 0 137,yF 1 138,yF 2 139,yF 3 140,yF 4 141,yF 5 142,yF 6 143,yF 7 144,yF 8 145] rfl (by kernel_rfl) (by kernel_rfl) (by kernel_rfl) (by kernel_rfl) (by kernel_rfl) (by kernel_rfl) ⟨a0,a1,a2,a3,a4,a5,a6,E0,E1,E2,E3,E4,E5,E6,yc⟩ (fun hHeld => ?_)
    obtain ⟨w22,hwd⟩ : ∃ wd,w21.drew = wd:=⟨_,rfl⟩
    have HW_w22 : Hid (Wk 136 w w22 B X ⟨b.t,b.n,b.w,cs1,hs1,b.os⟩ [] 0 (some ⟨gF,0,none⟩) (some ⟨g2,0,none⟩) A3 A4 p1 cap2 p3 p4):=hd_ (by rw [← hwd];exact HW_w21.out.drew)
    have HE_w22 : Hid (Hx w22 EB (evC e) 64):=hd_ (by rw [← hwd];exact zqf HE_w21.out)
    clear a0 a1 a2 a3 a4 a5 a6 a7 af az E0 E1 E2 E3 E4 E5 E6
    rw [hwd] at hHeld ⊢
    clear hwd
    obtain ⟨a0,a1,a2,a3,a4,a5,a6,a7,af,az⟩:=HW_w22.out.open_
    obtain ⟨E0,E1,E2,E3,E4,E5,E6,-,-⟩:=box7_ HE_w22.out
    refine tk_ ?_
    clear yc
    have yc:=HW_w22.out.o.c.cellAt HRowz.out (j:=2) (by decide)
    simp only [Chan.cells,List.getElem?_cons_zero,List.getElem?_cons_succ] at yc
    have yf:=fun j => HW_w22.out.o.c.frozenAt j
    refine Sq.done ?_
    intro KK hKK
    go_simp
    refine hKK _ _ (NoPanic.normal ?_)
    clear yc yf
    refine nm_ ?_
    intro w23 hw
    have HW_w23 : Hid (Wk 136 w w23 B X ⟨b.t,b.n,b.w,(cs1.set v ⟨z0,z1,(z2 - e.Amt),z3,z4,z5,z6⟩),hs1,b.os⟩ [] 0 (some ⟨gF,0,none⟩) (some ⟨g2,0,none⟩) A3 A4 p1 cap2 p3 p4):=hd_ (by rw [hw];exact HW_w22.out.putCell (c':=⟨z0,z1,(z2 - e.Amt),z3,z4,z5,z6⟩) (by decide) hlv1 (by decide) (by rw [HCIz.out];rfl))
    have HE_w23 : Hid (Hx w23 EB (evC e) 64):=hd_ (by rw [hw];exact zqb (fun e9 => HW_w22.out.o.c.ne_ HE_w22.out (by decide) (by rw [e9];rfl)) HE_w22.out)
    clear hw
    clear a0 a1 a2 a3 a4 a5 a6 a7 af az E0 E1 E2 E3 E4 E5 E6
    obtain ⟨a0,a1,a2,a3,a4,a5,a6,a7,af,az⟩:=HW_w23.out.open_
    obtain ⟨E0,E1,E2,E3,E4,E5,E6,-,-⟩:=box7_ HE_w23.out
    obtain ⟨cs2,hc3⟩ : ∃ v9,(cs1.set v ⟨z0,z1,(z2 - e.Amt),z3,z4,z5,z6⟩) = v9:=⟨_,rfl⟩
    rw [hc3] at HW_w23
    have Hcs2:=hd_ hc3
    clear hc3
    clear a0 a1 a2 a3 a4 a5 a6 a7 af az E0 E1 E2 E3 E4 E5 E6
    obtain ⟨a0,a1,a2,a3,a4,a5,a6,a7,af,az⟩:=HW_w23.out.open_
    obtain ⟨E0,E1,E2,E3,E4,E5,E6,-,-⟩:=box7_ HE_w23.out
    clear ws
    have HM2 : Hid (moveC cs1 e.To (-e.Amt) 0 = cs2):=hd_ (by rw [← Hcs2.out,zvt (by rw [HIX1.out];exact HV.out) hlv1 HCIz.out];rw [Int.sub_eq_add_neg])
    go_wp2_with fail
    refine (zxz _ _ B X ⟨b.t,b.n,b.w,cs2,hs1,b.os⟩ [] 0 (some ⟨gF,0,none⟩) (some ⟨g2,0,none⟩) A3 A4 p1 cap2 p3 p4 6 e.To (-e.Amt) (by decide) (by (try simp only);omega) (fun y hy => by cases hy) (fun y hy => by cases hy) HW_w23.out).mono ?_
    rintro e' w24 ⟨⟨Cw240,Cw241,Cw242,Cw243,rw240,rw241,rw242,rw243,rfl,hh⟩,ho⟩
    have HE_w24:=hd_ (ho _ _ HXE.out HE_w23.out)
    obtain ⟨M0,hL9⟩ : ∃ v,lineTo [] 6 e.To (-e.Amt) = v:=⟨_,rfl⟩
    rw [hL9] at hh
    have HMl0:=hd_ hL9
    have HW_w24:=hd_ (HW_w23.out.trans hh)
    clear hh ho hL9
    clear a0 a1 a2 a3 a4 a5 a6 a7 af az E0 E1 E2 E3 E4 E5 E6
    obtain ⟨a0,a1,a2,a3,a4,a5,a6,a7,af,az⟩:=HW_w24.out.open_
    obtain ⟨E0,E1,E2,E3,E4,E5,E6,-,-⟩:=box7_ HE_w24.out
    have HLM0 : Hid (M0.length ≤ 1):=hd_ (by rw [← HMl0.out];have h9:=zqr [] (6) (e.To) ((-e.Amt));have h8 : ([] : List Line).length ≤ 0:=Nat.le_refl _;omega)
    have HQ0 : Hid (∀ y ∈ M0,y = ⟨6,e.To,(-e.Amt)⟩):=hd_ (fun y hy => by rw [← HMl0.out] at hy;rcases zxe (fun y hy => by cases hy) hy with h9 | h9;cases h9;exact h9)
    go_wp2_with fail
    refine (zxz _ _ B X ⟨b.t,b.n,b.w,cs2,hs1,b.os⟩ M0 0 Cw240 Cw241 Cw242 Cw243 rw240 rw241 rw242 rw243 8 e.To e.Amt (by have:=HLM0.out;omega) (by (try simp only);omega) (fun y hy => by rcases HQ0.out y hy with rfl <;> (simp only;omega)) (fun y hy => by rcases HQ0.out y hy with rfl <;> (simp only;omega)) HW_w24.out).mono ?_
    rintro e' w25 ⟨⟨Cw250,Cw251,Cw252,Cw253,rw250,rw251,rw252,rw253,rfl,hh⟩,ho⟩
    have HE_w25:=hd_ (ho _ _ HXE.out HE_w24.out)
    obtain ⟨M1,hL9⟩ : ∃ v,lineTo M0 8 e.To e.Amt = v:=⟨_,rfl⟩
    rw [hL9] at hh
    have HMl1:=hd_ hL9
    have HW_w25:=hd_ (HW_w24.out.trans hh)
    clear hh ho hL9
    clear a0 a1 a2 a3 a4 a5 a6 a7 af az E0 E1 E2 E3 E4 E5 E6
    obtain ⟨a0,a1,a2,a3,a4,a5,a6,a7,af,az⟩:=HW_w25.out.open_
    obtain ⟨E0,E1,E2,E3,E4,E5,E6,-,-⟩:=box7_ HE_w25.out
    have HLM1 : Hid (M1.length ≤ 2):=hd_ (by rw [← HMl1.out];have h9:=zqr M0 (8) (e.To) (e.Amt);have h8 : (M0).length ≤ 1:=HLM0.out;omega)
    have HQ1 : Hid (∀ y ∈ M1,y = ⟨6,e.To,(-e.Amt)⟩ ∨ y = ⟨8,e.To,e.Amt⟩):=hd_ (fun y hy => by rw [← HMl1.out] at hy;rcases zxe (fun y hy => by rcases HQ0.out y hy with rfl <;> (simp only;omega)) hy with h9 | h9;exact HQ0.out y h9 |> Or.inl;exact Or.inr h9)
    go_wp2_with fail
    go_end0
    rw [HO.out]
    have HZ : nz [⟨6,e.To,(-e.Amt)⟩,⟨8,e.To,e.Amt⟩] = M1:=by rw [← HMl1.out,← HMl0.out];exact (line2 (by decide)).symm
    rw [HZ,HRM2.out,← HCT.out,← HFV.out,← HSM2.out,HM1.out,HM2.out,HHS1.out]
    exact Acts.ok ⟨_,_,_,_,_,_,_,_,rfl,HW_w25.out⟩
   ·
    have hrm0:=eq_of_beq tr
    clear a0 a1 a2 a3 a4 a5 a6 a7 af az E0 E1 E2 E3 E4 E5 E6
    rw [tr,hcd0,show failF 0 true 13 = 13 from rfl] at HW_w16
    obtain ⟨a0,a1,a2,a3,a4,a5,a6,a7,af,az⟩:=HW_w16.out.open_
    obtain ⟨E0,E1,E2,E3,E4,E5,E6,-,-⟩:=box7_ HE_w16.out
    have HO:=hd_ (zhd (b:=b) (e:=e) (i:=chanOf b.cs e.Ch) (o:=chanOf b.cs e.To) HC9.out HC6.out c14 (by have:=HC10.out;rw [HCT.out] at this;exact this) (by rw [← HCF.out,← HCT.out,← HFV.out,← HSM2.out];exact c11) (by rw [← HCT.out];exact c12) (by rw [HRM2.out];exact hrm0))
    go_wp2_with fail
    go_end0
    rw [HO.out]
    exact Acts.no (by decide) ⟨_,_,_,_,_,_,_,_,rfl,HW_w16.out⟩
  ·
   have hne : cd ≠ 0:=by simpa using tc
   have tc2 : (cd == 0) = false:=by rw [beq_eq_false_iff_ne];exact hne
   go_wp2_with fail
   go_end0
   rw [HCA.out hne]
   exact Acts.no hne ⟨_,_,_,_,_,_,_,_,rfl,HW_w13.out⟩
 ·
  have hnk2 : nk = (!two):=by rw [HNK.out,hone2];rfl
  clear hone2
  go_wp2_with fail
  rw [← hnk2]
  clear hnk2
  refine (zxy _ _ B X b [] (failF (failF (failF (failF 0 (hasB (keysOf b.hs b.os) e.Key) 9) (decide (chanIx (b : Bk).cs e.Ch < 0)) 6) (decide (chanIx (b : Bk).cs e.To < 0)) 6) (decide ((60 : Int) ≤ (b.hs.length : Int))) 14) A1 A2 A3 A4 p1 p2 p3 p4 nk 10 HW_w9.out).mono ?_
  rintro e' w10 ⟨rfl,hh,ho⟩
  have HW_w10:=hd_ (HW_w9.out.trans hh)
  have HE_w10:=hd_ (ho _ _ HXE.out HE_w9.out)
  have PF_w10:=hd_ (PF_w9.out.only ho PXF.out)
  have PT_w10:=hd_ (PT_w9.out.only ho PXT.out)
  clear hh ho
  clear a0 a1 a2 a3 a4 a5 a6 a7 af az E0 E1 E2 E3 E4 E5 E6
  obtain ⟨a0,a1,a2,a3,a4,a5,a6,a7,af,az⟩:=HW_w10.out.open_
  obtain ⟨E0,E1,E2,E3,E4,E5,E6,-,-⟩:=box7_ HE_w10.out
  have pc0:=PF_w10.out.c0
  have pc1:=PF_w10.out.c1
  have pc2:=PF_w10.out.c2
  have pc3:=PF_w10.out.c3
  have pc4:=PF_w10.out.c4
  have pc5:=PF_w10.out.c5
  have pc6:=PF_w10.out.c6
  go_wp2_with fail
  refine (zxy _ _ B X b [] (failF (failF (failF (failF (failF 0 (hasB (keysOf b.hs b.os) e.Key) 9) (decide (chanIx (b : Bk).cs e.Ch < 0)) 6) (decide (chanIx (b : Bk).cs e.To < 0)) 6) (decide ((60 : Int) ≤ (b.hs.length : Int))) 14) nk 10) A1 A2 A3 A4 p1 p2 p3 p4 (decide (cF.Remote < sm)) 11 HW_w10.out).mono ?_
  rintro e' w11 ⟨rfl,hh,ho⟩
  have HW_w11:=hd_ (HW_w10.out.trans hh)
  have HE_w11:=hd_ (ho _ _ HXE.out HE_w10.out)
  have PF_w11:=hd_ (PF_w10.out.only ho PXF.out)
  have PT_w11:=hd_ (PT_w10.out.only ho PXT.out)
  clear hh ho
  clear a0 a1 a2 a3 a4 a5 a6 a7 af az E0 E1 E2 E3 E4 E5 E6
  obtain ⟨a0,a1,a2,a3,a4,a5,a6,a7,af,az⟩:=HW_w11.out.open_
  obtain ⟨E0,E1,E2,E3,E4,E5,E6,-,-⟩:=box7_ HE_w11.out
  clear pc0 pc1 pc2 pc3 pc4 pc5 pc6
  have pc0:=PT_w11.out.c0
  have pc1:=PT_w11.out.c1
  have pc2:=PT_w11.out.c2
  have pc3:=PT_w11.out.c3
  have pc4:=PT_w11.out.c4
  have pc5:=PT_w11.out.c5
  have pc6:=PT_w11.out.c6
  go_wp2_with fail
  refine zql (fun w' => kqiiissss w' X b.t b.n b.w A1 b.cs.length p1 A2 b.hs.length p2 A3 b.os.length p3 A4 ([].length) p4 (kqE w' EB e (kqio_ w' gT (oT + 2) cT.Local))) [yF 0 74,yF 1 75,yF 2 76,yF 3 77,yF 4 78,yF 5 79,yF 6 80,yF 7 81,yT 8 82] (by kernel_rfl) (by kernel_rfl) (by kernel_rfl) ⟨a0,a1,a2,a3,a4,a5,a6,E0,E1,E2,E3,E4,E5,E6,pc2⟩ (fun hHeld => ?_)
  obtain ⟨w12,hwd⟩ : ∃ wd,w11.drew = wd:=⟨_,rfl⟩
  have HW_w12 : Hid (Wk 136 w w12 B X b [] (failF (failF (failF (failF (failF (failF 0 (hasB (keysOf b.hs b.os) e.Key) 9) (decide (chanIx (b : Bk).cs e.Ch < 0)) 6) (decide (chanIx (b : Bk).cs e.To < 0)) 6) (decide ((60 : Int) ≤ (b.hs.length : Int))) 14) nk 10) (decide (cF.Remote < sm)) 11) A1 A2 A3 A4 p1 p2 p3 p4):=hd_ (by rw [← hwd];exact HW_w11.out.drew)
  have HE_w12 : Hid (Hx w12 EB (evC e) 64):=hd_ (by rw [← hwd];exact zqf HE_w11.out)
  have PF_w12:=hd_ (show ChAt w12 gF oF cF by rw [← hwd];exact ⟨PF_w11.out.c0,PF_w11.out.c1,PF_w11.out.c2,PF_w11.out.c3,PF_w11.out.c4,PF_w11.out.c5,PF_w11.out.c6⟩)
  have PT_w12:=hd_ (show ChAt w12 gT oT cT by rw [← hwd];exact ⟨PT_w11.out.c0,PT_w11.out.c1,PT_w11.out.c2,PT_w11.out.c3,PT_w11.out.c4,PT_w11.out.c5,PT_w11.out.c6⟩)
  clear a0 a1 a2 a3 a4 a5 a6 a7 af az E0 E1 E2 E3 E4 E5 E6
  rw [hwd] at hHeld ⊢
  clear hwd
  obtain ⟨a0,a1,a2,a3,a4,a5,a6,a7,af,az⟩:=HW_w12.out.open_
  obtain ⟨E0,E1,E2,E3,E4,E5,E6,-,-⟩:=box7_ HE_w12.out
  refine tk_ ?_
  clear pc0 pc1 pc2 pc3 pc4 pc5 pc6
  have pc0:=PT_w12.out.c0
  have pc1:=PT_w12.out.c1
  have pc2:=PT_w12.out.c2
  have pc3:=PT_w12.out.c3
  have pc4:=PT_w12.out.c4
  have pc5:=PT_w12.out.c5
  have pc6:=PT_w12.out.c6
  refine tk_ ?_
  refine Sq.step rfl (by rfl) (fun K hK => ?_)
  go_simp
  clear pc0 pc1 pc2 pc3 pc4 pc5 pc6
  refine (zxy _ _ B X b [] (failF (failF (failF (failF (failF (failF 0 (hasB (keysOf b.hs b.os) e.Key) 9) (decide (chanIx (b : Bk).cs e.Ch < 0)) 6) (decide (chanIx (b : Bk).cs e.To < 0)) 6) (decide ((60 : Int) ≤ (b.hs.length : Int))) 14) nk 10) (decide (cF.Remote < sm)) 11) A1 A2 A3 A4 p1 p2 p3 p4 (decide (cT.Local < e.Amt)) 12 HW_w12.out).mono ?_
  rintro e' w13 ⟨rfl,hh,ho⟩
  have HW_w13:=hd_ (HW_w12.out.trans hh)
  have HE_w13:=hd_ (ho _ _ HXE.out HE_w12.out)
  have PF_w13:=hd_ (PF_w12.out.only ho PXF.out)
  have PT_w13:=hd_ (PT_w12.out.only ho PXT.out)
  clear hh ho
  clear a0 a1 a2 a3 a4 a5 a6 a7 af az E0 E1 E2 E3 E4 E5 E6
  obtain ⟨a0,a1,a2,a3,a4,a5,a6,a7,af,az⟩:=HW_w13.out.open_
  obtain ⟨E0,E1,E2,E3,E4,E5,E6,-,-⟩:=box7_ HE_w13.out
  go_simp
  refine hK.out _ _ ⟨a0,a1,a2,a3,a4,a5,a6,E0,E1,E2,E3,E4,E5,E6,PT_w13.out.c2⟩ (fun hHeld => ?_)
  clear hK K
  refine tk_ ?_
  refine Sq.done (NoPanic.normal ?_)
  obtain ⟨cd,hcd⟩ : ∃ v,v = (failF (failF (failF (failF (failF (failF (failF 0 (hasB (keysOf b.hs b.os) e.Key) 9) (decide (chanIx (b : Bk).cs e.Ch < 0)) 6) (decide (chanIx (b : Bk).cs e.To < 0)) 6) (decide ((60 : Int) ≤ (b.hs.length : Int))) 14) nk 10) (decide (cF.Remote < sm)) 11) (decide (cT.Local < e.Amt)) 12):=⟨_,rfl⟩
  rw [← hcd] at HW_w13
  have HCcd:=hd_ hcd
  clear hcd
  clear a0 a1 a2 a3 a4 a5 a6 a7 af az E0 E1 E2 E3 E4 E5 E6
  obtain ⟨a0,a1,a2,a3,a4,a5,a6,a7,af,az⟩:=HW_w13.out.open_
  obtain ⟨E0,E1,E2,E3,E4,E5,E6,-,-⟩:=box7_ HE_w13.out
  have hcd9 : cd = failF (failF (failF (failF (failF (failF (failF 0 (hasB (keysOf b.hs b.os) e.Key) 9) (decide (chanIx b.cs e.Ch < 0)) 6) (decide (chanIx b.cs e.To < 0)) 6) (decide ((60 : Int) ≤ (b.hs.length : Int))) 14) (!feeOk cT.Base cT.Ppm e.Amt || !amtB (e.Amt + feeV cT.Base cT.Ppm e.Amt)) 10) (decide (cF.Remote < sumV cT e)) 11) (decide (cT.Local < e.Amt)) 12:=by unfold sumV;rw [HCcd.out,HNK.out,HSUM.out,HTWO.out,← HONE.out,HFV.out]
  obtain ⟨hcA,hcB⟩:=zyo HNE.out h60 (fun h9 => (HFF.out h9).2.2) (fun h9 => (HFT.out h9).2.2) hcd9
  have HCA:=hd_ hcA
  have HCB:=hd_ hcB
  clear hcA hcB hcd9
  cases tc : (cd != 0)
  ·
   have hcd0 : cd = 0:=by simpa using tc
   have tc2 : (cd == 0) = true:=by rw [hcd0];rfl
   obtain ⟨c9,mi,mo,c6,c14,c10,c11,c12⟩:=HCB.out hcd0
   have hsm2 : sm = e.Amt + fv:=by rw [HSUM.out];unfold addV;rw [if_pos];unfold sumOk at c10;simp only [Bool.and_eq_true] at c10;rw [HFV.out];exact c10.2
   have hsa : amtB sm = true:=by rw [hsm2,HFV.out];unfold sumOk at c10;simp only [Bool.and_eq_true] at c10;exact c10.2
   obtain ⟨am1,am2⟩:=zxu.1 hsa
   rw [← HFV.out,← hsm2] at c11
   clear hsa
   obtain ⟨hA,hoF,hcF⟩:=HFF.out mi
   obtain ⟨hA2,hoT,hcT⟩:=HFT.out mo
   have HCF:=hd_ hcF
   have HCT:=hd_ hcT
   have HSM2:=hd_ hsm2
   have HC9:=hd_ c9
   have HC6:=hd_ c6
   have HC10:=hd_ c10
   have KA:=hd_ hA
   have KF:=hd_ hoF
   have KA2:=hd_ hA2
   have KT:=hd_ hoT
   clear hcF hcT hsm2 c9 c6 c10 hA hoF hA2 hoT
   have pc0:=PF_w13.out.c0
   have pc1:=PF_w13.out.c1
   have pc2:=PF_w13.out.c2
   have pc3:=PF_w13.out.c3
   have pc4:=PF_w13.out.c4
   have pc5:=PF_w13.out.c5
   have pc6:=PF_w13.out.c6
   have qc0:=PT_w13.out.c0
   have qc1:=PT_w13.out.c1
   have qc2:=PT_w13.out.c2
   have qc3:=PT_w13.out.c3
   have qc4:=PT_w13.out.c4
   have qc5:=PT_w13.out.c5
   have qc6:=PT_w13.out.c6
   go_wp2_with fail
   refine zql (fun w' => kqiiissss w' X b.t b.n b.w A1 b.cs.length p1 A2 b.hs.length p2 A3 b.os.length p3 A4 ([].length) p4 (kqE w' EB e (kqiiiiiiio w' gF oF cF.Id cF.Size cF.Local cF.Remote cF.Base cF.Ppm cF.Score (kqiiiiiiio_ w' gT oT cT.Id cT.Size cT.Local cT.Remote cT.Base cT.Ppm cT.Score)))) [yF 0 88,yF 1 89,yF 2 90,yF 3 91,yF 4 92,yF 5 93,yF 6 94,yF 7 95,yT 8 96,yF 9 10] (by kernel_rfl) (by kernel_rfl) (by kernel_rfl) ⟨a0,a1,a2,a3,a4,a5,a6,E0,E1,E2,E3,E4,E5,E6,pc0,pc1,pc2,pc3,pc4,pc5,pc6,qc0,qc1,qc2,qc3,qc4,qc5,qc6⟩ (fun hHeld => ?_)
   obtain ⟨w14,hwd⟩ : ∃ wd,w13.drew = wd:=⟨_,rfl⟩
   have HW_w14 : Hid (Wk 136 w w14 B X b [] cd A1 A2 A3 A4 p1 p2 p3 p4):=hd_ (by rw [← hwd];exact HW_w13.out.drew)
   have HE_w14 : Hid (Hx w14 EB (evC e) 64):=hd_ (by rw [← hwd];exact zqf HE_w13.out)
   have PF_w14:=hd_ (show ChAt w14 gF oF cF by rw [← hwd];exact ⟨PF_w13.out.c0,PF_w13.out.c1,PF_w13.out.c2,PF_w13.out.c3,PF_w13.out.c4,PF_w13.out.c5,PF_w13.out.c6⟩)
   have PT_w14:=hd_ (show ChAt w14 gT oT cT by rw [← hwd];exact ⟨PT_w13.out.c0,PT_w13.out.c1,PT_w13.out.c2,PT_w13.out.c3,PT_w13.out.c4,PT_w13.out.c5,PT_w13.out.c6⟩)
   clear a0 a1 a2 a3 a4 a5 a6 a7 af az E0 E1 E2 E3 E4 E5 E6
   rw [hwd] at hHeld ⊢
   clear hwd
   obtain ⟨a0,a1,a2,a3,a4,a5,a6,a7,af,az⟩:=HW_w14.out.open_
   obtain ⟨E0,E1,E2,E3,E4,E5,E6,-,-⟩:=box7_ HE_w14.out
   refine tk_ ?_
   clear pc0 pc1 pc2 pc3 pc4 pc5 pc6 qc0 qc1 qc2 qc3 qc4 qc5 qc6
   have pc0:=PF_w14.out.c0
   have pc1:=PF_w14.out.c1
   have pc2:=PF_w14.out.c2
   have pc3:=PF_w14.out.c3
   have pc4:=PF_w14.out.c4
   have pc5:=PF_w14.out.c5
   have pc6:=PF_w14.out.c6
   have qc0:=PT_w14.out.c0
   have qc1:=PT_w14.out.c1
   have qc2:=PT_w14.out.c2
   have qc3:=PT_w14.out.c3
   have qc4:=PT_w14.out.c4
   have qc5:=PT_w14.out.c5
   have qc6:=PT_w14.out.c6
   refine tk_ ?_
   refine Sq.step rfl (by rfl) (fun K hK => ?_)
   go_simp
   clear pc0 pc1 pc2 pc3 pc4 pc5 pc6 qc0 qc1 qc2 qc3 qc4 qc5 qc6
   refine (zmu _ _ B X b [] cd A1 A2 A3 A4 p1 p2 p3 p4 cF cT e HSM.out HW_w14.out).mono ?_
   rintro e' w15 ⟨rfl,hb⟩
   have HW_w15:=hd_ (HW_w14.out.below hb)
   have HE_w15:=hd_ (zqc hb (gz_ HE_w14.out).1 HE_w14.out)
   have PF_w15:=hd_ (PF_w14.out.below hb)
   have PT_w15:=hd_ (PT_w14.out.below hb)
   clear hb
   clear a0 a1 a2 a3 a4 a5 a6 a7 af az E0 E1 E2 E3 E4 E5 E6
   obtain ⟨a0,a1,a2,a3,a4,a5,a6,a7,af,az⟩:=HW_w15.out.open_
   obtain ⟨E0,E1,E2,E3,E4,E5,E6,-,-⟩:=box7_ HE_w15.out
   obtain ⟨rm,hrm⟩ : ∃ v,v = roomF b.hs cT e.To e.Amt cF.Score e.Yes:=⟨_,rfl⟩
   rw [← hrm]
   have HRM:=hd_ hrm
   clear hrm
   go_simp
   refine hK.out _ _ ⟨a0,a1,a2,a3,a4,a5,a6,E0,E1,E2,E3,E4,E5,E6,PF_w15.out.c0,PF_w15.out.c1,PF_w15.out.c2,PF_w15.out.c3,PF_w15.out.c4,PF_w15.out.c5,PF_w15.out.c6,PT_w15.out.c0,PT_w15.out.c1,PT_w15.out.c2,PT_w15.out.c3,PT_w15.out.c4,PT_w15.out.c5,PT_w15.out.c6⟩ (fun hHeld => ?_)
   clear hK K
   refine tk_ ?_
   refine Sq.done (NoPanic.normal ?_)
   go_wp2_with fail
   refine (zxy _ _ B X b [] cd A1 A2 A3 A4 p1 p2 p3 p4 (rm == 0) 13 HW_w15.out).mono ?_
   rintro e' w16 ⟨rfl,hh,ho⟩
   have HW_w16:=hd_ (HW_w15.out.trans hh)
   have HE_w16:=hd_ (ho _ _ HXE.out HE_w15.out)
   have PF_w16:=hd_ (PF_w15.out.only ho PXF.out)
   have PT_w16:=hd_ (PT_w15.out.only ho PXT.out)
   clear hh ho
   clear a0 a1 a2 a3 a4 a5 a6 a7 af az E0 E1 E2 E3 E4 E5 E6
   obtain ⟨a0,a1,a2,a3,a4,a5,a6,a7,af,az⟩:=HW_w16.out.open_
   obtain ⟨E0,E1,E2,E3,E4,E5,E6,-,-⟩:=box7_ HE_w16.out
   have hid : (chanOf b.cs e.To).Id = e.To:=zml mo
   have HRM2 : Hid (roomF b.hs (chanOf b.cs e.To) (chanOf b.cs e.To).Id e.Amt (chanOf b.cs e.Ch).Score e.Yes = rm):=hd_ (by rw [hid,← HCF.out,← HCT.out];exact HRM.out.symm)
   clear hid
   cases tr : (rm == 0)
   ·
    have hrm0 : rm ≠ 0:=by simpa using tr
    clear a0 a1 a2 a3 a4 a5 a6 a7 af az E0 E1 E2 E3 E4 E5 E6
    rw [tr,zjz,hcd0] at HW_w16
    obtain ⟨a0,a1,a2,a3,a4,a5,a6,a7,af,az⟩:=HW_w16.out.open_
    obtain ⟨E0,E1,E2,E3,E4,E5,E6,-,-⟩:=box7_ HE_w16.out
    have HO:=hd_ (zhe (b:=b) (e:=e) (i:=chanOf b.cs e.Ch) (o:=chanOf b.cs e.To) HC9.out HC6.out c14 (by have:=HC10.out;rw [HCT.out] at this;exact this) (by rw [← HCF.out,← HCT.out,← HFV.out,← HSM2.out];exact c11) (by rw [← HCT.out];exact c12) (by rw [HRM2.out];exact hrm0))
    obtain ⟨u,hu⟩:=Int.eq_ofNat_of_zero_le mi
    obtain ⟨v,hv⟩:=Int.eq_ofNat_of_zero_le mo
    have hlu:=zxh hu
    have hlv:=zxh hv
    have HU:=hd_ hu
    have HV:=hd_ hv
    have hA:=KA.out
    have hA2:=KA2.out
    have hoF:=KF.out
    have hoT:=KT.out
    clear KA KA2 KF KT
    subst hA
    injection hA2 with hA2
    injection hA2 with hA2
    subst hA2
    rw [hu,Int.toNat_natCast] at hoF
    rw [hv,Int.toNat_natCast] at hoT
    subst hoF hoT
    clear hu hv mi mo
    clear a0 a1 a2 a3 a4 a5 a6 a7 af az E0 E1 E2 E3 E4 E5 E6
    obtain ⟨a0,a1,a2,a3,a4,a5,a6,a7,af,az⟩:=HW_w16.out.open_
    obtain ⟨E0,E1,E2,E3,E4,E5,E6,-,-⟩:=box7_ HE_w16.out
    go_wp2_with fail
    refine zqq (fun w' => kqiiissss w' X b.t b.n b.w (some ⟨gF,0,none⟩) b.cs.length p1 A2 b.hs.length p2 A3 b.os.length p3 A4 ([].length) p4 (kqE_ w' EB e)) [yF 0 106,yF 1 107,yF 2 108,yF 3 109,yF 4 110,yF 5 111,yF 6 112,yF 7 113,yF 8 114,yF 9 115,yF 10 116,yF 11 117,yF 12 118,yF 13 119,yF 14 120,yF 15 121,yF 16 122,yF 17 123,yT 18 124,yT 19 125,yF 20 126,yF 21 127,yF 22 128] rfl (by kernel_rfl) (by kernel_rfl) (by kernel_rfl) (by kernel_rfl) (by kernel_rfl) (by kernel_rfl) ⟨a0,a1,a2,a3,a4,a5,a6,E0,E1,E2,E3,E4,E5,E6⟩ (fun hHeld => ?_)
    obtain ⟨w17,hwd⟩ : ∃ wd,w16.drew = wd:=⟨_,rfl⟩
    have HW_w17 : Hid (Wk 136 w w17 B X b [] 0 (some ⟨gF,0,none⟩) A2 A3 A4 p1 p2 p3 p4):=hd_ (by rw [← hwd];exact HW_w16.out.drew)
    have HE_w17 : Hid (Hx w17 EB (evC e) 64):=hd_ (by rw [← hwd];exact zqf HE_w16.out)
    clear a0 a1 a2 a3 a4 a5 a6 a7 af az E0 E1 E2 E3 E4 E5 E6
    rw [hwd] at hHeld ⊢
    clear hwd
    obtain ⟨a0,a1,a2,a3,a4,a5,a6,a7,af,az⟩:=HW_w17.out.open_
    obtain ⟨E0,E1,E2,E3,E4,E5,E6,-,-⟩:=box7_ HE_w17.out
    refine tk_ ?_
    refine Sq.step rfl (by rfl) (fun K hK => ?_)
    go_simp
    refine zxm (fun w18 hw => ?_)
    have HW_w18 : Hid (Wk 136 w w18 B X b [] 0 (some ⟨gF,0,none⟩) A2 A3 A4 p1 p2 p3 p4):=hd_ (by rw [hw];exact HW_w17.out.alloc _)
    have HE_w18 : Hid (Hx w18 EB (evC e) 64):=hd_ (by rw [hw];exact zqe (gz_ HE_w17.out).1 HE_w17.out)
    have HB : Hid (w18.heap[w17.heap.size]? = some (.cells #[.int .i64 e.Key,.int .i64 e.Ch,.int .i64 e.To,.int .i64 sm,.int .i64 e.Amt,.bool (rm == 2),.int .i64 0] 70 (0,0))):=hd_ (by rw [hw];exact zqk rfl)
    clear hw
    clear a0 a1 a2 a3 a4 a5 a6 a7 af az E0 E1 E2 E3 E4 E5 E6
    obtain ⟨a0,a1,a2,a3,a4,a5,a6,a7,af,az⟩:=HW_w18.out.open_
    obtain ⟨E0,E1,E2,E3,E4,E5,E6,-,-⟩:=box7_ HE_w18.out
    go_simp
    refine hK.out _ _ ⟨a0,a1,a2,a3,a4,a5,a6,E0,E1,E2,E3,E4,E5,E6⟩ (fun hHeld => ?_)
    clear hK K
    refine tk_ ?_
    refine Sq.step rfl (by rfl) (fun K hK => ?_)
    refine zjf (ops:=#[]) (E:=True) rfl (zkh rfl _ _ _ rfl B 70 i0 _ 7 56 Tryz.underlying36 HI0.out HI1.out HI2.out HI3.out rfl (by decide) (.slice A2 b.hs.length p2) _ (by rfl) HW_w18.out.o.h w17.heap.size 1 [.int .i64 e.Key,.int .i64 e.Ch,.int .i64 e.To,.int .i64 sm,.int .i64 e.Amt,.bool (rm == 2),.int .i64 0] 70 (by rfl) HB.out rfl (by simp [Value.oneCell']) (by rw [List.length_map];omega) (by decide) HW_w18.out.ble ?_)
    intro g2 cap2 w19 how2 hgr2 hat2 hlt2
    have HA:=hd_ (HW_w18.out.appH (by decide) (by decide) (by decide) (by decide) (c:=⟨e.Key,e.Ch,e.To,sm,e.Amt,(rm == 2),0⟩) how2 hgr2)
    have HE_w19 : Hid (Hx w19 EB (evC e) 64):=hd_ (zqj hgr2 (HW_w18.out.o.h.ne_ HE_w18.out (by decide)) HE_w18.out)
    clear how2 hgr2 hat2 HB
    rw [List.length_map]
    clear a0 a1 a2 a3 a4 a5 a6 a7 af az E0 E1 E2 E3 E4 E5 E6
    obtain ⟨_,a0,a1,a2,a3,a4,a5,a6,a7,af,az⟩:=own8 HA.out.1
    obtain ⟨E0,E1,E2,E3,E4,E5,E6,-,-⟩:=box7_ HE_w19.out
    go_simp
    refine hK.out _ _ ⟨a0,a1,a2,a3,a4,a5,a6,E0,E1,E2,E3,E4,E5,E6⟩ (fun hHeld => ?_)
    clear hK K
    refine tk_ ?_
    refine Sq.done ?_
    intro KK hKK
    go_simp
    refine hKK _ _ (NoPanic.normal ?_)
    refine nm_ ?_
    intro w20 hw
    have HW_w20 : Hid (Wk 136 w w20 B X ⟨b.t,b.n,b.w,b.cs,(b.hs ++ [⟨e.Key,e.Ch,e.To,sm,e.Amt,(rm == 2),0⟩]),b.os⟩ [] 0 (some ⟨gF,0,none⟩) (some ⟨g2,0,none⟩) A3 A4 p1 cap2 p3 p4):=hd_ (by rw [hw];exact HA.out.2)
    have HE_w20 : Hid (Hx w20 EB (evC e) 64):=hd_ (by rw [hw];exact zqb HXE.out HE_w19.out)
    clear hw
    clear a0 a1 a2 a3 a4 a5 a6 a7 af az E0 E1 E2 E3 E4 E5 E6
    obtain ⟨a0,a1,a2,a3,a4,a5,a6,a7,af,az⟩:=HW_w20.out.open_
    obtain ⟨E0,E1,E2,E3,E4,E5,E6,-,-⟩:=box7_ HE_w20.out
    clear HA
    obtain ⟨hs1,hhs1⟩ : ∃ l,b.hs ++ [(⟨e.Key,e.Ch,e.To,sm,e.Amt,rm == 2,0⟩ : Htlc)] = l:=⟨_,rfl⟩
    rw [hhs1] at HW_w20
    have HHS1:=hd_ hhs1
    clear hhs1
    clear a0 a1 a2 a3 a4 a5 a6 a7 af az E0 E1 E2 E3 E4 E5 E6
    obtain ⟨a0,a1,a2,a3,a4,a5,a6,a7,af,az⟩:=HW_w20.out.open_
    obtain ⟨E0,E1,E2,E3,E4,E5,E6,-,-⟩:=box7_ HE_w20.out
    obtain ⟨c,hc⟩ : ∃ c,b.cs[u]'hlu = c:=⟨_,rfl⟩
    have hr : (b.cs.map Chan.cells)[u]? = some c.cells:=by rw [List.getElem?_map,List.getElem?_eq_getElem hlu,hc];rfl
    obtain ⟨y0,y1,y2,y3,y4,y5,y6⟩:=c
    have HRowy:=hd_ hr
    have HCIy:=hd_ hc
    clear hr hc
    have hb1:=HBD.out _ (List.getElem_mem hlu)
    rw [HCIy.out] at hb1
    simp only at hb1
    have yc:=HW_w20.out.o.c.cellAt HRowy.out (j:=3) (by decide)
    simp only [Chan.cells,List.getElem?_cons_zero,List.getElem?_cons_succ] at yc
    have yf:=fun j => HW_w20.out.o.c.frozenAt j
    go_upto_region 17 with fail
    clear yc yf
    refine nm_ ?_
    intro w21 hw
    have HW_w21 : Hid (Wk 136 w w21 B X ⟨b.t,b.n,b.w,(b.cs.set u ⟨y0,y1,y2,(y3 - sm),y4,y5,y6⟩),hs1,b.os⟩ [] 0 (some ⟨gF,0,none⟩) (some ⟨g2,0,none⟩) A3 A4 p1 cap2 p3 p4):=hd_ (by rw [hw];exact HW_w20.out.putCell (c':=⟨y0,y1,y2,(y3 - sm),y4,y5,y6⟩) (by decide) hlu (by decide) (by rw [HCIy.out];rfl))
    have HE_w21 : Hid (Hx w21 EB (evC e) 64):=hd_ (by rw [hw];exact zqb (fun e9 => HW_w20.out.o.c.ne_ HE_w20.out (by decide) (by rw [e9];rfl)) HE_w20.out)
    clear hw
    clear a0 a1 a2 a3 a4 a5 a6 a7 af az E0 E1 E2 E3 E4 E5 E6
    obtain ⟨a0,a1,a2,a3,a4,a5,a6,a7,af,az⟩:=HW_w21.out.open_
    obtain ⟨E0,E1,E2,E3,E4,E5,E6,-,-⟩:=box7_ HE_w21.out
    obtain ⟨cs1,hc3⟩ : ∃ v9,(b.cs.set u ⟨y0,y1,y2,(y3 - sm),y4,y5,y6⟩) = v9:=⟨_,rfl⟩
    rw [hc3] at HW_w21
    have Hcs1:=hd_ hc3
    clear hc3
    clear a0 a1 a2 a3 a4 a5 a6 a7 af az E0 E1 E2 E3 E4 E5 E6
    obtain ⟨a0,a1,a2,a3,a4,a5,a6,a7,af,az⟩:=HW_w21.out.open_
    obtain ⟨E0,E1,E2,E3,E4,E5,E6,-,-⟩:=box7_ HE_w21.out
    have HM1 : Hid (moveC b.cs e.Ch 0 (-sm) = cs1):=hd_ (by rw [← Hcs1.out,zvu HU.out hlu HCIy.out];rw [Int.sub_eq_add_neg])
    have hix1 : ∀ ch,chanIx cs1 ch = chanIx b.cs ch:=by rw [← HM1.out];exact fun ch => zxj _ _ _ _ ch
    have hl1 : cs1.length = b.cs.length:=by rw [← HM1.out];exact zxc _ _ _ _
    have HBD1 : Hid (Bd (1125899906842624 + 1125899906842624) cs1):=hd_ (by rw [← HM1.out];exact HBD.out.move _ _ _ (by omega) (by omega))
    have hlv1 : v < cs1.length:=by omega
    have HIX1:=hd_ hix1
    clear hix1
    obtain ⟨c,hc⟩ : ∃ c,cs1[v]'hlv1 = c:=⟨_,rfl⟩
    have hr : (cs1.map Chan.cells)[v]? = some c.cells:=by rw [List.getElem?_map,List.getElem?_eq_getElem hlv1,hc];rfl
    obtain ⟨z0,z1,z2,z3,z4,z5,z6⟩:=c
    have HRowz:=hd_ hr
    have HCIz:=hd_ hc
    clear hr hc
    have hb2:=HBD1.out _ (List.getElem_mem hlv1)
    rw [HCIz.out] at hb2
    simp only at hb2
    have ws : IntKind.i64.wrap (z2 - e.Amt) = z2 - e.Amt:=IntWalk.i64_in _ ⟨by omega,by omega⟩
    have yc:=HW_w21.out.o.c.cellAt HRowz.out (j:=2) (by decide)
    simp only [Chan.cells,List.getElem?_cons_zero,List.getElem?_cons_succ] at yc
    refine zqq (fun w' => kqiiissss w' X b.t b.n b.w (some ⟨gF,0,none⟩) cs1.length p1 (some ⟨g2,0,none⟩) hs1.length cap2 A3 b.os.length p3 A4 ([].length) p4 (kqE w' EB e (kqio_ w' gF (v * 7 + 2) z2))) [yF 0 137,yF 1 138,yF 2 139,yF 3 140,yF 4 141,yF 5 142,yF 6 143,yF 7 144,yF 8 145] rfl (by kernel_rfl) (by kernel_rfl) (by kernel_rfl) (by kernel_rfl) (by kernel_rfl) (by kernel_rfl) ⟨a0,a1,a2,a3,a4,a5,a6,E0,E1,E2,E3,E4,E5,E6,yc⟩ (fun hHeld => ?_)
    obtain ⟨w22,hwd⟩ : ∃ wd,w21.drew = wd:=⟨_,rfl⟩
    have HW_w22 : Hid (Wk 136 w w22 B X ⟨b.t,b.n,b.w,cs1,hs1,b.os⟩ [] 0 (some ⟨gF,0,none⟩) (some ⟨g2,0,none⟩) A3 A4 p1 cap2 p3 p4):=hd_ (by rw [← hwd];exact HW_w21.out.drew)
    have HE_w22 : Hid (Hx w22 EB (evC e) 64):=hd_ (by rw [← hwd];exact zqf HE_w21.out)
    clear a0 a1 a2 a3 a4 a5 a6 a7 af az E0 E1 E2 E3 E4 E5 E6
    rw [hwd] at hHeld ⊢
    clear hwd
    obtain ⟨a0,a1,a2,a3,a4,a5,a6,a7,af,az⟩:=HW_w22.out.open_
    obtain ⟨E0,E1,E2,E3,E4,E5,E6,-,-⟩:=box7_ HE_w22.out
    refine tk_ ?_
    clear yc
    have yc:=HW_w22.out.o.c.cellAt HRowz.out (j:=2) (by decide)
    simp only [Chan.cells,List.getElem?_cons_zero,List.getElem?_cons_succ] at yc
    have yf:=fun j => HW_w22.out.o.c.frozenAt j
    refine Sq.done ?_
    intro KK hKK
    go_simp
    refine hKK _ _ (NoPanic.normal ?_)
    clear yc yf
    refine nm_ ?_
    intro w23 hw
    have HW_w23 : Hid (Wk 136 w w23 B X ⟨b.t,b.n,b.w,(cs1.set v ⟨z0,z1,(z2 - e.Amt),z3,z4,z5,z6⟩),hs1,b.os⟩ [] 0 (some ⟨gF,0,none⟩) (some ⟨g2,0,none⟩) A3 A4 p1 cap2 p3 p4):=hd_ (by rw [hw];exact HW_w22.out.putCell (c':=⟨z0,z1,(z2 - e.Amt),z3,z4,z5,z6⟩) (by decide) hlv1 (by decide) (by rw [HCIz.out];rfl))
    have HE_w23 : Hid (Hx w23 EB (evC e) 64):=hd_ (by rw [hw];exact zqb (fun e9 => HW_w22.out.o.c.ne_ HE_w22.out (by decide) (by rw [e9];rfl)) HE_w22.out)
    clear hw
    clear a0 a1 a2 a3 a4 a5 a6 a7 af az E0 E1 E2 E3 E4 E5 E6
    obtain ⟨a0,a1,a2,a3,a4,a5,a6,a7,af,az⟩:=HW_w23.out.open_
    obtain ⟨E0,E1,E2,E3,E4,E5,E6,-,-⟩:=box7_ HE_w23.out
    obtain ⟨cs2,hc3⟩ : ∃ v9,(cs1.set v ⟨z0,z1,(z2 - e.Amt),z3,z4,z5,z6⟩) = v9:=⟨_,rfl⟩
    rw [hc3] at HW_w23
    have Hcs2:=hd_ hc3
    clear hc3
    clear a0 a1 a2 a3 a4 a5 a6 a7 af az E0 E1 E2 E3 E4 E5 E6
    obtain ⟨a0,a1,a2,a3,a4,a5,a6,a7,af,az⟩:=HW_w23.out.open_
    obtain ⟨E0,E1,E2,E3,E4,E5,E6,-,-⟩:=box7_ HE_w23.out
    clear ws
    have HM2 : Hid (moveC cs1 e.To (-e.Amt) 0 = cs2):=hd_ (by rw [← Hcs2.out,zvt (by rw [HIX1.out];exact HV.out) hlv1 HCIz.out];rw [Int.sub_eq_add_neg])
    go_wp2_with fail
    refine (zxz _ _ B X ⟨b.t,b.n,b.w,cs2,hs1,b.os⟩ [] 0 (some ⟨gF,0,none⟩) (some ⟨g2,0,none⟩) A3 A4 p1 cap2 p3 p4 6 e.To (-e.Amt) (by decide) (by (try simp only);omega) (fun y hy => by cases hy) (fun y hy => by cases hy) HW_w23.out).mono ?_
    rintro e' w24 ⟨⟨Cw240,Cw241,Cw242,Cw243,rw240,rw241,rw242,rw243,rfl,hh⟩,ho⟩
    have HE_w24:=hd_ (ho _ _ HXE.out HE_w23.out)
    obtain ⟨M0,hL9⟩ : ∃ v,lineTo [] 6 e.To (-e.Amt) = v:=⟨_,rfl⟩
    rw [hL9] at hh
    have HMl0:=hd_ hL9
    have HW_w24:=hd_ (HW_w23.out.trans hh)
    clear hh ho hL9
    clear a0 a1 a2 a3 a4 a5 a6 a7 af az E0 E1 E2 E3 E4 E5 E6
    obtain ⟨a0,a1,a2,a3,a4,a5,a6,a7,af,az⟩:=HW_w24.out.open_
    obtain ⟨E0,E1,E2,E3,E4,E5,E6,-,-⟩:=box7_ HE_w24.out
    have HLM0 : Hid (M0.length ≤ 1):=hd_ (by rw [← HMl0.out];have h9:=zqr [] (6) (e.To) ((-e.Amt));have h8 : ([] : List Line).length ≤ 0:=Nat.le_refl _;omega)
    have HQ0 : Hid (∀ y ∈ M0,y = ⟨6,e.To,(-e.Amt)⟩):=hd_ (fun y hy => by rw [← HMl0.out] at hy;rcases zxe (fun y hy => by cases hy) hy with h9 | h9;cases h9;exact h9)
    go_wp2_with fail
    refine (zxz _ _ B X ⟨b.t,b.n,b.w,cs2,hs1,b.os⟩ M0 0 Cw240 Cw241 Cw242 Cw243 rw240 rw241 rw242 rw243 8 e.To e.Amt (by have:=HLM0.out;omega) (by (try simp only);omega) (fun y hy => by rcases HQ0.out y hy with rfl <;> (simp only;omega)) (fun y hy => by rcases HQ0.out y hy with rfl <;> (simp only;omega)) HW_w24.out).mono ?_
    rintro e' w25 ⟨⟨Cw250,Cw251,Cw252,Cw253,rw250,rw251,rw252,rw253,rfl,hh⟩,ho⟩
    have HE_w25:=hd_ (ho _ _ HXE.out HE_w24.out)
    obtain ⟨M1,hL9⟩ : ∃ v,lineTo M0 8 e.To e.Amt = v:=⟨_,rfl⟩
    rw [hL9] at hh
    have HMl1:=hd_ hL9
    have HW_w25:=hd_ (HW_w24.out.trans hh)
    clear hh ho hL9
    clear a0 a1 a2 a3 a4 a5 a6 a7 af az E0 E1 E2 E3 E4 E5 E6
    obtain ⟨a0,a1,a2,a3,a4,a5,a6,a7,af,az⟩:=HW_w25.out.open_
    obtain ⟨E0,E1,E2,E3,E4,E5,E6,-,-⟩:=box7_ HE_w25.out
    have HLM1 : Hid (M1.length ≤ 2):=hd_ (by rw [← HMl1.out];have h9:=zqr M0 (8) (e.To) (e.Amt);have h8 : (M0).length ≤ 1:=HLM0.out;omega)
    have HQ1 : Hid (∀ y ∈ M1,y = ⟨6,e.To,(-e.Amt)⟩ ∨ y = ⟨8,e.To,e.Amt⟩):=hd_ (fun y hy => by rw [← HMl1.out] at hy;rcases zxe (fun y hy => by rcases HQ0.out y hy with rfl <;> (simp only;omega)) hy with h9 | h9;exact HQ0.out y h9 |> Or.inl;exact Or.inr h9)
    go_wp2_with fail
    go_end0
    rw [HO.out]
    have HZ : nz [⟨6,e.To,(-e.Amt)⟩,⟨8,e.To,e.Amt⟩] = M1:=by rw [← HMl1.out,← HMl0.out];exact (line2 (by decide)).symm
    rw [HZ,HRM2.out,← HCT.out,← HFV.out,← HSM2.out,HM1.out,HM2.out,HHS1.out]
    exact Acts.ok ⟨_,_,_,_,_,_,_,_,rfl,HW_w25.out⟩
   ·
    have hrm0:=eq_of_beq tr
    clear a0 a1 a2 a3 a4 a5 a6 a7 af az E0 E1 E2 E3 E4 E5 E6
    rw [tr,hcd0,show failF 0 true 13 = 13 from rfl] at HW_w16
    obtain ⟨a0,a1,a2,a3,a4,a5,a6,a7,af,az⟩:=HW_w16.out.open_
    obtain ⟨E0,E1,E2,E3,E4,E5,E6,-,-⟩:=box7_ HE_w16.out
    have HO:=hd_ (zhd (b:=b) (e:=e) (i:=chanOf b.cs e.Ch) (o:=chanOf b.cs e.To) HC9.out HC6.out c14 (by have:=HC10.out;rw [HCT.out] at this;exact this) (by rw [← HCF.out,← HCT.out,← HFV.out,← HSM2.out];exact c11) (by rw [← HCT.out];exact c12) (by rw [HRM2.out];exact hrm0))
    go_wp2_with fail
    go_end0
    rw [HO.out]
    exact Acts.no (by decide) ⟨_,_,_,_,_,_,_,_,rfl,HW_w16.out⟩
  ·
   have hne : cd ≠ 0:=by simpa using tc
   have tc2 : (cd == 0) = false:=by rw [beq_eq_false_iff_ne];exact hne
   go_wp2_with fail
   go_end0
   rw [HCA.out hne]
   exact Acts.no hne ⟨_,_,_,_,_,_,_,_,rfl,HW_w13.out⟩
end Go.Proofs.YtdbmkfmenfcbiaaGreat
