/- A payment in a circle sets out: the program's walk. -/
import Derived.Test.YtdbmkfmenfcbiaaGreatRows
import Derived.Test.YtdbmkfmenfcbiaaGreatGISe
import Derived.Test.YtdbmkfmenfcbiaaGreatGSLaunch
namespace Go.Proofs.YtdbmkfmenfcbiaaGreat
open Go.RowKit Go.Deep
def addV (a b : Int) : Int:=if amtB (a + b) = true then a + b else 0
theorem zge {b : Bk} {e : Event} {f d : Chan} {cd : Int} (hne : e.Ch ≠ e.To) (h20 : b.os.length ≤ 20) (hf : 0 ≤ chanIx b.cs e.Ch → f = chanOf b.cs e.Ch) (hd : 0 ≤ chanIx b.cs e.To → d = chanOf b.cs e.To)
  (h : cd = failF (failF (failF (failF (failF (failF (failF 0 (hasB (keysOf b.hs b.os) e.Key) 9) (decide (chanIx b.cs e.Ch < 0)) 6) (decide (chanIx b.cs e.To < 0)) 6) (decide ((20 : Int) ≤ (b.os.length : Int))) 14) (!amtB (e.Amt + e.Fee)) 10) (decide (f.Local < addV e.Amt e.Fee)) 12) (decide (d.Remote < e.Amt)) 11) :
  (cd ≠ 0 → launchS b e = bad cd)∧(cd = 0 → hasB (keysOf b.hs b.os) e.Key = false∧0 ≤ chanIx b.cs e.Ch∧0 ≤ chanIx b.cs e.To∧twoB b.cs e.Ch e.To = true∧b.os.length ≠ 20∧amtB (e.Amt + e.Fee) = true∧e.Amt + e.Fee ≤ f.Local∧e.Amt ≤ d.Remote):=by
 subst h
 cases h9 : hasB (keysOf b.hs b.os) e.Key
 case true =>
  rw [zpc h9]
  simp [failF]
 by_cases h6 : chanIx b.cs e.Ch < 0
 ·
  have h2 : twoB b.cs e.Ch e.To = false:=by unfold twoB;rw [decide_eq_false (by omega : ¬ 0 ≤ chanIx b.cs e.Ch)];simp
  rw [zht h9 h2]
  simp [failF,h6]
 by_cases h6' : chanIx b.cs e.To < 0
 ·
  have h2 : twoB b.cs e.Ch e.To = false:=by unfold twoB;rw [decide_eq_false (by omega : ¬ 0 ≤ chanIx b.cs e.To)];simp
  rw [zht h9 h2]
  simp [failF,h6,h6']
 have h2 : twoB b.cs e.Ch e.To = true:=by unfold twoB;rw [decide_eq_true (by omega : 0 ≤ chanIx b.cs e.Ch),decide_eq_true (by omega : 0 ≤ chanIx b.cs e.To)];simpa using hne
 have hf':=(hf (by omega)).symm
 have hd':=(hd (by omega)).symm
 by_cases h14 : (20 : Int) ≤ (b.os.length : Int)
 ·
  rw [zyw h9 h2 (by omega)]
  simp [failF,h6,h6',h14]
 cases h10 : amtB (e.Amt + e.Fee)
 ·
  rw [zyt h9 h2 (by omega) h10]
  simp [failF,h6,h6',h14]
 have ha : addV e.Amt e.Fee = e.Amt + e.Fee:=by unfold addV;rw [if_pos h10]
 rw [ha]
 by_cases h12 : f.Local < e.Amt + e.Fee
 ·
  rw [zyv h9 h2 (by omega) h10 hf' h12]
  simp [failF,h6,h6',h14,h12]
 by_cases h11 : d.Remote < e.Amt
 ·
  rw [zyu h9 h2 (by omega) h10 hf' (by omega) hd' h11]
  simp [failF,h6,h6',h14,h12,h11]
 ·
  refine ⟨fun h => absurd ?_ h,fun _ => ⟨rfl,by omega,by omega,h2,by omega,rfl,by omega,by omega⟩⟩
  simp [failF,h6,h6',h14,h12,h11]
theorem zwr (x y : Int) (w : World) (hx : amtB x = true) (hy : amtB y = true) :
  Calls Tryz.prog 146 #[.int .i64 x,.int .i64 y] w fun e w' => e = .returned (.tuple #[.int .i64 (addV x y),.bool (amtB (x + y))])∧w = w':=by
 cases h : amtB (x + y)
 ·
  refine (zvs x y w (by rw [hx,hy,h];rfl)).mono ?_
  rintro e w' ⟨rfl,rfl⟩
  exact ⟨by unfold addV;rw [h];rfl,rfl⟩
 ·
  refine (zky x y w hx hy h).mono ?_
  rintro e w' ⟨rfl,rfl⟩
  exact ⟨by unfold addV;rw [if_pos h],rfl⟩
set_option maxRecDepth 100000 in
set_option maxHeartbeats 4000000 in
theorem i_launch (w0 w : World) (B X : Nat) (b : Bk) (A1 A2 A3 A4 : Option Addr) (p1 p2 p3 p4 : Nat) (e : Event) (hF : BookFacts b.t b.n b.w b.cs b.hs b.os) (ha : amtB e.Amt = true) (hf : amtB e.Fee = true) (hne : e.Ch ≠ e.To) (h : Wk 136 w0 w B X b [] 0 A1 A2 A3 A4 p1 p2 p3 p4) :
  Calls Tryz.prog 95 #[.pointer (some ⟨X,0,none⟩),.agg #[.int .i64 e.Kind,.int .i64 e.Key,.int .i64 e.Ch,.int .i64 e.To,.int .i64 e.Amt,.int .i64 e.Fee,.bool e.Yes]] w (Acts 136 w B X (launchS b e)):=by
 have H:=hd_ h.here
 clear h
 have hcl:=hF.cl
 have h60:=hF.small.hl
 have h20:=hF.small.ol
 obtain ⟨fe1,fe2⟩:=zxu.1 hf
 obtain ⟨ae1,ae2⟩:=zxu.1 ha
 have HAA:=hd_ ha
 have HAF:=hd_ hf
 have HNE:=hd_ hne
 have HBD:=hd_ (zxx hF)
 clear hF hf ha hne
 obtain ⟨i0,hi,hz0,hz1,hz2⟩:=info_parts zje
 have HI0:=hd_ hi
 have HI1:=hd_ hz0
 have HI2:=hd_ hz1
 have HI3:=hd_ hz2
 clear hi hz0 hz1 hz2
 obtain ⟨a0,a1,a2,a3,a4,a5,a6,a7,af,az⟩:=H.out.open_
 go_enter Tryz.func95,Tryz.ntmps95
 go_wp2_with fail
 have HW_w:=H
 clear a0 a1 a2 a3 a4 a5 a6 a7 af az
 refine nm_ ?_
 intro w1 hw
 obtain ⟨EB,hB9⟩ : ∃ v9,v9 = w.heap.size:=⟨_,rfl⟩
 try rw [← hB9]
 have HW_w1 : Hid (Wk 136 w w1 B X b [] 0 A1 A2 A3 A4 p1 p2 p3 p4):=hd_ (by rw [hw];exact HW_w.out.alloc _)
 have HE_w1 : Hid (Hx w1 EB (evC e) 64):=hd_ (by rw [hw,hB9];exact zqk rfl)
 have HXE : Hid (EB ≠ X):=hd_ (by have:=HW_w.out.lt;omega)
 clear hw hB9
 obtain ⟨a0,a1,a2,a3,a4,a5,a6,a7,af,az⟩:=HW_w1.out.open_
 obtain ⟨E0,E1,E2,E3,E4,E5,E6,-,-⟩:=box7_ HE_w1.out
 refine zql (fun w' => kqiiissss w' X b.t b.n b.w A1 b.cs.length p1 A2 b.hs.length p2 A3 b.os.length p3 A4 ([].length) p4 (kqE_ w' EB e)) [yF 0 8,yF 1 9,yF 2 10,yF 3 11,yF 4 12,yF 5 13,yF 6 14,yT 7 15,yT 8 16] (by kernel_rfl) (by kernel_rfl) (by kernel_rfl) ⟨a0,a1,a2,a3,a4,a5,a6,E0,E1,E2,E3,E4,E5,E6⟩ (fun hHeld => ?_)
 obtain ⟨w2,hwd⟩ : ∃ wd,w1.drew = wd:=⟨_,rfl⟩
 have HW_w2 : Hid (Wk 136 w w2 B X b [] 0 A1 A2 A3 A4 p1 p2 p3 p4):=hd_ (by rw [← hwd];exact HW_w1.out.drew)
 have HE_w2 : Hid (Hx w2 EB (evC e) 64):=hd_ (by rw [← hwd];exact zqf HE_w1.out)
 clear a0 a1 a2 a3 a4 a5 a6 a7 af az E0 E1 E2 E3 E4 E5 E6
 rw [hwd] at hHeld ⊢
 clear hwd
 obtain ⟨a0,a1,a2,a3,a4,a5,a6,a7,af,az⟩:=HW_w2.out.open_
 obtain ⟨E0,E1,E2,E3,E4,E5,E6,-,-⟩:=box7_ HE_w2.out
 refine tk_ ?_
 refine Sq.step rfl (by rfl) (fun K hK => ?_)
 go_simp
 refine (i_known b.t b.n b.w b.cs b.hs b.os _ _ _ _ _ _ e.Key _ (by omega) (by omega) ⟨HW_w2.out.o.c.rd,HW_w2.out.o.h.rd,HW_w2.out.o.o.rd⟩).mono ?_
 rintro e' w3 ⟨rfl,hb⟩
 have HW_w3:=hd_ (HW_w2.out.below hb)
 have HE_w3:=hd_ (zqc hb (gz_ HE_w2.out).1 HE_w2.out)
 clear hb
 clear a0 a1 a2 a3 a4 a5 a6 a7 af az E0 E1 E2 E3 E4 E5 E6
 obtain ⟨a0,a1,a2,a3,a4,a5,a6,a7,af,az⟩:=HW_w3.out.open_
 obtain ⟨E0,E1,E2,E3,E4,E5,E6,-,-⟩:=box7_ HE_w3.out
 go_simp
 refine hK.out _ _ ⟨a0,a1,a2,a3,a4,a5,a6,E0,E1,E2,E3,E4,E5,E6⟩ (fun hHeld => ?_)
 clear hK K
 refine tk_ ?_
 refine Sq.step rfl (by rfl) (fun K hK => ?_)
 go_simp
 refine (zxy _ _ B X b [] 0 A1 A2 A3 A4 p1 p2 p3 p4 (hasB (keysOf b.hs b.os) e.Key) 9 HW_w3.out).mono ?_
 rintro e' w4 ⟨rfl,hh,ho⟩
 have HW_w4:=hd_ (HW_w3.out.trans hh)
 have HE_w4:=hd_ (ho _ _ HXE.out HE_w3.out)
 clear hh ho
 clear a0 a1 a2 a3 a4 a5 a6 a7 af az E0 E1 E2 E3 E4 E5 E6
 obtain ⟨a0,a1,a2,a3,a4,a5,a6,a7,af,az⟩:=HW_w4.out.open_
 obtain ⟨E0,E1,E2,E3,E4,E5,E6,-,-⟩:=box7_ HE_w4.out
 go_simp
 refine hK.out _ _ ⟨a0,a1,a2,a3,a4,a5,a6,E0,E1,E2,E3,E4,E5,E6⟩ (fun hHeld => ?_)
 clear hK K
 refine tk_ ?_
 refine Sq.done (NoPanic.normal ?_)
 go_wp2_with fail
 refine (i_ch _ _ B X b [] (failF 0 (hasB (keysOf b.hs b.os) e.Key) 9) A1 A2 A3 A4 p1 p2 p3 p4 e.Ch (by (try simp only);omega) HW_w4.out).mono ?_
 rintro e' w5 ⟨gF,oF,cF,rfl,hat,hgx,hh,ho,hf⟩
 have PXF:=hd_ hgx
 have HFF:=hd_ hf
 have HW_w5:=hd_ (HW_w4.out.trans hh)
 have HE_w5:=hd_ (ho _ _ HXE.out HE_w4.out)
 have PF_w5:=hd_ hat
 clear hat hgx hh ho hf
 clear a0 a1 a2 a3 a4 a5 a6 a7 af az E0 E1 E2 E3 E4 E5 E6
 obtain ⟨a0,a1,a2,a3,a4,a5,a6,a7,af,az⟩:=HW_w5.out.open_
 obtain ⟨E0,E1,E2,E3,E4,E5,E6,-,-⟩:=box7_ HE_w5.out
 go_wp2_with fail
 refine (i_ch _ _ B X b [] (failF (failF 0 (hasB (keysOf b.hs b.os) e.Key) 9) (decide (chanIx (b : Bk).cs e.Ch < 0)) 6) A1 A2 A3 A4 p1 p2 p3 p4 e.To (by (try simp only);omega) HW_w5.out).mono ?_
 rintro e' w6 ⟨gT,oT,cT,rfl,hat,hgx,hh,ho,hf⟩
 have PXT:=hd_ hgx
 have HFT:=hd_ hf
 have HW_w6:=hd_ (HW_w5.out.trans hh)
 have HE_w6:=hd_ (ho _ _ HXE.out HE_w5.out)
 have PF_w6:=hd_ (PF_w5.out.only ho PXF.out)
 have PT_w6:=hd_ hat
 clear hat hgx hh ho hf
 clear a0 a1 a2 a3 a4 a5 a6 a7 af az E0 E1 E2 E3 E4 E5 E6
 obtain ⟨a0,a1,a2,a3,a4,a5,a6,a7,af,az⟩:=HW_w6.out.open_
 obtain ⟨E0,E1,E2,E3,E4,E5,E6,-,-⟩:=box7_ HE_w6.out
 go_wp2_with fail
 refine (zxy _ _ B X b [] (failF (failF (failF 0 (hasB (keysOf b.hs b.os) e.Key) 9) (decide (chanIx (b : Bk).cs e.Ch < 0)) 6) (decide (chanIx (b : Bk).cs e.To < 0)) 6) A1 A2 A3 A4 p1 p2 p3 p4 (decide ((20 : Int) ≤ (b.os.length : Int))) 14 HW_w6.out).mono ?_
 rintro e' w7 ⟨rfl,hh,ho⟩
 have HW_w7:=hd_ (HW_w6.out.trans hh)
 have HE_w7:=hd_ (ho _ _ HXE.out HE_w6.out)
 have PF_w7:=hd_ (PF_w6.out.only ho PXF.out)
 have PT_w7:=hd_ (PT_w6.out.only ho PXT.out)
 clear hh ho
 clear a0 a1 a2 a3 a4 a5 a6 a7 af az E0 E1 E2 E3 E4 E5 E6
 obtain ⟨a0,a1,a2,a3,a4,a5,a6,a7,af,az⟩:=HW_w7.out.open_
 obtain ⟨E0,E1,E2,E3,E4,E5,E6,-,-⟩:=box7_ HE_w7.out
 go_wp2_with fail
 refine (zwr e.Amt e.Fee _ HAA.out HAF.out).mono ?_
 rintro e' wz ⟨rfl,rfl⟩
 obtain ⟨sm,hsm⟩ : ∃ v,v = addV e.Amt e.Fee:=⟨_,rfl⟩
 rw [← hsm]
 have HSM:=hd_ hsm
 clear hsm
 obtain ⟨ok,hok⟩ : ∃ v,v = amtB (e.Amt + e.Fee):=⟨_,rfl⟩
 rw [← hok]
 have HOK:=hd_ hok
 clear hok
 go_wp2_with fail
 refine (zxy _ _ B X b [] (failF (failF (failF (failF 0 (hasB (keysOf b.hs b.os) e.Key) 9) (decide (chanIx (b : Bk).cs e.Ch < 0)) 6) (decide (chanIx (b : Bk).cs e.To < 0)) 6) (decide ((20 : Int) ≤ (b.os.length : Int))) 14) A1 A2 A3 A4 p1 p2 p3 p4 (!ok) 10 HW_w7.out).mono ?_
 rintro e' w8 ⟨rfl,hh,ho⟩
 have HW_w8:=hd_ (HW_w7.out.trans hh)
 have HE_w8:=hd_ (ho _ _ HXE.out HE_w7.out)
 have PF_w8:=hd_ (PF_w7.out.only ho PXF.out)
 have PT_w8:=hd_ (PT_w7.out.only ho PXT.out)
 clear hh ho
 clear a0 a1 a2 a3 a4 a5 a6 a7 af az E0 E1 E2 E3 E4 E5 E6
 obtain ⟨a0,a1,a2,a3,a4,a5,a6,a7,af,az⟩:=HW_w8.out.open_
 obtain ⟨E0,E1,E2,E3,E4,E5,E6,-,-⟩:=box7_ HE_w8.out
 have pc0:=PF_w8.out.c0
 have pc1:=PF_w8.out.c1
 have pc2:=PF_w8.out.c2
 have pc3:=PF_w8.out.c3
 have pc4:=PF_w8.out.c4
 have pc5:=PF_w8.out.c5
 have pc6:=PF_w8.out.c6
 go_wp2_with fail
 refine (zxy _ _ B X b [] (failF (failF (failF (failF (failF 0 (hasB (keysOf b.hs b.os) e.Key) 9) (decide (chanIx (b : Bk).cs e.Ch < 0)) 6) (decide (chanIx (b : Bk).cs e.To < 0)) 6) (decide ((20 : Int) ≤ (b.os.length : Int))) 14) (!ok) 10) A1 A2 A3 A4 p1 p2 p3 p4 (decide (cF.Local < sm)) 12 HW_w8.out).mono ?_
 rintro e' w9 ⟨rfl,hh,ho⟩
 have HW_w9:=hd_ (HW_w8.out.trans hh)
 have HE_w9:=hd_ (ho _ _ HXE.out HE_w8.out)
 have PF_w9:=hd_ (PF_w8.out.only ho PXF.out)
 have PT_w9:=hd_ (PT_w8.out.only ho PXT.out)
 clear hh ho
 clear a0 a1 a2 a3 a4 a5 a6 a7 af az E0 E1 E2 E3 E4 E5 E6
 obtain ⟨a0,a1,a2,a3,a4,a5,a6,a7,af,az⟩:=HW_w9.out.open_
 obtain ⟨E0,E1,E2,E3,E4,E5,E6,-,-⟩:=box7_ HE_w9.out
 clear pc0 pc1 pc2 pc3 pc4 pc5 pc6
 have pc0:=PT_w9.out.c0
 have pc1:=PT_w9.out.c1
 have pc2:=PT_w9.out.c2
 have pc3:=PT_w9.out.c3
 have pc4:=PT_w9.out.c4
 have pc5:=PT_w9.out.c5
 have pc6:=PT_w9.out.c6
 go_wp2_with fail
 refine zql (fun w' => kqiiissss w' X b.t b.n b.w A1 b.cs.length p1 A2 b.hs.length p2 A3 b.os.length p3 A4 ([].length) p4 (kqE w' EB e (kqio_ w' gT (oT + 3) cT.Remote))) [yF 0 54,yF 1 55,yF 2 56,yF 3 57,yF 4 58,yF 5 59,yF 6 60,yF 7 61,yT 8 62] (by kernel_rfl) (by kernel_rfl) (by kernel_rfl) ⟨a0,a1,a2,a3,a4,a5,a6,E0,E1,E2,E3,E4,E5,E6,pc3⟩ (fun hHeld => ?_)
 obtain ⟨w10,hwd⟩ : ∃ wd,w9.drew = wd:=⟨_,rfl⟩
 have HW_w10 : Hid (Wk 136 w w10 B X b [] (failF (failF (failF (failF (failF (failF 0 (hasB (keysOf b.hs b.os) e.Key) 9) (decide (chanIx (b : Bk).cs e.Ch < 0)) 6) (decide (chanIx (b : Bk).cs e.To < 0)) 6) (decide ((20 : Int) ≤ (b.os.length : Int))) 14) (!ok) 10) (decide (cF.Local < sm)) 12) A1 A2 A3 A4 p1 p2 p3 p4):=hd_ (by rw [← hwd];exact HW_w9.out.drew)
 have HE_w10 : Hid (Hx w10 EB (evC e) 64):=hd_ (by rw [← hwd];exact zqf HE_w9.out)
 have PF_w10:=hd_ (show ChAt w10 gF oF cF by rw [← hwd];exact ⟨PF_w9.out.c0,PF_w9.out.c1,PF_w9.out.c2,PF_w9.out.c3,PF_w9.out.c4,PF_w9.out.c5,PF_w9.out.c6⟩)
 have PT_w10:=hd_ (show ChAt w10 gT oT cT by rw [← hwd];exact ⟨PT_w9.out.c0,PT_w9.out.c1,PT_w9.out.c2,PT_w9.out.c3,PT_w9.out.c4,PT_w9.out.c5,PT_w9.out.c6⟩)
 clear a0 a1 a2 a3 a4 a5 a6 a7 af az E0 E1 E2 E3 E4 E5 E6
 rw [hwd] at hHeld ⊢
 clear hwd
 obtain ⟨a0,a1,a2,a3,a4,a5,a6,a7,af,az⟩:=HW_w10.out.open_
 obtain ⟨E0,E1,E2,E3,E4,E5,E6,-,-⟩:=box7_ HE_w10.out
 refine tk_ ?_
 clear pc0 pc1 pc2 pc3 pc4 pc5 pc6
 have pc0:=PT_w10.out.c0
 have pc1:=PT_w10.out.c1
 have pc2:=PT_w10.out.c2
 have pc3:=PT_w10.out.c3
 have pc4:=PT_w10.out.c4
 have pc5:=PT_w10.out.c5
 have pc6:=PT_w10.out.c6
 refine tk_ ?_
 refine Sq.step rfl (by rfl) (fun K hK => ?_)
 go_simp
 clear pc0 pc1 pc2 pc3 pc4 pc5 pc6
 refine (zxy _ _ B X b [] (failF (failF (failF (failF (failF (failF 0 (hasB (keysOf b.hs b.os) e.Key) 9) (decide (chanIx (b : Bk).cs e.Ch < 0)) 6) (decide (chanIx (b : Bk).cs e.To < 0)) 6) (decide ((20 : Int) ≤ (b.os.length : Int))) 14) (!ok) 10) (decide (cF.Local < sm)) 12) A1 A2 A3 A4 p1 p2 p3 p4 (decide (cT.Remote < e.Amt)) 11 HW_w10.out).mono ?_
 rintro e' w11 ⟨rfl,hh,ho⟩
 have HW_w11:=hd_ (HW_w10.out.trans hh)
 have HE_w11:=hd_ (ho _ _ HXE.out HE_w10.out)
 have PF_w11:=hd_ (PF_w10.out.only ho PXF.out)
 have PT_w11:=hd_ (PT_w10.out.only ho PXT.out)
 clear hh ho
 clear a0 a1 a2 a3 a4 a5 a6 a7 af az E0 E1 E2 E3 E4 E5 E6
 obtain ⟨a0,a1,a2,a3,a4,a5,a6,a7,af,az⟩:=HW_w11.out.open_
 obtain ⟨E0,E1,E2,E3,E4,E5,E6,-,-⟩:=box7_ HE_w11.out
 go_simp
 refine hK.out _ _ ⟨a0,a1,a2,a3,a4,a5,a6,E0,E1,E2,E3,E4,E5,E6,PT_w11.out.c3⟩ (fun hHeld => ?_)
 clear hK K
 refine tk_ ?_
 refine Sq.done (NoPanic.normal ?_)
 obtain ⟨cd,hcd⟩ : ∃ v,v = (failF (failF (failF (failF (failF (failF (failF 0 (hasB (keysOf b.hs b.os) e.Key) 9) (decide (chanIx (b : Bk).cs e.Ch < 0)) 6) (decide (chanIx (b : Bk).cs e.To < 0)) 6) (decide ((20 : Int) ≤ (b.os.length : Int))) 14) (!ok) 10) (decide (cF.Local < sm)) 12) (decide (cT.Remote < e.Amt)) 11):=⟨_,rfl⟩
 rw [← hcd] at HW_w11
 have HCcd:=hd_ hcd
 clear hcd
 clear a0 a1 a2 a3 a4 a5 a6 a7 af az E0 E1 E2 E3 E4 E5 E6
 obtain ⟨a0,a1,a2,a3,a4,a5,a6,a7,af,az⟩:=HW_w11.out.open_
 obtain ⟨E0,E1,E2,E3,E4,E5,E6,-,-⟩:=box7_ HE_w11.out
 have hcd9 : cd = failF (failF (failF (failF (failF (failF (failF 0 (hasB (keysOf b.hs b.os) e.Key) 9) (decide (chanIx b.cs e.Ch < 0)) 6) (decide (chanIx b.cs e.To < 0)) 6) (decide ((20 : Int) ≤ (b.os.length : Int))) 14) (!amtB (e.Amt + e.Fee)) 10) (decide (cF.Local < addV e.Amt e.Fee)) 12) (decide (cT.Remote < e.Amt)) 11:=by rw [HCcd.out,HSM.out,HOK.out]
 obtain ⟨hcA,hcB⟩:=zge HNE.out h20 (fun h9 => (HFF.out h9).2.2) (fun h9 => (HFT.out h9).2.2) hcd9
 have HCA:=hd_ hcA
 have HCB:=hd_ hcB
 clear hcA hcB hcd9
 cases tc : (cd != 0)
 ·
  have hcd0 : cd = 0:=by simpa using tc
  obtain ⟨c9,mi,mo,c6,c14,c10,c12,c11⟩:=HCB.out hcd0
  have hsm2 : sm = e.Amt + e.Fee:=by rw [HSM.out];unfold addV;rw [if_pos c10]
  subst hsm2
  obtain ⟨u,hu⟩:=Int.eq_ofNat_of_zero_le mi
  obtain ⟨v,hv⟩:=Int.eq_ofNat_of_zero_le mo
  have hlu:=zxh hu
  have hlv:=zxh hv
  have HU:=hd_ hu
  have HV:=hd_ hv
  obtain ⟨hA,hoF,hcF⟩:=HFF.out mi
  subst hA
  obtain ⟨hA,hoT,hcT⟩:=HFT.out mo
  injection hA with hA
  injection hA with hA
  subst hA
  rw [hu,Int.toNat_natCast] at hoF
  rw [hv,Int.toNat_natCast] at hoT
  subst hoF hoT
  obtain ⟨am1,am2⟩:=zxu.1 c10
  have HO:=hd_ (zyx c9 c6 c14 c10 hcF.symm c12 hcT.symm c11)
  clear hu hv mi mo hcF hcT c9 c6 c10
  clear a0 a1 a2 a3 a4 a5 a6 a7 af az E0 E1 E2 E3 E4 E5 E6
  obtain ⟨a0,a1,a2,a3,a4,a5,a6,a7,af,az⟩:=HW_w11.out.open_
  obtain ⟨E0,E1,E2,E3,E4,E5,E6,-,-⟩:=box7_ HE_w11.out
  go_wp2_with fail
  refine zqq (fun w' => kqiiissss w' X b.t b.n b.w (some ⟨gF,0,none⟩) b.cs.length p1 A2 b.hs.length p2 A3 b.os.length p3 A4 ([].length) p4 (kqE_ w' EB e)) [yF 0 68,yF 1 69,yF 2 70,yF 3 71,yF 4 72,yF 5 73,yF 6 74,yF 7 75,yF 8 76,yF 9 77,yF 10 78,yF 11 79,yF 12 80,yF 13 81,yF 14 82,yF 15 83,yF 16 84,yT 17 85,yT 18 86,yF 19 87,yF 20 88,yF 21 89] rfl (by kernel_rfl) (by kernel_rfl) (by kernel_rfl) (by kernel_rfl) (by kernel_rfl) (by kernel_rfl) ⟨a0,a1,a2,a3,a4,a5,a6,E0,E1,E2,E3,E4,E5,E6⟩ (fun hHeld => ?_)
  obtain ⟨w12,hwd⟩ : ∃ wd,w11.drew = wd:=⟨_,rfl⟩
  have HW_w12 : Hid (Wk 136 w w12 B X b [] cd (some ⟨gF,0,none⟩) A2 A3 A4 p1 p2 p3 p4):=hd_ (by rw [← hwd];exact HW_w11.out.drew)
  have HE_w12 : Hid (Hx w12 EB (evC e) 64):=hd_ (by rw [← hwd];exact zqf HE_w11.out)
  clear a0 a1 a2 a3 a4 a5 a6 a7 af az E0 E1 E2 E3 E4 E5 E6
  rw [hwd] at hHeld ⊢
  clear hwd
  obtain ⟨a0,a1,a2,a3,a4,a5,a6,a7,af,az⟩:=HW_w12.out.open_
  obtain ⟨E0,E1,E2,E3,E4,E5,E6,-,-⟩:=box7_ HE_w12.out
  refine tk_ ?_
  refine Sq.step rfl (by rfl) (fun K hK => ?_)
  go_simp
  refine zxm (fun w13 hw => ?_)
  have HW_w13 : Hid (Wk 136 w w13 B X b [] cd (some ⟨gF,0,none⟩) A2 A3 A4 p1 p2 p3 p4):=hd_ (by rw [hw];exact HW_w12.out.alloc _)
  have HE_w13 : Hid (Hx w13 EB (evC e) 64):=hd_ (by rw [hw];exact zqe (gz_ HE_w12.out).1 HE_w12.out)
  have HB : Hid (w13.heap[w12.heap.size]? = some (.cells #[.int .i64 e.Key,.int .i64 e.Ch,.int .i64 e.To,.int .i64 e.Amt,.int .i64 e.Fee] 93 (0,0))):=hd_ (by rw [hw];exact zqk rfl)
  clear hw
  clear a0 a1 a2 a3 a4 a5 a6 a7 af az E0 E1 E2 E3 E4 E5 E6
  obtain ⟨a0,a1,a2,a3,a4,a5,a6,a7,af,az⟩:=HW_w13.out.open_
  obtain ⟨E0,E1,E2,E3,E4,E5,E6,-,-⟩:=box7_ HE_w13.out
  go_simp
  refine hK.out _ _ ⟨a0,a1,a2,a3,a4,a5,a6,E0,E1,E2,E3,E4,E5,E6⟩ (fun hHeld => ?_)
  clear hK K
  refine tk_ ?_
  refine Sq.step rfl (by rfl) (fun K hK => ?_)
  refine zjf (ops:=#[]) (E:=True) rfl (zkh rfl _ _ _ rfl B 93 i0 _ 5 40 Tryz.underlying37 HI0.out HI1.out HI2.out HI3.out rfl (by decide) (.slice A3 b.os.length p3) _ (by rfl) HW_w13.out.o.o w12.heap.size 1 [.int .i64 e.Key,.int .i64 e.Ch,.int .i64 e.To,.int .i64 e.Amt,.int .i64 e.Fee] 93 (by rfl) HB.out rfl (by simp [Value.oneCell']) (by rw [List.length_map];omega) (by decide) HW_w13.out.ble ?_)
  intro g2 cap2 w14 how2 hgr2 hat2 hlt2
  have HA:=hd_ (HW_w13.out.appO (by decide) (by decide) (by decide) (by decide) (c:=⟨e.Key,e.Ch,e.To,e.Amt,e.Fee⟩) how2 hgr2)
  have HE_w14 : Hid (Hx w14 EB (evC e) 64):=hd_ (zqj hgr2 (HW_w13.out.o.o.ne_ HE_w13.out (by decide)) HE_w13.out)
  clear how2 hgr2 hat2 HB
  rw [List.length_map]
  clear a0 a1 a2 a3 a4 a5 a6 a7 af az E0 E1 E2 E3 E4 E5 E6
  obtain ⟨_,a0,a1,a2,a3,a4,a5,a6,a7,af,az⟩:=own8 HA.out.1
  obtain ⟨E0,E1,E2,E3,E4,E5,E6,-,-⟩:=box7_ HE_w14.out
  go_simp
  refine hK.out _ _ ⟨a0,a1,a2,a3,a4,a5,a6,E0,E1,E2,E3,E4,E5,E6⟩ (fun hHeld => ?_)
  clear hK K
  refine tk_ ?_
  refine Sq.done ?_
  intro KK hKK
  go_simp
  refine hKK _ _ (NoPanic.normal ?_)
  refine nm_ ?_
  intro w15 hw
  have HW_w15 : Hid (Wk 136 w w15 B X ⟨b.t,b.n,b.w,b.cs,b.hs,(b.os ++ [⟨e.Key,e.Ch,e.To,e.Amt,e.Fee⟩])⟩ [] cd (some ⟨gF,0,none⟩) A2 (some ⟨g2,0,none⟩) A4 p1 p2 cap2 p4):=hd_ (by rw [hw];exact HA.out.2)
  have HE_w15 : Hid (Hx w15 EB (evC e) 64):=hd_ (by rw [hw];exact zqb HXE.out HE_w14.out)
  clear hw
  clear a0 a1 a2 a3 a4 a5 a6 a7 af az E0 E1 E2 E3 E4 E5 E6
  obtain ⟨a0,a1,a2,a3,a4,a5,a6,a7,af,az⟩:=HW_w15.out.open_
  obtain ⟨E0,E1,E2,E3,E4,E5,E6,-,-⟩:=box7_ HE_w15.out
  clear HA
  obtain ⟨os1,hos1⟩ : ∃ l,b.os ++ [(⟨e.Key,e.Ch,e.To,e.Amt,e.Fee⟩ : Circle)] = l:=⟨_,rfl⟩
  rw [hos1] at HW_w15
  have HOS1:=hd_ hos1
  clear hos1
  clear a0 a1 a2 a3 a4 a5 a6 a7 af az E0 E1 E2 E3 E4 E5 E6
  obtain ⟨a0,a1,a2,a3,a4,a5,a6,a7,af,az⟩:=HW_w15.out.open_
  obtain ⟨E0,E1,E2,E3,E4,E5,E6,-,-⟩:=box7_ HE_w15.out
  obtain ⟨c,hc⟩ : ∃ c,b.cs[u]'hlu = c:=⟨_,rfl⟩
  have hr : (b.cs.map Chan.cells)[u]? = some c.cells:=by rw [List.getElem?_map,List.getElem?_eq_getElem hlu,hc];rfl
  obtain ⟨y0,y1,y2,y3,y4,y5,y6⟩:=c
  have HRowy:=hd_ hr
  have HCIy:=hd_ hc
  clear hr hc
  have hb1:=HBD.out _ (List.getElem_mem hlu)
  rw [HCIy.out] at hb1
  simp only at hb1
  have yc:=HW_w15.out.o.c.cellAt HRowy.out (j:=2) (by decide)
  simp only [Chan.cells,List.getElem?_cons_zero,List.getElem?_cons_succ] at yc
  have yf:=fun j => HW_w15.out.o.c.frozenAt j
  go_upto_region 12 with fail
  clear yc yf
  refine nm_ ?_
  intro w16 hw
  have HW_w16 : Hid (Wk 136 w w16 B X ⟨b.t,b.n,b.w,(b.cs.set u ⟨y0,y1,(y2 - (e.Amt + e.Fee)),y3,y4,y5,y6⟩),b.hs,os1⟩ [] cd (some ⟨gF,0,none⟩) A2 (some ⟨g2,0,none⟩) A4 p1 p2 cap2 p4):=hd_ (by rw [hw];exact HW_w15.out.putCell (c':=⟨y0,y1,(y2 - (e.Amt + e.Fee)),y3,y4,y5,y6⟩) (by decide) hlu (by decide) (by rw [HCIy.out];rfl))
  have HE_w16 : Hid (Hx w16 EB (evC e) 64):=hd_ (by rw [hw];exact zqb (fun e9 => HW_w15.out.o.c.ne_ HE_w15.out (by decide) (by rw [e9];rfl)) HE_w15.out)
  clear hw
  clear a0 a1 a2 a3 a4 a5 a6 a7 af az E0 E1 E2 E3 E4 E5 E6
  obtain ⟨a0,a1,a2,a3,a4,a5,a6,a7,af,az⟩:=HW_w16.out.open_
  obtain ⟨E0,E1,E2,E3,E4,E5,E6,-,-⟩:=box7_ HE_w16.out
  obtain ⟨cs1,hc3⟩ : ∃ v9,(b.cs.set u ⟨y0,y1,(y2 - (e.Amt + e.Fee)),y3,y4,y5,y6⟩) = v9:=⟨_,rfl⟩
  rw [hc3] at HW_w16
  have Hcs1:=hd_ hc3
  clear hc3
  clear a0 a1 a2 a3 a4 a5 a6 a7 af az E0 E1 E2 E3 E4 E5 E6
  obtain ⟨a0,a1,a2,a3,a4,a5,a6,a7,af,az⟩:=HW_w16.out.open_
  obtain ⟨E0,E1,E2,E3,E4,E5,E6,-,-⟩:=box7_ HE_w16.out
  have HM1 : Hid (moveC b.cs e.Ch (-(e.Amt + e.Fee)) 0 = cs1):=hd_ (by rw [← Hcs1.out,zvt HU.out hlu HCIy.out];rw [Int.sub_eq_add_neg])
  have hix1 : ∀ ch,chanIx cs1 ch = chanIx b.cs ch:=by rw [← HM1.out];exact fun ch => zxj _ _ _ _ ch
  have hl1 : cs1.length = b.cs.length:=by rw [← HM1.out];exact zxc _ _ _ _
  have HBD1 : Hid (Bd (1125899906842624 + 1125899906842624) cs1):=hd_ (by rw [← HM1.out];exact HBD.out.move _ _ _ (by omega) (by omega))
  have hlv1 : v < cs1.length:=by omega
  have HIX1:=hd_ hix1
  clear hix1
  obtain ⟨c,hc⟩ : ∃ c,cs1[v]'hlv1 = c:=⟨_,rfl⟩
  have hr : (cs1.map Chan.cells)[v]? = some c.cells:=by rw [List.getElem?_map,List.getElem?_eq_getElem hlv1,hc];rfl
  obtain ⟨z0,z1,z2,z3,z4,z5,z6⟩:=c
  have HRowz:=hd_ hr
  have HCIz:=hd_ hc
  clear hr hc
  have hb2:=HBD1.out _ (List.getElem_mem hlv1)
  rw [HCIz.out] at hb2
  simp only at hb2
  have ws : IntKind.i64.wrap (z3 - e.Amt) = z3 - e.Amt:=IntWalk.i64_in _ ⟨by omega,by omega⟩
  have yc:=HW_w16.out.o.c.cellAt HRowz.out (j:=3) (by decide)
  simp only [Chan.cells,List.getElem?_cons_zero,List.getElem?_cons_succ] at yc
  refine zqq (fun w' => kqiiissss w' X b.t b.n b.w (some ⟨gF,0,none⟩) cs1.length p1 A2 b.hs.length p2 (some ⟨g2,0,none⟩) os1.length cap2 A4 ([].length) p4 (kqE w' EB e (kqio_ w' gF (v * 7 + 3) z3))) [yF 0 98,yF 1 99,yF 2 100,yF 3 101,yF 4 102,yF 5 103,yF 6 104,yF 7 105,yF 8 106] rfl (by kernel_rfl) (by kernel_rfl) (by kernel_rfl) (by kernel_rfl) (by kernel_rfl) (by kernel_rfl) ⟨a0,a1,a2,a3,a4,a5,a6,E0,E1,E2,E3,E4,E5,E6,yc⟩ (fun hHeld => ?_)
  obtain ⟨w17,hwd⟩ : ∃ wd,w16.drew = wd:=⟨_,rfl⟩
  have HW_w17 : Hid (Wk 136 w w17 B X ⟨b.t,b.n,b.w,cs1,b.hs,os1⟩ [] cd (some ⟨gF,0,none⟩) A2 (some ⟨g2,0,none⟩) A4 p1 p2 cap2 p4):=hd_ (by rw [← hwd];exact HW_w16.out.drew)
  have HE_w17 : Hid (Hx w17 EB (evC e) 64):=hd_ (by rw [← hwd];exact zqf HE_w16.out)
  clear a0 a1 a2 a3 a4 a5 a6 a7 af az E0 E1 E2 E3 E4 E5 E6
  rw [hwd] at hHeld ⊢
  clear hwd
  obtain ⟨a0,a1,a2,a3,a4,a5,a6,a7,af,az⟩:=HW_w17.out.open_
  obtain ⟨E0,E1,E2,E3,E4,E5,E6,-,-⟩:=box7_ HE_w17.out
  refine tk_ ?_
  clear yc
  have yc:=HW_w17.out.o.c.cellAt HRowz.out (j:=3) (by decide)
  simp only [Chan.cells,List.getElem?_cons_zero,List.getElem?_cons_succ] at yc
  have yf:=fun j => HW_w17.out.o.c.frozenAt j
  refine Sq.done ?_
  intro KK hKK
  go_simp
  refine hKK _ _ (NoPanic.normal ?_)
  clear yc yf
  refine nm_ ?_
  intro w18 hw
  have HW_w18 : Hid (Wk 136 w w18 B X ⟨b.t,b.n,b.w,(cs1.set v ⟨z0,z1,z2,(z3 - e.Amt),z4,z5,z6⟩),b.hs,os1⟩ [] cd (some ⟨gF,0,none⟩) A2 (some ⟨g2,0,none⟩) A4 p1 p2 cap2 p4):=hd_ (by rw [hw];exact HW_w17.out.putCell (c':=⟨z0,z1,z2,(z3 - e.Amt),z4,z5,z6⟩) (by decide) hlv1 (by decide) (by rw [HCIz.out];rfl))
  have HE_w18 : Hid (Hx w18 EB (evC e) 64):=hd_ (by rw [hw];exact zqb (fun e9 => HW_w17.out.o.c.ne_ HE_w17.out (by decide) (by rw [e9];rfl)) HE_w17.out)
  clear hw
  clear a0 a1 a2 a3 a4 a5 a6 a7 af az E0 E1 E2 E3 E4 E5 E6
  obtain ⟨a0,a1,a2,a3,a4,a5,a6,a7,af,az⟩:=HW_w18.out.open_
  obtain ⟨E0,E1,E2,E3,E4,E5,E6,-,-⟩:=box7_ HE_w18.out
  obtain ⟨cs2,hc3⟩ : ∃ v9,(cs1.set v ⟨z0,z1,z2,(z3 - e.Amt),z4,z5,z6⟩) = v9:=⟨_,rfl⟩
  rw [hc3] at HW_w18
  have Hcs2:=hd_ hc3
  clear hc3
  clear a0 a1 a2 a3 a4 a5 a6 a7 af az E0 E1 E2 E3 E4 E5 E6
  obtain ⟨a0,a1,a2,a3,a4,a5,a6,a7,af,az⟩:=HW_w18.out.open_
  obtain ⟨E0,E1,E2,E3,E4,E5,E6,-,-⟩:=box7_ HE_w18.out
  clear ws
  have HM2 : Hid (moveC cs1 e.To 0 (-e.Amt) = cs2):=hd_ (by rw [← Hcs2.out,zvu (by rw [HIX1.out];exact HV.out) hlv1 HCIz.out];rw [Int.sub_eq_add_neg])
  go_wp2_with fail
  refine (zxz _ _ B X ⟨b.t,b.n,b.w,cs2,b.hs,os1⟩ [] cd (some ⟨gF,0,none⟩) A2 (some ⟨g2,0,none⟩) A4 p1 p2 cap2 p4 6 e.Ch (-(e.Amt + e.Fee)) (by decide) (by (try simp only);omega) (fun y hy => by cases hy) (fun y hy => by cases hy) HW_w18.out).mono ?_
  rintro e' w19 ⟨⟨Cw190,Cw191,Cw192,Cw193,rw190,rw191,rw192,rw193,rfl,hh⟩,ho⟩
  have HE_w19:=hd_ (ho _ _ HXE.out HE_w18.out)
  obtain ⟨M0,hL9⟩ : ∃ v,lineTo [] 6 e.Ch (-(e.Amt + e.Fee)) = v:=⟨_,rfl⟩
  rw [hL9] at hh
  have HMl0:=hd_ hL9
  have HW_w19:=hd_ (HW_w18.out.trans hh)
  clear hh ho hL9
  clear a0 a1 a2 a3 a4 a5 a6 a7 af az E0 E1 E2 E3 E4 E5 E6
  obtain ⟨a0,a1,a2,a3,a4,a5,a6,a7,af,az⟩:=HW_w19.out.open_
  obtain ⟨E0,E1,E2,E3,E4,E5,E6,-,-⟩:=box7_ HE_w19.out
  have HLM0 : Hid (M0.length ≤ 1):=hd_ (by rw [← HMl0.out];have h9:=zqr [] (6) (e.Ch) ((-(e.Amt + e.Fee)));have h8 : ([] : List Line).length ≤ 0:=Nat.le_refl _;omega)
  have HQ0 : Hid (∀ y ∈ M0,y = ⟨6,e.Ch,(-(e.Amt + e.Fee))⟩):=hd_ (fun y hy => by rw [← HMl0.out] at hy;rcases zxe (fun y hy => by cases hy) hy with h9 | h9;cases h9;exact h9)
  go_wp2_with fail
  refine (zxz _ _ B X ⟨b.t,b.n,b.w,cs2,b.hs,os1⟩ M0 cd Cw190 Cw191 Cw192 Cw193 rw190 rw191 rw192 rw193 8 e.Ch (e.Amt + e.Fee) (by have:=HLM0.out;omega) (by (try simp only);omega) (fun y hy => by rcases HQ0.out y hy with rfl <;> (simp only;omega)) (fun y hy => by rcases HQ0.out y hy with rfl <;> (simp only;omega)) HW_w19.out).mono ?_
  rintro e' w20 ⟨⟨Cw200,Cw201,Cw202,Cw203,rw200,rw201,rw202,rw203,rfl,hh⟩,ho⟩
  have HE_w20:=hd_ (ho _ _ HXE.out HE_w19.out)
  obtain ⟨M1,hL9⟩ : ∃ v,lineTo M0 8 e.Ch (e.Amt + e.Fee) = v:=⟨_,rfl⟩
  rw [hL9] at hh
  have HMl1:=hd_ hL9
  have HW_w20:=hd_ (HW_w19.out.trans hh)
  clear hh ho hL9
  clear a0 a1 a2 a3 a4 a5 a6 a7 af az E0 E1 E2 E3 E4 E5 E6
  obtain ⟨a0,a1,a2,a3,a4,a5,a6,a7,af,az⟩:=HW_w20.out.open_
  obtain ⟨E0,E1,E2,E3,E4,E5,E6,-,-⟩:=box7_ HE_w20.out
  have HLM1 : Hid (M1.length ≤ 2):=hd_ (by rw [← HMl1.out];have h9:=zqr M0 (8) (e.Ch) ((e.Amt + e.Fee));have h8 : (M0).length ≤ 1:=HLM0.out;omega)
  have HQ1 : Hid (∀ y ∈ M1,y = ⟨6,e.Ch,(-(e.Amt + e.Fee))⟩ ∨ y = ⟨8,e.Ch,(e.Amt + e.Fee)⟩):=hd_ (fun y hy => by rw [← HMl1.out] at hy;rcases zxe (fun y hy => by rcases HQ0.out y hy with rfl <;> (simp only;omega)) hy with h9 | h9;exact HQ0.out y h9 |> Or.inl;exact Or.inr h9)
  go_wp2_with fail
  go_end0
  rw [HO.out]
  have HZ : nz [⟨6,e.Ch,(-(e.Amt + e.Fee))⟩,⟨8,e.Ch,(e.Amt + e.Fee)⟩] = M1:=by rw [← HMl1.out,← HMl0.out];exact (line2 (by decide)).symm
  rw [HZ,HM1.out,HM2.out,HOS1.out]
  rw [hcd0] at HW_w20
  exact Acts.ok ⟨_,_,_,_,_,_,_,_,rfl,HW_w20.out⟩
 ·
  have hne : cd ≠ 0:=by simpa using tc
  go_wp2_with fail
  go_end0
  rw [HCA.out hne]
  exact Acts.no hne ⟨_,_,_,_,_,_,_,_,rfl,HW_w11.out⟩
end Go.Proofs.YtdbmkfmenfcbiaaGreat
