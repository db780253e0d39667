/- A payment in a circle sets out: the program's walk. -/
import Derived.Test.YtdbmkfmenfcbiaaGreatRows
import Derived.Test.YtdbmkfmenfcbiaaGreatNISe
import Derived.Test.YtdbmkfmenfcbiaaGreatNSLaunch
namespace Go.Proofs.YtdbmkfmenfcbiaaGreat
open Go.RowKit Go.Deep
def addV (a b : Int) : Int:=if amtB (a + b) = true then a + b else 0
theorem launch_code {b : Bk} {e : Event} {f d : Chan} {cd : Int} (hne : e.Ch ≠ e.To) (h20 : b.os.length ≤ 20) (hf : 0 ≤ chanIx b.cs e.Ch → f = chanOf b.cs e.Ch) (hd : 0 ≤ chanIx b.cs e.To → d = chanOf b.cs e.To)
  (h : cd = failF (failF (failF (failF (failF (failF (failF 0 (hasB (keysOf b.hs b.os) e.Key) 9) (decide (chanIx b.cs e.Ch < 0)) 6) (decide (chanIx b.cs e.To < 0)) 6) (decide ((20 : Int) ≤ (b.os.length : Int))) 14) (!amtB (e.Amt + e.Fee)) 10) (decide (f.Local < addV e.Amt e.Fee)) 12) (decide (d.Remote < e.Amt)) 11) :
  (cd ≠ 0 → launchS b e = bad cd)∧(cd = 0 → hasB (keysOf b.hs b.os) e.Key = false∧0 ≤ chanIx b.cs e.Ch∧0 ≤ chanIx b.cs e.To∧twoB b.cs e.Ch e.To = true∧b.os.length ≠ 20∧amtB (e.Amt + e.Fee) = true∧e.Amt + e.Fee ≤ f.Local∧e.Amt ≤ d.Remote):=by
 subst h
 cases h9 : hasB (keysOf b.hs b.os) e.Key
 case true =>
  rw [zgx h9]
  simp [failF]
 by_cases h6 : chanIx b.cs e.Ch < 0
 ·
  have h2 : twoB b.cs e.Ch e.To = false:=by unfold twoB;rw [decide_eq_false (by omega : ¬ 0 ≤ chanIx b.cs e.Ch)];simp
  rw [zyx h9 h2]
  simp [failF,h6]
 by_cases h6' : chanIx b.cs e.To < 0
 ·
  have h2 : twoB b.cs e.Ch e.To = false:=by unfold twoB;rw [decide_eq_false (by omega : ¬ 0 ≤ chanIx b.cs e.To)];simp
  rw [zyx h9 h2]
  simp [failF,h6,h6']
 have h2 : twoB b.cs e.Ch e.To = true:=by unfold twoB;rw [decide_eq_true (by omega : 0 ≤ chanIx b.cs e.Ch),decide_eq_true (by omega : 0 ≤ chanIx b.cs e.To)];simpa using hne
 have hf':=(hf (by omega)).symm
 have hd':=(hd (by omega)).symm
 by_cases h14 : (20 : Int) ≤ (b.os.length : Int)
 ·
  rw [zmf h9 h2 (by omega)]
  simp [failF,h6,h6',h14]
 cases h10 : amtB (e.Amt + e.Fee)
 ·
  rw [zmc h9 h2 (by omega) h10]
  simp [failF,h6,h6',h14]
 have ha : addV e.Amt e.Fee = e.Amt + e.Fee:=by unfold addV;rw [if_pos h10]
 rw [ha]
 by_cases h12 : f.Local < e.Amt + e.Fee
 ·
  rw [zme h9 h2 (by omega) h10 hf' h12]
  simp [failF,h6,h6',h14,h12]
 by_cases h11 : d.Remote < e.Amt
 ·
  rw [zmd h9 h2 (by omega) h10 hf' (by omega) hd' h11]
  simp [failF,h6,h6',h14,h12,h11]
 refine ⟨fun h => absurd ?_ h,fun _ => ⟨rfl,by omega,by omega,h2,by omega,rfl,by omega,by omega⟩⟩
 simp [failF,h6,h6',h14,h12,h11]
theorem zhs (x y : Int) (w : World) (hx : amtB x = true) (hy : amtB y = true) :
  Calls Tryz.prog 146 #[.int .i64 x,.int .i64 y] w fun e w' => e = .returned (.tuple #[.int .i64 (addV x y),.bool (amtB (x + y))])∧w = w':=by
 cases h : amtB (x + y)
 ·
  refine (zwn x y w (by rw [hx,hy,h];rfl)).mono ?_
  rintro e w' ⟨rfl,rfl⟩
  exact ⟨by unfold addV;rw [h];rfl,rfl⟩
 refine (zvp x y w hx hy h).mono ?_
 rintro e w' ⟨rfl,rfl⟩
 exact ⟨by unfold addV;rw [if_pos h],rfl⟩
set_option maxRecDepth 100000 in
set_option maxHeartbeats 4000000 in
theorem i_launch (w0 w : World) (B X : Nat) (b : Bk) (A1 A2 A3 A4 : Option Addr) (p1 p2 p3 p4 : Nat) (e : Event) (hF : BookFacts b.t b.n b.w b.cs b.hs b.os) (ha : amtB e.Amt = true) (hf : amtB e.Fee = true) (hne : e.Ch ≠ e.To) (h : Wk 136 w0 w B X b [] 0 A1 A2 A3 A4 p1 p2 p3 p4) :
  Calls Tryz.prog 95 #[.pointer (some ⟨X,0,none⟩),.agg #[.int .i64 e.Kind,.int .i64 e.Key,.int .i64 e.Ch,.int .i64 e.To,.int .i64 e.Amt,.int .i64 e.Fee,.bool e.Yes]] w (Acts 136 w B X (launchS b e)):=by
 have H:=hd_ h.here
 clear h
 have hcl:=hF.cl
 have h60:=hF.small.hl
 have h20:=hF.small.ol
 obtain ⟨fe1,fe2⟩:=zja.1 hf
 obtain ⟨ae1,ae2⟩:=zja.1 ha
 have HAA:=hd_ ha
 have HAF:=hd_ hf
 have HNE:=hd_ hne
 have HBD:=hd_ (zjd hF)
 clear hF hf ha hne
 obtain ⟨i0,hi,hz0,hz1,hz2⟩:=info_parts zjn
 have HI0:=hd_ hi
 have HI1:=hd_ hz0
 have HI2:=hd_ hz1
 have HI3:=hd_ hz2
 clear hi hz0 hz1 hz2
 obtain ⟨ja,af,az⟩:=opc_ H.out.open_
 go_enter Tryz.func95,Tryz.ntmps95
 go_wp2_with fail
 have HW_w:=H
 clear ja af az
 refine nm_ ?_
 intro w1 hw
 obtain ⟨EB,hB9⟩ : ∃ v9,v9 = w.heap.size:=⟨_,rfl⟩
 try rw [← hB9]
 have HW1:=wka_ hw HW_w
 have HE1 : Hid (Hx w1 EB (evC e) 64):=hd_ (by rw [hw,hB9];exact zqi rfl)
 have HXE : Hid (EB ≠ X):=hd_ (by have:=HW_w.out.lt;omega)
 clear hw hB9
 obtain ⟨ja,af,az⟩:=opc_ HW1.out.open_
 have jE:=bd7_ HE1
 refine zql (fun w' => kqiiissss w' X b.t b.n b.w A1 b.cs.length p1 A2 b.hs.length p2 A3 b.os.length p3 A4 ([].length) p4 (kqE_ w' EB e)) [yF 0 8,yF 1 9,yF 2 10,yF 3 11,yF 4 12,yF 5 13,yF 6 14,yT 7 15,yT 8 16] (by kernel_rfl) (by kernel_rfl) (by kernel_rfl) (q78_ ja jE) (fun hH => ?_)
 obtain ⟨w2,hwd⟩ : ∃ wd,w1.drew = wd:=⟨_,rfl⟩
 have HW2:=wkd_ hwd HW1
 have HE2:=hr_ hwd HE1
 clear ja af az jE
 rw [hwd] at hH ⊢
 clear hwd
 obtain ⟨ja,af,az⟩:=opc_ HW2.out.open_
 have jE:=bd7_ HE2
 refine tk_ ?_
 refine ss_ (fun K hK => ?_)
 go_simp
 refine (i_known b.t b.n b.w b.cs b.hs b.os _ _ _ _ _ _ e.Key _ (by omega) (by omega) ⟨HW2.out.o.c.rd,HW2.out.o.h.rd,HW2.out.o.o.rd⟩).mono ?_
 rintro e' w3 ⟨rfl,hb⟩
 have HW3:=hd_ (HW2.out.below hb)
 have HE3:=hb_ hb HE2
 clear hb
 go_simp
 refine hK.out _ _ (q78_ (opc_ HW3.out.open_).1 (bd7_ HE3)) (fun hH => ?_)
 clear hK K
 refine tk_ ?_
 refine ss_ (fun K hK => ?_)
 go_simp
 refine (zjf _ _ B X b [] 0 A1 A2 A3 A4 p1 p2 p3 p4 (hasB (keysOf b.hs b.os) e.Key) 9 HW3).mono ?_
 rintro e' w4 ⟨rfl,hh,ho⟩
 have HW4:=hd_ (HW3.out.trans hh)
 have HE4:=hd_ (ho _ _ HXE HE3)
 clear hh ho
 clear ja af az jE
 obtain ⟨ja,af,az⟩:=opc_ HW4.out.open_
 have jE:=bd7_ HE4
 go_simp
 refine hK.out _ _ (q78_ ja jE) (fun hH => ?_)
 clear hK K
 refine tk_ ?_
 refine Sq.done (NoPanic.normal ?_)
 go_wp2_with fail
 refine (i_ch _ _ B X b [] (failF 0 (hasB (keysOf b.hs b.os) e.Key) 9) A1 A2 A3 A4 p1 p2 p3 p4 e.Ch (by (try simp only);omega) HW4).mono ?_
 rintro e' w5 ⟨gF,oF,cF,rfl,hat,hgx,hh,ho,hf⟩
 have PXF:=hd_ hgx
 have HFF:=hd_ hf
 have HW5:=hd_ (HW4.out.trans hh)
 have HE5:=hd_ (ho _ _ HXE HE4)
 have PF_w5:=hd_ hat
 clear hat hgx hh ho hf
 clear ja af az jE
 obtain ⟨ja,af,az⟩:=opc_ HW5.out.open_
 have jE:=bd7_ HE5
 go_wp2_with fail
 refine (i_ch _ _ B X b [] (failF (failF 0 (hasB (keysOf b.hs b.os) e.Key) 9) (decide (chanIx (b : Bk).cs e.Ch < 0)) 6) A1 A2 A3 A4 p1 p2 p3 p4 e.To (by (try simp only);omega) HW5).mono ?_
 rintro e' w6 ⟨gT,oT,cT,rfl,hat,hgx,hh,ho,hf⟩
 have PXT:=hd_ hgx
 have HFT:=hd_ hf
 have HW6:=hd_ (HW5.out.trans hh)
 have HE6:=hd_ (ho _ _ HXE HE5)
 have PF_w6:=hd_ (PF_w5.out.only ho PXF.out)
 have PT_w6:=hd_ hat
 clear hat hgx hh ho hf
 clear ja af az jE
 obtain ⟨ja,af,az⟩:=opc_ HW6.out.open_
 have jE:=bd7_ HE6
 go_wp2_with fail
 refine (zjf _ _ B X b [] (failF (failF (failF 0 (hasB (keysOf b.hs b.os) e.Key) 9) (decide (chanIx (b : Bk).cs e.Ch < 0)) 6) (decide (chanIx (b : Bk).cs e.To < 0)) 6) A1 A2 A3 A4 p1 p2 p3 p4 (decide ((20 : Int) ≤ (b.os.length : Int))) 14 HW6).mono ?_
 rintro e' w7 ⟨rfl,hh,ho⟩
 have HW7:=hd_ (HW6.out.trans hh)
 have HE7:=hd_ (ho _ _ HXE HE6)
 have PF_w7:=hd_ (PF_w6.out.only ho PXF.out)
 have PT_w7:=hd_ (PT_w6.out.only ho PXT.out)
 clear hh ho
 clear ja af az jE
 obtain ⟨ja,af,az⟩:=opc_ HW7.out.open_
 have jE:=bd7_ HE7
 go_wp2_with fail
 refine (zhs e.Amt e.Fee _ HAA HAF).mono ?_
 rintro e' wz ⟨rfl,rfl⟩
 obtain ⟨sm,hsm⟩ : ∃ v,v = addV e.Amt e.Fee:=⟨_,rfl⟩
 rw [← hsm]
 have HSM:=hd_ hsm
 clear hsm
 obtain ⟨ok,hok⟩ : ∃ v,v = amtB (e.Amt + e.Fee):=⟨_,rfl⟩
 rw [← hok]
 have HOK:=hd_ hok
 clear hok
 go_wp2_with fail
 refine (zjf _ _ B X b [] (failF (failF (failF (failF 0 (hasB (keysOf b.hs b.os) e.Key) 9) (decide (chanIx (b : Bk).cs e.Ch < 0)) 6) (decide (chanIx (b : Bk).cs e.To < 0)) 6) (decide ((20 : Int) ≤ (b.os.length : Int))) 14) A1 A2 A3 A4 p1 p2 p3 p4 (!ok) 10 HW7).mono ?_
 rintro e' w8 ⟨rfl,hh,ho⟩
 have HW8:=hd_ (HW7.out.trans hh)
 have HE8:=hd_ (ho _ _ HXE HE7)
 have PF_w8:=hd_ (PF_w7.out.only ho PXF.out)
 have PT_w8:=hd_ (PT_w7.out.only ho PXT.out)
 clear hh ho
 clear ja af az jE
 obtain ⟨ja,af,az⟩:=opc_ HW8.out.open_
 have jE:=bd7_ HE8
 have pc0:=PF_w8.out.c0
 have pc1:=PF_w8.out.c1
 have pc2:=PF_w8.out.c2
 have pc3:=PF_w8.out.c3
 have pc4:=PF_w8.out.c4
 have pc5:=PF_w8.out.c5
 have pc6:=PF_w8.out.c6
 go_wp2_with fail
 refine (zjf _ _ B X b [] (failF (failF (failF (failF (failF 0 (hasB (keysOf b.hs b.os) e.Key) 9) (decide (chanIx (b : Bk).cs e.Ch < 0)) 6) (decide (chanIx (b : Bk).cs e.To < 0)) 6) (decide ((20 : Int) ≤ (b.os.length : Int))) 14) (!ok) 10) A1 A2 A3 A4 p1 p2 p3 p4 (decide (cF.Local < sm)) 12 HW8).mono ?_
 rintro e' w9 ⟨rfl,hh,ho⟩
 have HW9:=hd_ (HW8.out.trans hh)
 have HE9:=hd_ (ho _ _ HXE HE8)
 have PF_w9:=hd_ (PF_w8.out.only ho PXF.out)
 have PT_w9:=hd_ (PT_w8.out.only ho PXT.out)
 clear hh ho
 clear ja af az jE
 obtain ⟨ja,af,az⟩:=opc_ HW9.out.open_
 have jE:=bd7_ HE9
 clear pc0 pc1 pc2 pc3 pc4 pc5 pc6
 have pc0:=PT_w9.out.c0
 have pc1:=PT_w9.out.c1
 have pc2:=PT_w9.out.c2
 have pc3:=PT_w9.out.c3
 have pc4:=PT_w9.out.c4
 have pc5:=PT_w9.out.c5
 have pc6:=PT_w9.out.c6
 go_wp2_with fail
 refine zql (fun w' => kqiiissss w' X b.t b.n b.w A1 b.cs.length p1 A2 b.hs.length p2 A3 b.os.length p3 A4 ([].length) p4 (kqE w' EB e (kqio_ w' gT (oT + 3) cT.Remote))) [yF 0 54,yF 1 55,yF 2 56,yF 3 57,yF 4 58,yF 5 59,yF 6 60,yF 7 61,yT 8 62] (by kernel_rfl) (by kernel_rfl) (by kernel_rfl) (q78_ ja (q7_ jE pc3)) (fun hH => ?_)
 obtain ⟨w10,hwd⟩ : ∃ wd,w9.drew = wd:=⟨_,rfl⟩
 have HW10:=wkd_ hwd HW9
 have HE10:=hr_ hwd HE9
 have PF_w10:=hd_ (show ChAt w10 gF oF cF by rw [← hwd];exact ⟨PF_w9.out.c0,PF_w9.out.c1,PF_w9.out.c2,PF_w9.out.c3,PF_w9.out.c4,PF_w9.out.c5,PF_w9.out.c6⟩)
 have PT_w10:=hd_ (show ChAt w10 gT oT cT by rw [← hwd];exact ⟨PT_w9.out.c0,PT_w9.out.c1,PT_w9.out.c2,PT_w9.out.c3,PT_w9.out.c4,PT_w9.out.c5,PT_w9.out.c6⟩)
 clear ja af az jE
 rw [hwd] at hH ⊢
 clear hwd
 obtain ⟨ja,af,az⟩:=opc_ HW10.out.open_
 have jE:=bd7_ HE10
 refine tk_ ?_
 clear pc0 pc1 pc2 pc3 pc4 pc5 pc6
 have pc0:=PT_w10.out.c0
 have pc1:=PT_w10.out.c1
 have pc2:=PT_w10.out.c2
 have pc3:=PT_w10.out.c3
 have pc4:=PT_w10.out.c4
 have pc5:=PT_w10.out.c5
 have pc6:=PT_w10.out.c6
 refine tk_ ?_
 refine ss_ (fun K hK => ?_)
 go_simp
 clear pc0 pc1 pc2 pc3 pc4 pc5 pc6
 refine (zjf _ _ B X b [] (failF (failF (failF (failF (failF (failF 0 (hasB (keysOf b.hs b.os) e.Key) 9) (decide (chanIx (b : Bk).cs e.Ch < 0)) 6) (decide (chanIx (b : Bk).cs e.To < 0)) 6) (decide ((20 : Int) ≤ (b.os.length : Int))) 14) (!ok) 10) (decide (cF.Local < sm)) 12) A1 A2 A3 A4 p1 p2 p3 p4 (decide (cT.Remote < e.Amt)) 11 HW10).mono ?_
 rintro e' w11 ⟨rfl,hh,ho⟩
 have HW11:=hd_ (HW10.out.trans hh)
 have HE11:=hd_ (ho _ _ HXE HE10)
 have PF_w11:=hd_ (PF_w10.out.only ho PXF.out)
 have PT_w11:=hd_ (PT_w10.out.only ho PXT.out)
 clear hh ho
 clear ja af az jE
 obtain ⟨ja,af,az⟩:=opc_ HW11.out.open_
 have jE:=bd7_ HE11
 go_simp
 refine hK.out _ _ (q78_ ja (q7_ jE PT_w11.out.c3)) (fun hH => ?_)
 clear hK K
 refine tk_ ?_
 refine Sq.done (NoPanic.normal ?_)
 obtain ⟨cd,hcd⟩ : ∃ v,v = (failF (failF (failF (failF (failF (failF (failF 0 (hasB (keysOf b.hs b.os) e.Key) 9) (decide (chanIx (b : Bk).cs e.Ch < 0)) 6) (decide (chanIx (b : Bk).cs e.To < 0)) 6) (decide ((20 : Int) ≤ (b.os.length : Int))) 14) (!ok) 10) (decide (cF.Local < sm)) 12) (decide (cT.Remote < e.Amt)) 11):=⟨_,rfl⟩
 rw [← hcd] at HW11
 have HCcd:=hd_ hcd
 clear hcd
 clear ja af az jE
 obtain ⟨ja,af,az⟩:=opc_ HW11.out.open_
 have jE:=bd7_ HE11
 have hcd9 : cd = failF (failF (failF (failF (failF (failF (failF 0 (hasB (keysOf b.hs b.os) e.Key) 9) (decide (chanIx b.cs e.Ch < 0)) 6) (decide (chanIx b.cs e.To < 0)) 6) (decide ((20 : Int) ≤ (b.os.length : Int))) 14) (!amtB (e.Amt + e.Fee)) 10) (decide (cF.Local < addV e.Amt e.Fee)) 12) (decide (cT.Remote < e.Amt)) 11:=by rw [HCcd.out,HSM.out,HOK.out]
 obtain ⟨hcA,hcB⟩:=launch_code HNE h20 (fun h9 => (HFF.out h9).2.2) (fun h9 => (HFT.out h9).2.2) hcd9
 have HCA:=hd_ hcA
 have HCB:=hd_ hcB
 clear hcA hcB hcd9
 cases tc : (cd != 0)
 rotate_left
 ·
  have hne : cd ≠ 0:=by simpa using tc
  go_wp2_with fail
  go_end0
  rw [HCA.out hne]
  exact Acts.no hne ⟨_,_,_,_,_,_,_,_,rfl,HW11.out⟩
 have hcd0 : cd = 0:=by simpa using tc
 obtain ⟨c9,mi,mo,c6,c14,c10,c12,c11⟩:=HCB.out hcd0
 have hsm2 : sm = e.Amt + e.Fee:=by rw [HSM.out];unfold addV;rw [if_pos c10]
 subst hsm2
 obtain ⟨u,hu⟩:=Int.eq_ofNat_of_zero_le mi
 obtain ⟨v,hv⟩:=Int.eq_ofNat_of_zero_le mo
 have hlu:=zxm hu
 have hlv:=zxm hv
 have HU:=hd_ hu
 have HV:=hd_ hv
 obtain ⟨hA,hoF,hcF⟩:=HFF.out mi
 subst hA
 obtain ⟨hA,hoT,hcT⟩:=HFT.out mo
 injection hA with hA
 injection hA with hA
 subst hA
 rw [hu,Int.toNat_natCast] at hoF
 rw [hv,Int.toNat_natCast] at hoT
 subst hoF hoT
 obtain ⟨am1,am2⟩:=zja.1 c10
 have HO:=hd_ (zmg c9 c6 c14 c10 hcF.symm c12 hcT.symm c11)
 clear hu hv mi mo hcF hcT c9 c6 c10
 clear ja af az jE
 obtain ⟨ja,af,az⟩:=opc_ HW11.out.open_
 have jE:=bd7_ HE11
 go_wp2_with fail
 refine zqs (fun w' => kqiiissss w' X b.t b.n b.w (some ⟨gF,0,none⟩) b.cs.length p1 A2 b.hs.length p2 A3 b.os.length p3 A4 ([].length) p4 (kqE_ w' EB e)) [yF 0 68,yF 1 69,yF 2 70,yF 3 71,yF 4 72,yF 5 73,yF 6 74,yF 7 75,yF 8 76,yF 9 77,yF 10 78,yF 11 79,yF 12 80,yF 13 81,yF 14 82,yF 15 83,yF 16 84,yT 17 85,yT 18 86,yF 19 87,yF 20 88,yF 21 89] rfl (by kernel_rfl) (by kernel_rfl) (by kernel_rfl) (by kernel_rfl) (by kernel_rfl) (by kernel_rfl) (q78_ ja jE) (fun hH => ?_)
 obtain ⟨w12,hwd⟩ : ∃ wd,w11.drew = wd:=⟨_,rfl⟩
 have HW12:=wkd_ hwd HW11
 have HE12:=hr_ hwd HE11
 clear ja af az jE
 rw [hwd] at hH ⊢
 clear hwd
 obtain ⟨ja,af,az⟩:=opc_ HW12.out.open_
 have jE:=bd7_ HE12
 refine tk_ ?_
 refine ss_ (fun K hK => ?_)
 go_simp
 refine zxu (fun w13 hw => ?_)
 have HW13:=wka_ hw HW12
 have HE13:=ha_ hw HE12
 have HB : Hid (w13.heap[w12.heap.size]? = some (.cells #[.int .i64 e.Key,.int .i64 e.Ch,.int .i64 e.To,.int .i64 e.Amt,.int .i64 e.Fee] 93 (0,0))):=hd_ (by rw [hw];exact zqi rfl)
 clear hw
 clear ja af az jE
 obtain ⟨ja,af,az⟩:=opc_ HW13.out.open_
 have jE:=bd7_ HE13
 go_simp
 refine hK.out _ _ (q78_ ja jE) (fun hH => ?_)
 clear hK K
 refine tk_ ?_
 refine ss_ (fun K hK => ?_)
 refine zje (ops:=#[]) (E:=True) rfl (zks rfl _ _ _ rfl B 93 i0 _ 5 40 Tryz.underlying37 HI0 HI1 HI2 HI3 rfl (by decide) (.slice A3 b.os.length p3) _ (by rfl) HW13.out.o.o w12.heap.size 1 [.int .i64 e.Key,.int .i64 e.Ch,.int .i64 e.To,.int .i64 e.Amt,.int .i64 e.Fee] 93 (by rfl) HB rfl (by simp [Value.oneCell']) (by rw [List.length_map];omega) (by decide) HW13.out.ble ?_)
 intro g2 cap2 w14 how2 hgr2 hat2 hlt2
 have HA:=hd_ (HW13.out.appO (by decide) (by decide) (by decide) (by decide) (c:=⟨e.Key,e.Ch,e.To,e.Amt,e.Fee⟩) how2 hgr2)
 have HE14 : Hid (Hx w14 EB (evC e) 64):=hd_ (zqe hgr2 (HW13.out.o.o.ne_ HE13 (by decide)) HE13)
 clear how2 hgr2 hat2 HB
 rw [List.length_map]
 clear ja af az jE
 obtain ⟨_,ja,af,az⟩:=opd_ (own8 HA.out.1)
 have jE:=bd7_ HE14
 go_simp
 refine hK.out _ _ (q78_ ja jE) (fun hH => ?_)
 clear hK K
 refine tk_ ?_
 refine Sq.done ?_
 intro KK hKK
 go_simp
 refine hKK _ _ (NoPanic.normal ?_)
 refine nm_ ?_
 intro w15 hw
 have HW15 : Hid (Wk 136 w w15 B X ⟨b.t,b.n,b.w,b.cs,b.hs,(b.os ++ [⟨e.Key,e.Ch,e.To,e.Amt,e.Fee⟩])⟩ [] cd (some ⟨gF,0,none⟩) A2 (some ⟨g2,0,none⟩) A4 p1 p2 cap2 p4):=hd_ (by rw [hw];exact HA.out.2)
 have HE15:=hf_ hw HXE HE14
 clear hw
 clear ja af az jE
 obtain ⟨ja,af,az⟩:=opc_ HW15.out.open_
 have jE:=bd7_ HE15
 clear HA
 obtain ⟨os1,hos1⟩ : ∃ l,b.os ++ [(⟨e.Key,e.Ch,e.To,e.Amt,e.Fee⟩ : Circle)] = l:=⟨_,rfl⟩
 rw [hos1] at HW15
 have HOS1:=hd_ hos1
 clear hos1
 clear ja af az jE
 obtain ⟨ja,af,az⟩:=opc_ HW15.out.open_
 have jE:=bd7_ HE15
 obtain ⟨c,hc⟩ : ∃ c,b.cs[u]'hlu = c:=⟨_,rfl⟩
 have hr : (b.cs.map Chan.cells)[u]? = some c.cells:=by rw [List.getElem?_map,List.getElem?_eq_getElem hlu,hc];rfl
 obtain ⟨y0,y1,y2,y3,y4,y5,y6⟩:=c
 have HRowy:=hd_ hr
 have HCIy:=hd_ hc
 clear hr hc
 have hb1:=HBD.out _ (List.getElem_mem hlu)
 rw [HCIy.out] at hb1
 simp only at hb1
 have yc:=HW15.out.o.c.cellAt HRowy (j:=2) (by decide)
 simp only [Chan.cells,List.getElem?_cons_zero,List.getElem?_cons_succ] at yc
 have yf:=fun j => HW15.out.o.c.frozenAt j
 go_upto_region 12 with fail
 clear yc yf
 refine nm_ ?_
 intro w16 hw
 have HW16 : Hid (Wk 136 w w16 B X ⟨b.t,b.n,b.w,(b.cs.set u ⟨y0,y1,(y2 - (e.Amt + e.Fee)),y3,y4,y5,y6⟩),b.hs,os1⟩ [] cd (some ⟨gF,0,none⟩) A2 (some ⟨g2,0,none⟩) A4 p1 p2 cap2 p4):=hd_ (by rw [hw];exact HW15.out.putCell (c':=⟨y0,y1,(y2 - (e.Amt + e.Fee)),y3,y4,y5,y6⟩) (by decide) hlu (by decide) (by rw [HCIy.out];rfl))
 have HE16:=hf_ hw (fun e9 => HW15.out.o.c.ne_ HE15 (by decide) (by rw [e9];rfl)) HE15
 clear hw
 clear ja af az jE
 obtain ⟨ja,af,az⟩:=opc_ HW16.out.open_
 have jE:=bd7_ HE16
 obtain ⟨cs1,hc3⟩ : ∃ v9,(b.cs.set u ⟨y0,y1,(y2 - (e.Amt + e.Fee)),y3,y4,y5,y6⟩) = v9:=⟨_,rfl⟩
 rw [hc3] at HW16
 have Hcs1:=hd_ hc3
 clear hc3
 clear ja af az jE
 obtain ⟨ja,af,az⟩:=opc_ HW16.out.open_
 have jE:=bd7_ HE16
 have HM1 : Hid (moveC b.cs e.Ch (-(e.Amt + e.Fee)) 0 = cs1):=hd_ (by rw [← Hcs1.out,zwq HU hlu HCIy.out];rw [Int.sub_eq_add_neg])
 have hix1 : ∀ ch,chanIx cs1 ch = chanIx b.cs ch:=by rw [← HM1.out];exact fun ch => zxn _ _ _ _ ch
 have hl1 : cs1.length = b.cs.length:=by rw [← HM1.out];exact zxg _ _ _ _
 have HBD1 : Hid (Bd (1125899906842624 + 1125899906842624) cs1):=hd_ (by rw [← HM1.out];exact HBD.out.move _ _ _ (by omega) (by omega))
 have hlv1 : v < cs1.length:=by omega
 have HIX1:=hd_ hix1
 clear hix1
 obtain ⟨c,hc⟩ : ∃ c,cs1[v]'hlv1 = c:=⟨_,rfl⟩
 have hr : (cs1.map Chan.cells)[v]? = some c.cells:=by rw [List.getElem?_map,List.getElem?_eq_getElem hlv1,hc];rfl
 obtain ⟨z0,z1,z2,z3,z4,z5,z6⟩:=c
 have HRowz:=hd_ hr
 have HCIz:=hd_ hc
 clear hr hc
 have hb2:=HBD1.out _ (List.getElem_mem hlv1)
 rw [HCIz.out] at hb2
 simp only at hb2
 have ws : IntKind.i64.wrap (z3 - e.Amt) = z3 - e.Amt:=IntWalk.i64_in _ ⟨by omega,by omega⟩
 have yc:=HW16.out.o.c.cellAt HRowz (j:=3) (by decide)
 simp only [Chan.cells,List.getElem?_cons_zero,List.getElem?_cons_succ] at yc
 refine zqs (fun w' => kqiiissss w' X b.t b.n b.w (some ⟨gF,0,none⟩) cs1.length p1 A2 b.hs.length p2 (some ⟨g2,0,none⟩) os1.length cap2 A4 ([].length) p4 (kqE w' EB e (kqio_ w' gF (v * 7 + 3) z3))) [yF 0 98,yF 1 99,yF 2 100,yF 3 101,yF 4 102,yF 5 103,yF 6 104,yF 7 105,yF 8 106] rfl (by kernel_rfl) (by kernel_rfl) (by kernel_rfl) (by kernel_rfl) (by kernel_rfl) (by kernel_rfl) (q78_ ja (q7_ jE yc)) (fun hH => ?_)
 obtain ⟨w17,hwd⟩ : ∃ wd,w16.drew = wd:=⟨_,rfl⟩
 have HW17:=wkd_ hwd HW16
 have HE17:=hr_ hwd HE16
 clear ja af az jE
 rw [hwd] at hH ⊢
 clear hwd
 obtain ⟨ja,af,az⟩:=opc_ HW17.out.open_
 have jE:=bd7_ HE17
 refine tk_ ?_
 clear yc
 have yc:=HW17.out.o.c.cellAt HRowz (j:=3) (by decide)
 simp only [Chan.cells,List.getElem?_cons_zero,List.getElem?_cons_succ] at yc
 have yf:=fun j => HW17.out.o.c.frozenAt j
 refine Sq.done ?_
 intro KK hKK
 go_simp
 refine hKK _ _ (NoPanic.normal ?_)
 clear yc yf
 refine nm_ ?_
 intro w18 hw
 have HW18 : Hid (Wk 136 w w18 B X ⟨b.t,b.n,b.w,(cs1.set v ⟨z0,z1,z2,(z3 - e.Amt),z4,z5,z6⟩),b.hs,os1⟩ [] cd (some ⟨gF,0,none⟩) A2 (some ⟨g2,0,none⟩) A4 p1 p2 cap2 p4):=hd_ (by rw [hw];exact HW17.out.putCell (c':=⟨z0,z1,z2,(z3 - e.Amt),z4,z5,z6⟩) (by decide) hlv1 (by decide) (by rw [HCIz.out];rfl))
 have HE18:=hf_ hw (fun e9 => HW17.out.o.c.ne_ HE17 (by decide) (by rw [e9];rfl)) HE17
 clear hw
 clear ja af az jE
 obtain ⟨ja,af,az⟩:=opc_ HW18.out.open_
 have jE:=bd7_ HE18
 obtain ⟨cs2,hc3⟩ : ∃ v9,(cs1.set v ⟨z0,z1,z2,(z3 - e.Amt),z4,z5,z6⟩) = v9:=⟨_,rfl⟩
 rw [hc3] at HW18
 have Hcs2:=hd_ hc3
 clear hc3
 clear ja af az jE
 obtain ⟨ja,af,az⟩:=opc_ HW18.out.open_
 have jE:=bd7_ HE18
 clear ws
 have HM2 : Hid (moveC cs1 e.To 0 (-e.Amt) = cs2):=hd_ (by rw [← Hcs2.out,zwr (by rw [HIX1.out];exact HV) hlv1 HCIz.out];rw [Int.sub_eq_add_neg])
 go_wp2_with fail
 refine (zjg _ _ B X ⟨b.t,b.n,b.w,cs2,b.hs,os1⟩ [] cd (some ⟨gF,0,none⟩) A2 (some ⟨g2,0,none⟩) A4 p1 p2 cap2 p4 6 e.Ch (-(e.Amt + e.Fee)) (by decide) (by (try simp only);omega) (fun y hy => by cases hy) (fun y hy => by cases hy) HW18).mono ?_
 rintro e' w19 ⟨⟨Cw190,Cw191,Cw192,Cw193,rw190,rw191,rw192,rw193,rfl,hh⟩,ho⟩
 have HE19:=hd_ (ho _ _ HXE HE18)
 obtain ⟨M0,hL9⟩ : ∃ v,lineTo [] 6 e.Ch (-(e.Amt + e.Fee)) = v:=⟨_,rfl⟩
 rw [hL9] at hh
 have HMl0:=hd_ hL9
 have HW19:=hd_ (HW18.out.trans hh)
 clear hh ho hL9
 clear ja af az jE
 obtain ⟨ja,af,az⟩:=opc_ HW19.out.open_
 have jE:=bd7_ HE19
 have HLM0 : Hid (M0.length ≤ 1):=hd_ (by rw [← HMl0.out];have h9:=zqu [] (6) (e.Ch) ((-(e.Amt + e.Fee)));have h8 : ([] : List Line).length ≤ 0:=Nat.le_refl _;omega)
 have HQ0 : Hid (∀ y ∈ M0,y = ⟨6,e.Ch,(-(e.Amt + e.Fee))⟩):=hd_ (fun y hy => by rw [← HMl0.out] at hy;rcases zxk (fun y hy => by cases hy) hy with h9 | h9;cases h9;exact h9)
 go_wp2_with fail
 refine (zjg _ _ B X ⟨b.t,b.n,b.w,cs2,b.hs,os1⟩ M0 cd Cw190 Cw191 Cw192 Cw193 rw190 rw191 rw192 rw193 8 e.Ch (e.Amt + e.Fee) (by have:=HLM0.out;omega) (by (try simp only);omega) (fun y hy => by rcases HQ0 y hy with rfl <;> (simp only;omega)) (fun y hy => by rcases HQ0 y hy with rfl <;> (simp only;omega)) HW19).mono ?_
 rintro e' w20 ⟨⟨Cw200,Cw201,Cw202,Cw203,rw200,rw201,rw202,rw203,rfl,hh⟩,ho⟩
 have HE20:=hd_ (ho _ _ HXE HE19)
 obtain ⟨M1,hL9⟩ : ∃ v,lineTo M0 8 e.Ch (e.Amt + e.Fee) = v:=⟨_,rfl⟩
 rw [hL9] at hh
 have HMl1:=hd_ hL9
 have HW20:=hd_ (HW19.out.trans hh)
 clear hh ho hL9
 clear ja af az jE
 obtain ⟨ja,af,az⟩:=opc_ HW20.out.open_
 have jE:=bd7_ HE20
 have HLM1 : Hid (M1.length ≤ 2):=hd_ (by rw [← HMl1.out];have h9:=zqu M0 (8) (e.Ch) ((e.Amt + e.Fee));have h8 : (M0).length ≤ 1:=HLM0.out;omega)
 have HQ1 : Hid (∀ y ∈ M1,y = ⟨6,e.Ch,(-(e.Amt + e.Fee))⟩ ∨ y = ⟨8,e.Ch,(e.Amt + e.Fee)⟩):=hd_ (fun y hy => by rw [← HMl1.out] at hy;rcases zxk (fun y hy => by rcases HQ0 y hy with rfl <;> (simp only;omega)) hy with h9 | h9;exact HQ0 y h9 |> Or.inl;exact Or.inr h9)
 go_wp2_with fail
 go_end0
 rw [HO.out]
 have HZ : nz [⟨6,e.Ch,(-(e.Amt + e.Fee))⟩,⟨8,e.Ch,(e.Amt + e.Fee)⟩] = M1:=by rw [← HMl1.out,← HMl0.out];exact (line2 (by decide)).symm
 rw [HZ,HM1.out,HM2.out,HOS1.out]
 rw [hcd0] at HW20
 exact Acts.ok ⟨_,_,_,_,_,_,_,_,rfl,HW20.out⟩
end Go.Proofs.YtdbmkfmenfcbiaaGreat
