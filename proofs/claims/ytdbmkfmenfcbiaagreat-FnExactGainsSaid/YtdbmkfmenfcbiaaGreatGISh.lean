/- A channel closes: the program's walk. -/
import Derived.Test.YtdbmkfmenfcbiaaGreatRows
import Derived.Test.YtdbmkfmenfcbiaaGreatGISe
import Derived.Test.YtdbmkfmenfcbiaaGreatGSClose
import Derived.Test.YtdbmkfmenfcbiaaGreatGM1
namespace Go.Proofs.YtdbmkfmenfcbiaaGreat
open Go.RowKit Go.Deep
theorem cs_found {b : Bk} (hb : b.ok = true) {ch : Int} {i : Nat} (h : chanIx b.cs ch = (i : Int)) (hl : i < b.cs.length) : b.cs[i].Id = ch∧b.cs.filter (notCh ch) = b.cs.eraseIdx i:=by
 have hp:=ids_rise hb
 rw [List.pairwise_iff_getElem] at hp
 have hid : b.cs[i].Id = ch:=by
  unfold chanIx at h
  split at h
  ·
   rename_i j hj
   obtain ⟨_,h2,_⟩:=List.findIdx?_eq_some_iff_getElem.1 hj
   have : j = i:=by omega
   subst this
   simpa [notId] using h2
  ·
   omega
 refine ⟨hid,?_⟩
 have hA : ∀ x ∈ b.cs.take i,notCh ch x = true:=by
  intro x hx
  obtain ⟨j,hj,rfl⟩:=List.mem_take_iff_getElem.1 hx
  have:=hp j i (by omega) hl (by omega)
  unfold notCh
  rw [bne_iff_ne]
  omega
 have hB : ∀ x ∈ b.cs.drop (i + 1),notCh ch x = true:=by
  intro x hx
  obtain ⟨j,hj,rfl⟩:=List.mem_iff_getElem.1 hx
  rw [List.length_drop] at hj
  rw [List.getElem_drop]
  have:=hp i (i + 1 + j) hl (by omega) (by omega)
  unfold notCh
  rw [bne_iff_ne]
  omega
 rw [List.eraseIdx_eq_take_drop_succ]
 have e1 : b.cs.filter (notCh ch) = (b.cs.take i ++ b.cs[i] :: b.cs.drop (i + 1)).filter (notCh ch):=by rw [← zwj hl]
 rw [e1,List.filter_append,List.filter_cons_of_neg (by simp [notCh,hid]),List.filter_eq_self.2 hA,List.filter_eq_self.2 hB]
theorem close_code {b : Bk} {e : Event} {c : Chan} {cd : Int} (hc : 0 ≤ chanIx b.cs e.Ch → c = chanOf b.cs e.Ch) (h : cd = failF (failF (failF 0 (decide (chanIx b.cs e.Ch < 0)) 6) (busyB b.hs b.os e.Ch) 7) (decide (c.Local < e.Fee)) 8) :
  (cd ≠ 0 → closeB b e = bad cd)∧(cd = 0 → 0 ≤ chanIx b.cs e.Ch∧busyB b.hs b.os e.Ch = false∧e.Fee ≤ c.Local):=by
 subst h
 by_cases h6 : chanIx b.cs e.Ch < 0
 ·
  rw [decide_eq_true h6,zgu h6,ztn,if_pos rfl,show failF 6 (busyB b.hs b.os e.Ch) 7 = 6 from zwy (by decide),show failF 6 (decide (c.Local < e.Fee)) 8 = 6 from zwy (by decide)]
  exact ⟨fun _ => rfl,fun h9 => by cases h9⟩
 ·
  have hc':=(hc (by omega)).symm
  rw [decide_eq_false h6,ztn,if_neg (by decide),ztn]
  cases h7 : busyB b.hs b.os e.Ch
  ·
   rw [if_neg (by decide),ztn]
   by_cases h8 : c.Local < e.Fee
   ·
    rw [decide_eq_true h8,if_pos rfl,zgw (by omega) h7 hc' h8]
    exact ⟨fun _ => rfl,fun h9 => by cases h9⟩
   ·
    rw [decide_eq_false h8,if_neg (by decide)]
    exact ⟨fun h9 => absurd rfl h9,fun _ => ⟨by omega,rfl,by omega⟩⟩
  ·
   rw [if_pos rfl,zwy (by decide),zgv (by omega) h7]
   exact ⟨fun _ => rfl,fun h9 => by cases h9⟩
set_option maxRecDepth 100000 in
set_option maxHeartbeats 4000000 in
theorem i_shut (w0 w : World) (B X : Nat) (b : Bk) (A1 A2 A3 A4 : Option Addr) (p1 p2 p3 p4 : Nat) (e : Event) (hok : b.ok = true) (hf : amtB e.Fee = true) (h : Wk 136 w0 w B X b [] 0 A1 A2 A3 A4 p1 p2 p3 p4) :
  Calls Tryz.prog 90 #[.pointer (some ⟨X,0,none⟩),.agg #[.int .i64 e.Kind,.int .i64 e.Key,.int .i64 e.Ch,.int .i64 e.To,.int .i64 e.Amt,.int .i64 e.Fee,.bool e.Yes]] w (Acts 136 w B X (closeB b e)):=by
 have H:=hd_ h.here
 clear h
 have hF:=zxw hok
 have hcl:=hF.cl
 have h60:=hF.small.hl
 have h20:=hF.small.ol
 obtain ⟨bw1,bw2⟩:=hF.w
 obtain ⟨fe1,fe2⟩:=zxu.1 hf
 have HOK:=hd_ hok
 have HF0:=hd_ hF
 have HBD:=hd_ (zxx hF)
 clear hF hok hf
 obtain ⟨i0,hi,hz0,hz1,hz2⟩:=info_parts zjp
 have HI0:=hd_ hi
 have HI1:=hd_ hz0
 have HI2:=hd_ hz1
 have HI3:=hd_ hz2
 clear hi hz0 hz1 hz2
 obtain ⟨a0,a1,a2,a3,a4,a5,a6,a7,af,az⟩:=H.out.open_
 go_enter Tryz.func90,Tryz.ntmps90
 go_wp2_with fail
 have HW_w:=H
 clear a0 a1 a2 a3 a4 a5 a6 a7 af az
 refine nm_ ?_
 intro w1 hw
 obtain ⟨EB,hB9⟩ : ∃ v9,v9 = w.heap.size:=⟨_,rfl⟩
 try rw [← hB9]
 have HW_w1 : Hid (Wk 136 w w1 B X b [] 0 A1 A2 A3 A4 p1 p2 p3 p4):=hd_ (by rw [hw];exact HW_w.out.alloc _)
 have HE_w1 : Hid (Hx w1 EB (evC e) 64):=hd_ (by rw [hw,hB9];exact zqk rfl)
 have HXE : Hid (EB ≠ X):=hd_ (by have:=HW_w.out.lt;omega)
 clear hw hB9
 obtain ⟨a0,a1,a2,a3,a4,a5,a6,a7,af,az⟩:=HW_w1.out.open_
 obtain ⟨E0,E1,E2,E3,E4,E5,E6,-,-⟩:=box7_ HE_w1.out
 refine (i_ch _ _ B X b [] 0 A1 A2 A3 A4 p1 p2 p3 p4 e.Ch (by (try simp only);omega) HW_w1.out).mono ?_
 rintro e' w2 ⟨gC,oC,cC,rfl,hat,hgx,hh,ho,hf⟩
 have PXC:=hd_ hgx
 have HFC:=hd_ hf
 have HW_w2:=hd_ (HW_w1.out.trans hh)
 have HE_w2:=hd_ (ho _ _ HXE.out HE_w1.out)
 have PC_w2:=hd_ hat
 clear hat hgx hh ho hf
 clear a0 a1 a2 a3 a4 a5 a6 a7 af az E0 E1 E2 E3 E4 E5 E6
 obtain ⟨a0,a1,a2,a3,a4,a5,a6,a7,af,az⟩:=HW_w2.out.open_
 obtain ⟨E0,E1,E2,E3,E4,E5,E6,-,-⟩:=box7_ HE_w2.out
 have pc0:=PC_w2.out.c0
 have pc1:=PC_w2.out.c1
 have pc2:=PC_w2.out.c2
 have pc3:=PC_w2.out.c3
 have pc4:=PC_w2.out.c4
 have pc5:=PC_w2.out.c5
 have pc6:=PC_w2.out.c6
 go_upto_region 2 with fail
 clear pc0 pc1 pc2 pc3 pc4 pc5 pc6
 refine nm_ ?_
 intro w3 hw
 obtain ⟨CB,hB9⟩ : ∃ v9,v9 = w2.heap.size:=⟨_,rfl⟩
 try rw [← hB9]
 have HW_w3 : Hid (Wk 136 w w3 B X b [] (failF 0 (decide (chanIx (b : Bk).cs e.Ch < 0)) 6) A1 A2 A3 A4 p1 p2 p3 p4):=hd_ (by rw [hw];exact HW_w2.out.alloc _)
 have HE_w3 : Hid (Hx w3 EB (evC e) 64):=hd_ (by rw [hw];exact zqe (gz_ HE_w2.out).1 HE_w2.out)
 have PC_w3:=hd_ (show ChAt w3 gC oC cC by rw [hw];exact PC_w2.out.below ((Below.refl _ _).alloc (Nat.le_refl _) _))
 clear a0 a1 a2 a3 a4 a5 a6 a7 af az E0 E1 E2 E3 E4 E5 E6
 have HC_w3 : Hid (Hx w3 CB #[.int .i64 cC.Id,.int .i64 cC.Size,.int .i64 cC.Local,.int .i64 cC.Remote,.int .i64 cC.Base,.int .i64 cC.Ppm,.int .i64 cC.Score] 103):=hd_ (by rw [hw,hB9];exact zqk rfl)
 have HXC : Hid (CB ≠ X):=hd_ (by have:=HW_w2.out.lt;omega)
 clear hw hB9
 obtain ⟨a0,a1,a2,a3,a4,a5,a6,a7,af,az⟩:=HW_w3.out.open_
 obtain ⟨E0,E1,E2,E3,E4,E5,E6,-,-⟩:=box7_ HE_w3.out
 obtain ⟨C0,C1,C2,C3,C4,C5,C6,-,-⟩:=box7_ HC_w3.out
 refine zql (fun w' => kqiiissss w' X b.t b.n b.w A1 b.cs.length p1 A2 b.hs.length p2 A3 b.os.length p3 A4 ([].length) p4 (kqE w' EB e (kqiiiiiii_ w' CB cC.Id cC.Size cC.Local cC.Remote cC.Base cC.Ppm cC.Score))) [yF 0 12,yF 1 13,yF 2 14,yF 3 15,yF 4 16,yF 5 17,yF 6 18,yT 7 19,yT 8 20] (by kernel_rfl) (by kernel_rfl) (by kernel_rfl) ⟨a0,a1,a2,a3,a4,a5,a6,E0,E1,E2,E3,E4,E5,E6,C0,C1,C2,C3,C4,C5,C6⟩ (fun hHeld => ?_)
 obtain ⟨w4,hwd⟩ : ∃ wd,w3.drew = wd:=⟨_,rfl⟩
 have HW_w4 : Hid (Wk 136 w w4 B X b [] (failF 0 (decide (chanIx (b : Bk).cs e.Ch < 0)) 6) A1 A2 A3 A4 p1 p2 p3 p4):=hd_ (by rw [← hwd];exact HW_w3.out.drew)
 have HE_w4 : Hid (Hx w4 EB (evC e) 64):=hd_ (by rw [← hwd];exact zqf HE_w3.out)
 have HC_w4 : Hid (Hx w4 CB #[.int .i64 cC.Id,.int .i64 cC.Size,.int .i64 cC.Local,.int .i64 cC.Remote,.int .i64 cC.Base,.int .i64 cC.Ppm,.int .i64 cC.Score] 103):=hd_ (by rw [← hwd];exact zqf HC_w3.out)
 have PC_w4:=hd_ (show ChAt w4 gC oC cC by rw [← hwd];exact ⟨PC_w3.out.c0,PC_w3.out.c1,PC_w3.out.c2,PC_w3.out.c3,PC_w3.out.c4,PC_w3.out.c5,PC_w3.out.c6⟩)
 clear a0 a1 a2 a3 a4 a5 a6 a7 af az E0 E1 E2 E3 E4 E5 E6 C0 C1 C2 C3 C4 C5 C6
 rw [hwd] at hHeld ⊢
 clear hwd
 obtain ⟨a0,a1,a2,a3,a4,a5,a6,a7,af,az⟩:=HW_w4.out.open_
 obtain ⟨E0,E1,E2,E3,E4,E5,E6,-,-⟩:=box7_ HE_w4.out
 obtain ⟨C0,C1,C2,C3,C4,C5,C6,-,-⟩:=box7_ HC_w4.out
 refine tk_ ?_
 refine Sq.step rfl (by rfl) (fun K hK => ?_)
 go_simp
 refine (i_used b.t b.n b.w b.cs b.hs b.os _ _ _ _ _ _ e.Ch _ (by omega) (by omega) ⟨HW_w4.out.o.c.rd,HW_w4.out.o.h.rd,HW_w4.out.o.o.rd⟩).mono ?_
 rintro e' w5 ⟨rfl,hb⟩
 have HW_w5:=hd_ (HW_w4.out.below hb)
 have HE_w5:=hd_ (zqc hb (gz_ HE_w4.out).1 HE_w4.out)
 have HC_w5:=hd_ (zqc hb (gz_ HC_w4.out).1 HC_w4.out)
 have PC_w5:=hd_ (PC_w4.out.below hb)
 clear hb
 clear a0 a1 a2 a3 a4 a5 a6 a7 af az E0 E1 E2 E3 E4 E5 E6 C0 C1 C2 C3 C4 C5 C6
 obtain ⟨a0,a1,a2,a3,a4,a5,a6,a7,af,az⟩:=HW_w5.out.open_
 obtain ⟨E0,E1,E2,E3,E4,E5,E6,-,-⟩:=box7_ HE_w5.out
 obtain ⟨C0,C1,C2,C3,C4,C5,C6,-,-⟩:=box7_ HC_w5.out
 go_simp
 refine hK.out _ _ ⟨a0,a1,a2,a3,a4,a5,a6,E0,E1,E2,E3,E4,E5,E6,C0,C1,C2,C3,C4,C5,C6⟩ (fun hHeld => ?_)
 clear hK K
 refine tk_ ?_
 refine Sq.step rfl (by rfl) (fun K hK => ?_)
 go_simp
 refine (zxy _ _ B X b [] (failF 0 (decide (chanIx (b : Bk).cs e.Ch < 0)) 6) A1 A2 A3 A4 p1 p2 p3 p4 (busyB b.hs b.os e.Ch) 7 HW_w5.out).mono ?_
 rintro e' w6 ⟨rfl,hh,ho⟩
 have HW_w6:=hd_ (HW_w5.out.trans hh)
 have HE_w6:=hd_ (ho _ _ HXE.out HE_w5.out)
 have HC_w6:=hd_ (ho _ _ HXC.out HC_w5.out)
 have PC_w6:=hd_ (PC_w5.out.only ho PXC.out)
 clear hh ho
 clear a0 a1 a2 a3 a4 a5 a6 a7 af az E0 E1 E2 E3 E4 E5 E6 C0 C1 C2 C3 C4 C5 C6
 obtain ⟨a0,a1,a2,a3,a4,a5,a6,a7,af,az⟩:=HW_w6.out.open_
 obtain ⟨E0,E1,E2,E3,E4,E5,E6,-,-⟩:=box7_ HE_w6.out
 obtain ⟨C0,C1,C2,C3,C4,C5,C6,-,-⟩:=box7_ HC_w6.out
 go_simp
 refine hK.out _ _ ⟨a0,a1,a2,a3,a4,a5,a6,E0,E1,E2,E3,E4,E5,E6,C0,C1,C2,C3,C4,C5,C6⟩ (fun hHeld => ?_)
 clear hK K
 refine tk_ ?_
 refine Sq.done (NoPanic.normal ?_)
 go_wp2_with fail
 refine (zxy _ _ B X b [] (failF (failF 0 (decide (chanIx (b : Bk).cs e.Ch < 0)) 6) (busyB b.hs b.os e.Ch) 7) A1 A2 A3 A4 p1 p2 p3 p4 (decide (cC.Local < e.Fee)) 8 HW_w6.out).mono ?_
 rintro e' w7 ⟨rfl,hh,ho⟩
 have HW_w7:=hd_ (HW_w6.out.trans hh)
 have HE_w7:=hd_ (ho _ _ HXE.out HE_w6.out)
 have HC_w7:=hd_ (ho _ _ HXC.out HC_w6.out)
 have PC_w7:=hd_ (PC_w6.out.only ho PXC.out)
 clear hh ho
 clear a0 a1 a2 a3 a4 a5 a6 a7 af az E0 E1 E2 E3 E4 E5 E6 C0 C1 C2 C3 C4 C5 C6
 obtain ⟨a0,a1,a2,a3,a4,a5,a6,a7,af,az⟩:=HW_w7.out.open_
 obtain ⟨E0,E1,E2,E3,E4,E5,E6,-,-⟩:=box7_ HE_w7.out
 obtain ⟨C0,C1,C2,C3,C4,C5,C6,-,-⟩:=box7_ HC_w7.out
 obtain ⟨cd,hcd⟩ : ∃ v,v = (failF (failF (failF 0 (decide (chanIx (b : Bk).cs e.Ch < 0)) 6) (busyB b.hs b.os e.Ch) 7) (decide (cC.Local < e.Fee)) 8):=⟨_,rfl⟩
 rw [← hcd] at HW_w7
 have HCcd:=hd_ hcd
 clear hcd
 clear a0 a1 a2 a3 a4 a5 a6 a7 af az E0 E1 E2 E3 E4 E5 E6 C0 C1 C2 C3 C4 C5 C6
 obtain ⟨a0,a1,a2,a3,a4,a5,a6,a7,af,az⟩:=HW_w7.out.open_
 obtain ⟨E0,E1,E2,E3,E4,E5,E6,-,-⟩:=box7_ HE_w7.out
 obtain ⟨C0,C1,C2,C3,C4,C5,C6,-,-⟩:=box7_ HC_w7.out
 obtain ⟨hcA,hcB⟩:=close_code (fun h9 => (HFC.out h9).2.2) HCcd.out
 have HCA:=hd_ hcA
 have HCB:=hd_ hcB
 clear hcA hcB
 cases tc : (cd != 0)
 ·
  obtain ⟨hix,h7,h8⟩:=HCB.out (by simpa using tc)
  obtain ⟨i,hi⟩:=Int.eq_ofNat_of_zero_le hix
  have hlt:=zxh hi
  have HIX:=hd_ hi
  have HIX0:=hd_ hix
  obtain ⟨hA,hgo,hcc⟩:=HFC.out hix
  subst hA
  have hcd0 : cd = 0:=by simpa using tc
  obtain ⟨hid,hfil⟩:=cs_found HOK.out hi hlt
  have hbd:=HBD.out.at_ hix
  rw [← hcc] at hbd
  have HH7:=hd_ h7
  have HCC:=hd_ hcc.symm
  clear hi hix hgo hcc h7 hid
  clear a0 a1 a2 a3 a4 a5 a6 a7 af az E0 E1 E2 E3 E4 E5 E6 C0 C1 C2 C3 C4 C5 C6
  obtain ⟨a0,a1,a2,a3,a4,a5,a6,a7,af,az⟩:=HW_w7.out.open_
  obtain ⟨E0,E1,E2,E3,E4,E5,E6,-,-⟩:=box7_ HE_w7.out
  obtain ⟨C0,C1,C2,C3,C4,C5,C6,-,-⟩:=box7_ HC_w7.out
  go_wp2_with fail
  refine zql (fun w' => kqiiissss w' X b.t b.n b.w (some ⟨gC,0,none⟩) b.cs.length p1 A2 b.hs.length p2 A3 b.os.length p3 A4 ([].length) p4 (kqE w' EB e (kqiiiiiii_ w' CB cC.Id cC.Size cC.Local cC.Remote cC.Base cC.Ppm cC.Score))) [yF 0 33,yF 1 34,yF 2 35,yF 3 36,yF 4 37,yF 5 38,yT 6 39,yF 7 5] (by kernel_rfl) (by kernel_rfl) (by kernel_rfl) ⟨a0,a1,a2,a3,a4,a5,a6,E0,E1,E2,E3,E4,E5,E6,C0,C1,C2,C3,C4,C5,C6⟩ (fun hHeld => ?_)
  obtain ⟨w8,hwd⟩ : ∃ wd,w7.drew = wd:=⟨_,rfl⟩
  have HW_w8 : Hid (Wk 136 w w8 B X b [] cd (some ⟨gC,0,none⟩) A2 A3 A4 p1 p2 p3 p4):=hd_ (by rw [← hwd];exact HW_w7.out.drew)
  have HE_w8 : Hid (Hx w8 EB (evC e) 64):=hd_ (by rw [← hwd];exact zqf HE_w7.out)
  have HC_w8 : Hid (Hx w8 CB #[.int .i64 cC.Id,.int .i64 cC.Size,.int .i64 cC.Local,.int .i64 cC.Remote,.int .i64 cC.Base,.int .i64 cC.Ppm,.int .i64 cC.Score] 103):=hd_ (by rw [← hwd];exact zqf HC_w7.out)
  have PC_w8:=hd_ (show ChAt w8 gC oC cC by rw [← hwd];exact ⟨PC_w7.out.c0,PC_w7.out.c1,PC_w7.out.c2,PC_w7.out.c3,PC_w7.out.c4,PC_w7.out.c5,PC_w7.out.c6⟩)
  clear a0 a1 a2 a3 a4 a5 a6 a7 af az E0 E1 E2 E3 E4 E5 E6 C0 C1 C2 C3 C4 C5 C6
  rw [hwd] at hHeld ⊢
  clear hwd
  obtain ⟨a0,a1,a2,a3,a4,a5,a6,a7,af,az⟩:=HW_w8.out.open_
  obtain ⟨E0,E1,E2,E3,E4,E5,E6,-,-⟩:=box7_ HE_w8.out
  obtain ⟨C0,C1,C2,C3,C4,C5,C6,-,-⟩:=box7_ HC_w8.out
  refine tk_ ?_
  refine Sq.step rfl (by rfl) (fun K hK => ?_)
  go_simp
  refine (zjt b.t b.n b.w b.cs b.hs b.os _ _ _ _ _ _ e.Ch _ (by omega) ⟨HW_w8.out.o.c.rd,HW_w8.out.o.h.rd,HW_w8.out.o.o.rd⟩).mono ?_
  rintro e' w9 ⟨rfl,hb⟩
  rw [HIX.out]
  have HW_w9:=hd_ (HW_w8.out.below hb)
  have HE_w9:=hd_ (zqc hb (gz_ HE_w8.out).1 HE_w8.out)
  have HC_w9:=hd_ (zqc hb (gz_ HC_w8.out).1 HC_w8.out)
  have PC_w9:=hd_ (PC_w8.out.below hb)
  clear hb
  clear a0 a1 a2 a3 a4 a5 a6 a7 af az E0 E1 E2 E3 E4 E5 E6 C0 C1 C2 C3 C4 C5 C6
  obtain ⟨a0,a1,a2,a3,a4,a5,a6,a7,af,az⟩:=HW_w9.out.open_
  obtain ⟨E0,E1,E2,E3,E4,E5,E6,-,-⟩:=box7_ HE_w9.out
  obtain ⟨C0,C1,C2,C3,C4,C5,C6,-,-⟩:=box7_ HC_w9.out
  go_simp
  refine hK.out _ _ ⟨a0,a1,a2,a3,a4,a5,a6,E0,E1,E2,E3,E4,E5,E6,C0,C1,C2,C3,C4,C5,C6⟩ (fun hHeld => ?_)
  clear hK K
  refine tk_ ?_
  refine Sq.done (NoPanic.normal ?_)
  have ix0 : (0 : Int) ≤ (i : Int):=by omega
  have ix1 : (i : Int) < (b.cs.length : Int):=by omega
  go_wp2_with fail
  have cp0 : b.cs.length ≤ p1:=by obtain ⟨_,_,e9,_,h9,_⟩:=HW_w9.out.o.c.form;injection e9 with _ _ e9;rw [e9];simpa using h9
  have cp1 : i ≤ p1:=by omega
  have cp2 : i + 1 ≤ p1:=by omega
  have wi : IntKind.i64.wrap ((i : Int) + 1) = (i : Int) + 1:=IntWalk.i64_in _ ⟨by omega,by omega⟩
  obtain ⟨AT,hAT⟩ : ∃ v : Option Addr,tailA (some ⟨gC,0,none⟩) p1 (i + 1) 7 = v:=⟨_,rfl⟩
  have SL:=fun W : World => zvv (P:=Tryz.prog) (t:=35) (size:=7) (n:=b.cs.length) (cap:=p1) (k:=i + 1) (A:=(some ⟨gC,0,none⟩)) (x:=(i : Int) + 1) (by kernel_rfl) zwi (by omega) (by omega) W
  rw [hAT] at SL
  have HRT:=hd_ (HW_w9.out.o.c.rd.from_ (cap:=p1) (by rw [List.length_map];exact cp0) (i + 1))
  rw [hAT] at HRT
  have HRH:=hd_ (HW_w9.out.o.c.rd.take i)
  clear hAT
  refine zqq (fun w' => kqiiissss w' X b.t b.n b.w (some ⟨gC,0,none⟩) b.cs.length p1 A2 b.hs.length p2 A3 b.os.length p3 A4 ([].length) p4 (kqE w' EB e (kqiiiiiii_ w' CB cC.Id cC.Size cC.Local cC.Remote cC.Base cC.Ppm cC.Score))) [yF 0 40,yF 1 41,yF 2 42,yF 3 43,yF 4 44,yF 5 45,yF 6 46,yF 7 47,yF 9 49,yF 10 50,yF 11 51,yF 12 52,yF 13 53,yF 14 54,yF 15 55,yF 16 56,yT 8 48,yT 17 57,yF 18 58,yF 19 59,yF 20 60] rfl (by kernel_rfl) (by kernel_rfl) (by kernel_rfl) (by kernel_rfl) (by kernel_rfl) (by kernel_rfl) ⟨a0,a1,a2,a3,a4,a5,a6,E0,E1,E2,E3,E4,E5,E6,C0,C1,C2,C3,C4,C5,C6⟩ (fun hHeld => ?_)
  obtain ⟨w10,hwd⟩ : ∃ wd,w9.drew = wd:=⟨_,rfl⟩
  have HW_w10 : Hid (Wk 136 w w10 B X b [] cd (some ⟨gC,0,none⟩) A2 A3 A4 p1 p2 p3 p4):=hd_ (by rw [← hwd];exact HW_w9.out.drew)
  have HE_w10 : Hid (Hx w10 EB (evC e) 64):=hd_ (by rw [← hwd];exact zqf HE_w9.out)
  have HC_w10 : Hid (Hx w10 CB #[.int .i64 cC.Id,.int .i64 cC.Size,.int .i64 cC.Local,.int .i64 cC.Remote,.int .i64 cC.Base,.int .i64 cC.Ppm,.int .i64 cC.Score] 103):=hd_ (by rw [← hwd];exact zqf HC_w9.out)
  clear a0 a1 a2 a3 a4 a5 a6 a7 af az E0 E1 E2 E3 E4 E5 E6 C0 C1 C2 C3 C4 C5 C6
  rw [hwd] at hHeld ⊢
  clear hwd
  obtain ⟨a0,a1,a2,a3,a4,a5,a6,a7,af,az⟩:=HW_w10.out.open_
  obtain ⟨E0,E1,E2,E3,E4,E5,E6,-,-⟩:=box7_ HE_w10.out
  obtain ⟨C0,C1,C2,C3,C4,C5,C6,-,-⟩:=box7_ HC_w10.out
  refine tk_ ?_
  skip
  have hT1:=HW_w10.out.o.c.rd.from_ (cap:=p1) (by rw [List.length_map];exact cp0) (i + 1)
  have HRT1 : Hid (Rd w10 w10.heap.size 7 AT ((b.cs.map Chan.cells).drop (i + 1))):=hd_ (by have hx:=SL w10;rw [zvv (P:=Tryz.prog) (t:=35) (size:=7) (k:=i + 1) (by kernel_rfl) zwi (by omega) (by omega)] at hx;injection hx with hx;injection hx with hx;rw [← hx];exact hT1)
  clear hT1
  refine Sq.step rfl (by rfl) (fun K hK => ?_)
  refine zjf (ops:=#[]) (E:=True) rfl (zjj rfl _ _ _ rfl w10.heap.size 103 i0 _ 7 56 Tryz.underlying35 HI0.out HI1.out HI2.out HI3.out rfl (by decide) (none) (0) ([]) (0) (rfl) (by rfl) (Ow.nil_) ((some ⟨gC,0,none⟩)) (p1) ((b.cs.map Chan.cells).take i) (i) (by rw [List.length_take,List.length_map];omega) (by rfl) w10.heap.size (HW_w10.out.o.c.rd.take i) (by intro u hu;exact zju b.cs u (by obtain ⟨r9,h9,h8⟩:=List.mem_flatten.1 hu;exact List.mem_flatten.2 ⟨r9,List.mem_of_mem_take h9,h8⟩)) (by simp only [List.length_take,List.length_map,List.length_nil];omega) (by decide) (Nat.le_refl _) ?_)
  intro A5 cap5 x5 how5 hb5 hgr5
  rw [Nat.zero_add,List.nil_append] at how5
  rw [Nat.zero_add]
  have HW_x5:=hd_ (HW_w10.out.below hb5)
  have HE_x5:=hd_ (zqc hb5 (gz_ HE_w10.out).1 HE_w10.out)
  have HC_x5:=hd_ (zqc hb5 (gz_ HC_w10.out).1 HC_w10.out)
  clear a0 a1 a2 a3 a4 a5 a6 a7 af az E0 E1 E2 E3 E4 E5 E6 C0 C1 C2 C3 C4 C5 C6
  obtain ⟨a0,a1,a2,a3,a4,a5,a6,a7,af,az⟩:=HW_x5.out.open_
  obtain ⟨E0,E1,E2,E3,E4,E5,E6,-,-⟩:=box7_ HE_x5.out
  obtain ⟨C0,C1,C2,C3,C4,C5,C6,-,-⟩:=box7_ HC_x5.out
  go_simp
  refine hK.out _ _ ⟨a0,a1,a2,a3,a4,a5,a6,E0,E1,E2,E3,E4,E5,E6,C0,C1,C2,C3,C4,C5,C6⟩ (fun hHeld => ?_)
  clear hK K
  refine tk_ ?_
  refine Sq.step rfl (by rfl) (fun K hK => ?_)
  refine zjf (ops:=#[]) (E:=True) rfl (zjj rfl _ _ _ rfl w10.heap.size 103 i0 _ 7 56 Tryz.underlying35 HI0.out HI1.out HI2.out HI3.out rfl (by decide) (A5) (cap5) ((b.cs.map Chan.cells).take i) (i) (by rw [List.length_take,List.length_map];omega) (by rfl) (how5) (AT) (p1 - (i + 1)) ((b.cs.map Chan.cells).drop (i + 1)) (b.cs.length - (i + 1)) (by rw [List.length_drop,List.length_map]) (by rfl) x5.heap.size (HRT1.out.below hb5 |>.more hb5.size) (by intro u hu;exact zju b.cs u (by obtain ⟨r9,h9,h8⟩:=List.mem_flatten.1 hu;exact List.mem_flatten.2 ⟨r9,List.mem_of_mem_drop h9,h8⟩)) (by simp only [List.length_take,List.length_drop,List.length_map];omega) (by decide) (hb5.size) ?_)
  intro A6 cap6 x6 how6 hb6 hgr6
  obtain ⟨l9,hl9⟩ : ∃ l9,l9 = b.cs.eraseIdx i:=⟨_,rfl⟩
  have hl8 : i + (b.cs.length - (i + 1)) = l9.length:=by rw [hl9,List.length_eraseIdx];split <;> omega
  rw [hl8] at how6 ⊢
  have HOE : Hid (Ow x6 B 103 7 (.slice A6 l9.length cap6) (l9.map Chan.cells)):=hd_ (by have h9:=how6.more (B':=B) HW_w10.out.ble;rw [zki] at h9;rw [hl9,zhv];rw [hl9] at h9;exact h9)
  have HLE:=hd_ hl9
  clear hl8
  skip
  clear a0 a1 a2 a3 a4 a5 a6 a7 af az E0 E1 E2 E3 E4 E5 E6 C0 C1 C2 C3 C4 C5 C6
  have hb16:=hb5.trans hb6
  have HW_x6:=hd_ (HW_w10.out.below hb16)
  have HE_x6:=hd_ (zqc hb16 (gz_ HE_w10.out).1 HE_w10.out)
  have HC_x6:=hd_ (zqc hb16 (gz_ HC_w10.out).1 HC_w10.out)
  obtain ⟨a0,a1,a2,a3,a4,a5,a6,a7,af,az⟩:=HW_x6.out.open_
  obtain ⟨E0,E1,E2,E3,E4,E5,E6,-,-⟩:=box7_ HE_x6.out
  obtain ⟨C0,C1,C2,C3,C4,C5,C6,-,-⟩:=box7_ HC_x6.out
  clear how5 how6 hgr5 hgr6 hb5 hb6 hb16 hl9
  go_simp
  refine hK.out _ _ ⟨a0,a1,a2,a3,a4,a5,a6,E0,E1,E2,E3,E4,E5,E6,C0,C1,C2,C3,C4,C5,C6⟩ (fun hHeld => ?_)
  clear hK K
  refine tk_ ?_
  refine Sq.done ?_
  intro KK hKK
  go_simp
  refine hKK _ _ (NoPanic.normal ?_)
  refine nm_ ?_
  intro w11 hw
  have HW_w11 : Hid (Wk 136 w w11 B X ⟨b.t,b.n,b.w,l9,b.hs,b.os⟩ [] cd A6 A2 A3 A4 cap6 p2 p3 p4):=hd_ (by rw [hw];exact HW_x6.out.setC (by decide) (by decide) (by decide) (by decide) HOE.out)
  have HE_w11 : Hid (Hx w11 EB (evC e) 64):=hd_ (by rw [hw];exact zqb HXE.out HE_x6.out)
  have HC_w11 : Hid (Hx w11 CB #[.int .i64 cC.Id,.int .i64 cC.Size,.int .i64 cC.Local,.int .i64 cC.Remote,.int .i64 cC.Base,.int .i64 cC.Ppm,.int .i64 cC.Score] 103):=hd_ (by rw [hw];exact zqb HXC.out HC_x6.out)
  clear hw
  clear a0 a1 a2 a3 a4 a5 a6 a7 af az E0 E1 E2 E3 E4 E5 E6 C0 C1 C2 C3 C4 C5 C6
  obtain ⟨a0,a1,a2,a3,a4,a5,a6,a7,af,az⟩:=HW_w11.out.open_
  obtain ⟨E0,E1,E2,E3,E4,E5,E6,-,-⟩:=box7_ HE_w11.out
  obtain ⟨C0,C1,C2,C3,C4,C5,C6,-,-⟩:=box7_ HC_w11.out
  have HHS:=hd_ (HLE.out.trans hfil.symm)
  clear hfil
  have wa : IntKind.i64.wrap (cC.Local - e.Fee) = cC.Local - e.Fee:=IntWalk.i64_in _ ⟨by omega,by omega⟩
  have wb : IntKind.i64.wrap (b.w + (cC.Local - e.Fee)) = b.w + (cC.Local - e.Fee):=IntWalk.i64_in _ ⟨by omega,by omega⟩
  go_wp2_with fail
  refine zqq (fun w' => kqiiissss w' X b.t b.n b.w A6 l9.length cap6 A2 b.hs.length p2 A3 b.os.length p3 A4 ([].length) p4 (kqE w' EB e (kqiiiiiii_ w' CB cC.Id cC.Size cC.Local cC.Remote cC.Base cC.Ppm cC.Score))) [yF 0 61,yF 1 62,yF 2 63,yF 3 64,yF 4 65,yF 5 66,yF 6 67,yF 7 68,yF 8 69,yF 9 70,yF 10 71,yF 11 72,yF 12 73,yF 13 74] rfl (by kernel_rfl) (by kernel_rfl) (by kernel_rfl) (by kernel_rfl) (by kernel_rfl) (by kernel_rfl) ⟨a0,a1,a2,a3,a4,a5,a6,E0,E1,E2,E3,E4,E5,E6,C0,C1,C2,C3,C4,C5,C6⟩ (fun hHeld => ?_)
  obtain ⟨w12,hwd⟩ : ∃ wd,w11.drew = wd:=⟨_,rfl⟩
  have HW_w12 : Hid (Wk 136 w w12 B X ⟨b.t,b.n,b.w,l9,b.hs,b.os⟩ [] cd A6 A2 A3 A4 cap6 p2 p3 p4):=hd_ (by rw [← hwd];exact HW_w11.out.drew)
  have HE_w12 : Hid (Hx w12 EB (evC e) 64):=hd_ (by rw [← hwd];exact zqf HE_w11.out)
  have HC_w12 : Hid (Hx w12 CB #[.int .i64 cC.Id,.int .i64 cC.Size,.int .i64 cC.Local,.int .i64 cC.Remote,.int .i64 cC.Base,.int .i64 cC.Ppm,.int .i64 cC.Score] 103):=hd_ (by rw [← hwd];exact zqf HC_w11.out)
  clear a0 a1 a2 a3 a4 a5 a6 a7 af az E0 E1 E2 E3 E4 E5 E6 C0 C1 C2 C3 C4 C5 C6
  rw [hwd] at hHeld ⊢
  clear hwd
  obtain ⟨a0,a1,a2,a3,a4,a5,a6,a7,af,az⟩:=HW_w12.out.open_
  obtain ⟨E0,E1,E2,E3,E4,E5,E6,-,-⟩:=box7_ HE_w12.out
  obtain ⟨C0,C1,C2,C3,C4,C5,C6,-,-⟩:=box7_ HC_w12.out
  refine tk_ ?_
  refine Sq.done ?_
  intro KK hKK
  go_simp
  refine hKK _ _ (NoPanic.normal ?_)
  refine nm_ ?_
  intro w13 hw
  have HW_w13 : Hid (Wk 136 w w13 B X ⟨b.t,b.n,(b.w + (cC.Local - e.Fee)),l9,b.hs,b.os⟩ [] cd A6 A2 A3 A4 cap6 p2 p3 p4):=hd_ (by rw [hw];exact HW_w12.out.setWallet (by decide) (by decide) (by decide) (by decide) _)
  have HE_w13 : Hid (Hx w13 EB (evC e) 64):=hd_ (by rw [hw];exact zqb HXE.out HE_w12.out)
  have HC_w13 : Hid (Hx w13 CB #[.int .i64 cC.Id,.int .i64 cC.Size,.int .i64 cC.Local,.int .i64 cC.Remote,.int .i64 cC.Base,.int .i64 cC.Ppm,.int .i64 cC.Score] 103):=hd_ (by rw [hw];exact zqb HXC.out HC_w12.out)
  clear hw
  clear a0 a1 a2 a3 a4 a5 a6 a7 af az E0 E1 E2 E3 E4 E5 E6 C0 C1 C2 C3 C4 C5 C6
  obtain ⟨a0,a1,a2,a3,a4,a5,a6,a7,af,az⟩:=HW_w13.out.open_
  obtain ⟨E0,E1,E2,E3,E4,E5,E6,-,-⟩:=box7_ HE_w13.out
  obtain ⟨C0,C1,C2,C3,C4,C5,C6,-,-⟩:=box7_ HC_w13.out
  clear wa wb
  go_wp2_with fail
  refine (zxz _ _ B X ⟨b.t,b.n,(b.w + (cC.Local - e.Fee)),l9,b.hs,b.os⟩ [] cd A6 A2 A3 A4 cap6 p2 p3 p4 1 0 (cC.Local - e.Fee) (by decide) (by (try simp only);omega) (fun y hy => by cases hy) (fun y hy => by cases hy) HW_w13.out).mono ?_
  rintro e' w14 ⟨⟨Cw140,Cw141,Cw142,Cw143,rw140,rw141,rw142,rw143,rfl,hh⟩,ho⟩
  have HE_w14:=hd_ (ho _ _ HXE.out HE_w13.out)
  have HC_w14:=hd_ (ho _ _ HXC.out HC_w13.out)
  obtain ⟨M0,hL9⟩ : ∃ v,lineTo [] 1 0 (cC.Local - e.Fee) = v:=⟨_,rfl⟩
  rw [hL9] at hh
  have HMl0:=hd_ hL9
  have HW_w14:=hd_ (HW_w13.out.trans hh)
  clear hh ho hL9
  clear a0 a1 a2 a3 a4 a5 a6 a7 af az E0 E1 E2 E3 E4 E5 E6 C0 C1 C2 C3 C4 C5 C6
  obtain ⟨a0,a1,a2,a3,a4,a5,a6,a7,af,az⟩:=HW_w14.out.open_
  obtain ⟨E0,E1,E2,E3,E4,E5,E6,-,-⟩:=box7_ HE_w14.out
  obtain ⟨C0,C1,C2,C3,C4,C5,C6,-,-⟩:=box7_ HC_w14.out
  have HLM0 : Hid (M0.length ≤ 1):=hd_ (by rw [← HMl0.out];have h9:=zqr [] (1) (0) ((cC.Local - e.Fee));have h8 : ([] : List Line).length ≤ 0:=Nat.le_refl _;omega)
  have HQ0 : Hid (∀ y ∈ M0,y = ⟨1,0,(cC.Local - e.Fee)⟩):=hd_ (fun y hy => by rw [← HMl0.out] at hy;rcases zxe (fun y hy => by cases hy) hy with h9 | h9;cases h9;exact h9)
  go_wp2_with fail
  refine (zxz _ _ B X ⟨b.t,b.n,(b.w + (cC.Local - e.Fee)),l9,b.hs,b.os⟩ M0 cd Cw140 Cw141 Cw142 Cw143 rw140 rw141 rw142 rw143 5 0 e.Fee (by have:=HLM0.out;omega) (by (try simp only);omega) (fun y hy => by rcases HQ0.out y hy with rfl <;> (simp only;omega)) (fun y hy => by rcases HQ0.out y hy with rfl <;> (simp only;omega)) HW_w14.out).mono ?_
  rintro e' w15 ⟨⟨Cw150,Cw151,Cw152,Cw153,rw150,rw151,rw152,rw153,rfl,hh⟩,ho⟩
  have HE_w15:=hd_ (ho _ _ HXE.out HE_w14.out)
  have HC_w15:=hd_ (ho _ _ HXC.out HC_w14.out)
  obtain ⟨M1,hL9⟩ : ∃ v,lineTo M0 5 0 e.Fee = v:=⟨_,rfl⟩
  rw [hL9] at hh
  have HMl1:=hd_ hL9
  have HW_w15:=hd_ (HW_w14.out.trans hh)
  clear hh ho hL9
  clear a0 a1 a2 a3 a4 a5 a6 a7 af az E0 E1 E2 E3 E4 E5 E6 C0 C1 C2 C3 C4 C5 C6
  obtain ⟨a0,a1,a2,a3,a4,a5,a6,a7,af,az⟩:=HW_w15.out.open_
  obtain ⟨E0,E1,E2,E3,E4,E5,E6,-,-⟩:=box7_ HE_w15.out
  obtain ⟨C0,C1,C2,C3,C4,C5,C6,-,-⟩:=box7_ HC_w15.out
  have HLM1 : Hid (M1.length ≤ 2):=hd_ (by rw [← HMl1.out];have h9:=zqr M0 (5) (0) (e.Fee);have h8 : (M0).length ≤ 1:=HLM0.out;omega)
  have HQ1 : Hid (∀ y ∈ M1,y = ⟨1,0,(cC.Local - e.Fee)⟩ ∨ y = ⟨5,0,e.Fee⟩):=hd_ (fun y hy => by rw [← HMl1.out] at hy;rcases zxe (fun y hy => by rcases HQ0.out y hy with rfl <;> (simp only;omega)) hy with h9 | h9;exact HQ0.out y h9 |> Or.inl;exact Or.inr h9)
  go_wp2_with fail
  refine (zxz _ _ B X ⟨b.t,b.n,(b.w + (cC.Local - e.Fee)),l9,b.hs,b.os⟩ M1 cd Cw150 Cw151 Cw152 Cw153 rw150 rw151 rw152 rw153 6 e.Ch (-cC.Local) (by have:=HLM1.out;omega) (by (try simp only);omega) (fun y hy => by rcases HQ1.out y hy with rfl | rfl <;> (simp only;omega)) (fun y hy => by rcases HQ1.out y hy with rfl | rfl <;> (simp only;omega)) HW_w15.out).mono ?_
  rintro e' w16 ⟨⟨Cw160,Cw161,Cw162,Cw163,rw160,rw161,rw162,rw163,rfl,hh⟩,ho⟩
  have HE_w16:=hd_ (ho _ _ HXE.out HE_w15.out)
  have HC_w16:=hd_ (ho _ _ HXC.out HC_w15.out)
  obtain ⟨M2,hL9⟩ : ∃ v,lineTo M1 6 e.Ch (-cC.Local) = v:=⟨_,rfl⟩
  rw [hL9] at hh
  have HMl2:=hd_ hL9
  have HW_w16:=hd_ (HW_w15.out.trans hh)
  clear hh ho hL9
  clear a0 a1 a2 a3 a4 a5 a6 a7 af az E0 E1 E2 E3 E4 E5 E6 C0 C1 C2 C3 C4 C5 C6
  obtain ⟨a0,a1,a2,a3,a4,a5,a6,a7,af,az⟩:=HW_w16.out.open_
  obtain ⟨E0,E1,E2,E3,E4,E5,E6,-,-⟩:=box7_ HE_w16.out
  obtain ⟨C0,C1,C2,C3,C4,C5,C6,-,-⟩:=box7_ HC_w16.out
  have HLM2 : Hid (M2.length ≤ 3):=hd_ (by rw [← HMl2.out];have h9:=zqr M1 (6) (e.Ch) ((-cC.Local));have h8 : (M1).length ≤ 2:=HLM1.out;omega)
  have HQ2 : Hid (∀ y ∈ M2,y = ⟨1,0,(cC.Local - e.Fee)⟩ ∨ y = ⟨5,0,e.Fee⟩ ∨ y = ⟨6,e.Ch,(-cC.Local)⟩):=hd_ (fun y hy => by rw [← HMl2.out] at hy;rcases zxe (fun y hy => by rcases HQ1.out y hy with rfl | rfl <;> (simp only;omega)) hy with h9 | h9;exact (HQ1.out y h9).elim Or.inl (fun h8 => Or.inr (Or.inl h8));exact Or.inr (Or.inr h9))
  go_wp2_with fail
  go_end0
  rw [zmm HIX0.out HH7.out HCC.out h8]
  have HZ : nz [⟨1,0,(cC.Local - e.Fee)⟩,⟨5,0,e.Fee⟩,⟨6,e.Ch,(-cC.Local)⟩] = M2:=by rw [← HMl2.out,← HMl1.out,← HMl0.out];exact (line3 (by decide) (by decide)).symm
  rw [show b.w + cC.Local - e.Fee = b.w + (cC.Local - e.Fee) by omega,HZ,← HHS.out]
  rw [hcd0] at HW_w16
  exact Acts.ok ⟨_,_,_,_,_,_,_,_,rfl,HW_w16.out⟩
 ·
  have hne : cd ≠ 0:=by simpa using tc
  go_wp2_with fail
  go_end0
  rw [HCA.out hne]
  exact Acts.no hne ⟨_,_,_,_,_,_,_,_,rfl,HW_w7.out⟩
end Go.Proofs.YtdbmkfmenfcbiaaGreat
