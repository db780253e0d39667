/- A channel closes: the program's walk. -/
import Derived.Test.YtdbmkfmenfcbiaaGreatRows
import Derived.Test.YtdbmkfmenfcbiaaGreatNISe
import Derived.Test.YtdbmkfmenfcbiaaGreatNSClose
import Derived.Test.YtdbmkfmenfcbiaaGreatNM2
namespace Go.Proofs.YtdbmkfmenfcbiaaGreat
open Go.RowKit Go.Deep
theorem cs_found {b : Bk} (hb : b.ok = true) {ch : Int} {i : Nat} (h : chanIx b.cs ch = (i : Int)) (hl : i < b.cs.length) : b.cs[i].Id = ch∧b.cs.filter (notCh ch) = b.cs.eraseIdx i:=by
 have hp:=ids_rise hb
 rw [List.pairwise_iff_getElem] at hp
 have hid : b.cs[i].Id = ch:=by
  unfold chanIx at h
  split at h
  ·
   rename_i j hj
   obtain ⟨_,h2,_⟩:=List.findIdx?_eq_some_iff_getElem.1 hj
   have : j = i:=by omega
   subst this
   simpa [notId] using h2
  omega
 refine ⟨hid,?_⟩
 have hA : ∀ x ∈ b.cs.take i,notCh ch x = true:=by
  intro x hx
  obtain ⟨j,hj,rfl⟩:=List.mem_take_iff_getElem.1 hx
  have:=hp j i (by omega) hl (by omega)
  unfold notCh
  rw [bne_iff_ne]
  omega
 have hB : ∀ x ∈ b.cs.drop (i + 1),notCh ch x = true:=by
  intro x hx
  obtain ⟨j,hj,rfl⟩:=List.mem_iff_getElem.1 hx
  rw [List.length_drop] at hj
  rw [List.getElem_drop]
  have:=hp i (i + 1 + j) hl (by omega) (by omega)
  unfold notCh
  rw [bne_iff_ne]
  omega
 rw [List.eraseIdx_eq_take_drop_succ]
 have e1 : b.cs.filter (notCh ch) = (b.cs.take i ++ b.cs[i] :: b.cs.drop (i + 1)).filter (notCh ch):=by rw [← zwh hl]
 rw [e1,List.filter_append,List.filter_cons_of_neg (by simp [notCh,hid]),List.filter_eq_self.2 hA,List.filter_eq_self.2 hB]
theorem close_code {b : Bk} {e : Event} {c : Chan} {cd : Int} (hc : 0 ≤ chanIx b.cs e.Ch → c = chanOf b.cs e.Ch) (h : cd = failF (failF (failF 0 (decide (chanIx b.cs e.Ch < 0)) 6) (busyB b.hs b.os e.Ch) 7) (decide (c.Local < e.Fee)) 8) :
  (cd ≠ 0 → closeB b e = bad cd)∧(cd = 0 → 0 ≤ chanIx b.cs e.Ch∧busyB b.hs b.os e.Ch = false∧e.Fee ≤ c.Local):=by
 subst h
 by_cases h6 : chanIx b.cs e.Ch < 0
 ·
  rw [decide_eq_true h6,closeB_6 h6,zmy,if_pos rfl,show failF 6 (busyB b.hs b.os e.Ch) 7 = 6 from zhy (by decide),show failF 6 (decide (c.Local < e.Fee)) 8 = 6 from zhy (by decide)]
  exact ⟨fun _ => rfl,fun h9 => by cases h9⟩
 have hc':=(hc (by omega)).symm
 rw [decide_eq_false h6,zmy,if_neg (by decide),zmy]
 cases h7 : busyB b.hs b.os e.Ch
 ·
  rw [if_neg (by decide),zmy]
  by_cases h8 : c.Local < e.Fee
  ·
   rw [decide_eq_true h8,if_pos rfl,closeB_8 (by omega) h7 hc' h8]
   exact ⟨fun _ => rfl,fun h9 => by cases h9⟩
  rw [decide_eq_false h8,if_neg (by decide)]
  exact ⟨fun h9 => absurd rfl h9,fun _ => ⟨by omega,rfl,by omega⟩⟩
 rw [if_pos rfl,zhy (by decide),closeB_7 (by omega) h7]
 exact ⟨fun _ => rfl,fun h9 => by cases h9⟩
set_option maxRecDepth 100000 in
set_option maxHeartbeats 4000000 in
theorem i_shut (w0 w : World) (B X : Nat) (b : Bk) (A1 A2 A3 A4 : Option Addr) (p1 p2 p3 p4 : Nat) (e : Event) (hok : b.ok = true) (hf : amtB e.Fee = true) (h : Wk 136 w0 w B X b [] 0 A1 A2 A3 A4 p1 p2 p3 p4) :
  Calls Tryz.prog 90 #[.pointer (some ⟨X,0,none⟩),.agg #[.int .i64 e.Kind,.int .i64 e.Key,.int .i64 e.Ch,.int .i64 e.To,.int .i64 e.Amt,.int .i64 e.Fee,.bool e.Yes]] w (Acts 136 w B X (closeB b e)):=by
 have H:=hd_ h.here
 clear h
 have hF:=zxw hok
 have hcl:=hF.cl
 have h60:=hF.small.hl
 have h20:=hF.small.ol
 obtain ⟨bw1,bw2⟩:=hF.w
 obtain ⟨fe1,fe2⟩:=zja.1 hf
 have HOK:=hd_ hok
 have HF0:=hd_ hF
 have HBD:=hd_ (zjd hF)
 clear hF hok hf
 obtain ⟨i0,hi,hz0,hz1,hz2⟩:=info_parts zjx
 have HI0:=hd_ hi
 have HI1:=hd_ hz0
 have HI2:=hd_ hz1
 have HI3:=hd_ hz2
 clear hi hz0 hz1 hz2
 obtain ⟨ja,af,az⟩:=opc_ H.out.open_
 go_enter Tryz.func90,Tryz.ntmps90
 go_wp2_with fail
 have HW_w:=H
 clear ja af az
 refine nm_ ?_
 intro w1 hw
 obtain ⟨EB,hB9⟩ : ∃ v9,v9 = w.heap.size:=⟨_,rfl⟩
 try rw [← hB9]
 have HW1:=wka_ hw HW_w
 have HE1 : Hid (Hx w1 EB (evC e) 64):=hd_ (by rw [hw,hB9];exact zqi rfl)
 have HXE : Hid (EB ≠ X):=hd_ (by have:=HW_w.out.lt;omega)
 clear hw hB9
 obtain ⟨ja,af,az⟩:=opc_ HW1.out.open_
 have jE:=bd7_ HE1
 refine (i_ch _ _ B X b [] 0 A1 A2 A3 A4 p1 p2 p3 p4 e.Ch (by (try simp only);omega) HW1).mono ?_
 rintro e' w2 ⟨gC,oC,cC,rfl,hat,hgx,hh,ho,hf⟩
 have PXC:=hd_ hgx
 have HFC:=hd_ hf
 have HW2:=hd_ (HW1.out.trans hh)
 have HE2:=hd_ (ho _ _ HXE HE1)
 have PC_w2:=hd_ hat
 clear hat hgx hh ho hf
 clear ja af az jE
 obtain ⟨ja,af,az⟩:=opc_ HW2.out.open_
 have jE:=bd7_ HE2
 have pc0:=PC_w2.out.c0
 have pc1:=PC_w2.out.c1
 have pc2:=PC_w2.out.c2
 have pc3:=PC_w2.out.c3
 have pc4:=PC_w2.out.c4
 have pc5:=PC_w2.out.c5
 have pc6:=PC_w2.out.c6
 go_upto_region 2 with fail
 clear pc0 pc1 pc2 pc3 pc4 pc5 pc6
 refine nm_ ?_
 intro w3 hw
 obtain ⟨CB,hB9⟩ : ∃ v9,v9 = w2.heap.size:=⟨_,rfl⟩
 try rw [← hB9]
 have HW3:=wka_ hw HW2
 have HE3:=ha_ hw HE2
 have PC_w3:=hd_ (show ChAt w3 gC oC cC by rw [hw];exact PC_w2.out.below ((Below.refl _ _).alloc (Nat.le_refl _) _))
 clear ja af az jE
 have HC3 : Hid (Hx w3 CB (qaiiiiiii cC.Id cC.Size cC.Local cC.Remote cC.Base cC.Ppm cC.Score) 103):=hd_ (by rw [hw,hB9];exact zqi rfl)
 have HXC : Hid (CB ≠ X):=hd_ (by have:=HW2.out.lt;omega)
 clear hw hB9
 obtain ⟨ja,af,az⟩:=opc_ HW3.out.open_
 have jE:=bd7_ HE3
 have C:=bd7_ HC3
 refine zql (fun w' => kqiiissss w' X b.t b.n b.w A1 b.cs.length p1 A2 b.hs.length p2 A3 b.os.length p3 A4 ([].length) p4 (kqE w' EB e (kqiiiiiii_ w' CB cC.Id cC.Size cC.Local cC.Remote cC.Base cC.Ppm cC.Score))) [yF 0 12,yF 1 13,yF 2 14,yF 3 15,yF 4 16,yF 5 17,yF 6 18,yT 7 19,yT 8 20] (by kernel_rfl) (by kernel_rfl) (by kernel_rfl) (q78_ ja (q7_ jE C)) (fun hH => ?_)
 obtain ⟨w4,hwd⟩ : ∃ wd,w3.drew = wd:=⟨_,rfl⟩
 have HW4:=wkd_ hwd HW3
 have HE4:=hr_ hwd HE3
 have HC4:=hr_ hwd HC3
 have PC_w4:=hd_ (show ChAt w4 gC oC cC by rw [← hwd];exact ⟨PC_w3.out.c0,PC_w3.out.c1,PC_w3.out.c2,PC_w3.out.c3,PC_w3.out.c4,PC_w3.out.c5,PC_w3.out.c6⟩)
 clear ja af az jE C
 rw [hwd] at hH ⊢
 clear hwd
 obtain ⟨ja,af,az⟩:=opc_ HW4.out.open_
 have jE:=bd7_ HE4
 have C:=bd7_ HC4
 refine tk_ ?_
 refine ss_ (fun K hK => ?_)
 go_simp
 refine (i_used b.t b.n b.w b.cs b.hs b.os _ _ _ _ _ _ e.Ch _ (by omega) (by omega) ⟨HW4.out.o.c.rd,HW4.out.o.h.rd,HW4.out.o.o.rd⟩).mono ?_
 rintro e' w5 ⟨rfl,hb⟩
 have HW5:=hd_ (HW4.out.below hb)
 have HE5:=hb_ hb HE4
 have HC5:=hb_ hb HC4
 have PC_w5:=hd_ (PC_w4.out.below hb)
 clear hb
 go_simp
 refine hK.out _ _ (q78_ (opc_ HW5.out.open_).1 (q7_ (bd7_ HE5) (bd7_ HC5))) (fun hH => ?_)
 clear hK K
 refine tk_ ?_
 refine ss_ (fun K hK => ?_)
 go_simp
 refine (zjf _ _ B X b [] (failF 0 (decide (chanIx (b : Bk).cs e.Ch < 0)) 6) A1 A2 A3 A4 p1 p2 p3 p4 (busyB b.hs b.os e.Ch) 7 HW5).mono ?_
 rintro e' w6 ⟨rfl,hh,ho⟩
 have HW6:=hd_ (HW5.out.trans hh)
 have HE6:=hd_ (ho _ _ HXE HE5)
 have HC6:=hd_ (ho _ _ HXC HC5)
 have PC_w6:=hd_ (PC_w5.out.only ho PXC.out)
 clear hh ho
 clear ja af az jE C
 obtain ⟨ja,af,az⟩:=opc_ HW6.out.open_
 have jE:=bd7_ HE6
 have C:=bd7_ HC6
 go_simp
 refine hK.out _ _ (q78_ ja (q7_ jE C)) (fun hH => ?_)
 clear hK K
 refine tk_ ?_
 refine Sq.done (NoPanic.normal ?_)
 go_wp2_with fail
 refine (zjf _ _ B X b [] (failF (failF 0 (decide (chanIx (b : Bk).cs e.Ch < 0)) 6) (busyB b.hs b.os e.Ch) 7) A1 A2 A3 A4 p1 p2 p3 p4 (decide (cC.Local < e.Fee)) 8 HW6).mono ?_
 rintro e' w7 ⟨rfl,hh,ho⟩
 have HW7:=hd_ (HW6.out.trans hh)
 have HE7:=hd_ (ho _ _ HXE HE6)
 have HC7:=hd_ (ho _ _ HXC HC6)
 have PC_w7:=hd_ (PC_w6.out.only ho PXC.out)
 clear hh ho
 clear ja af az jE C
 obtain ⟨ja,af,az⟩:=opc_ HW7.out.open_
 have jE:=bd7_ HE7
 have C:=bd7_ HC7
 obtain ⟨cd,hcd⟩ : ∃ v,v = (failF (failF (failF 0 (decide (chanIx (b : Bk).cs e.Ch < 0)) 6) (busyB b.hs b.os e.Ch) 7) (decide (cC.Local < e.Fee)) 8):=⟨_,rfl⟩
 rw [← hcd] at HW7
 have HCcd:=hd_ hcd
 clear hcd
 clear ja af az jE C
 obtain ⟨ja,af,az⟩:=opc_ HW7.out.open_
 have jE:=bd7_ HE7
 have C:=bd7_ HC7
 obtain ⟨hcA,hcB⟩:=close_code (fun h9 => (HFC.out h9).2.2) HCcd
 have HCA:=hd_ hcA
 have HCB:=hd_ hcB
 clear hcA hcB
 cases tc : (cd != 0)
 rotate_left
 ·
  have hne : cd ≠ 0:=by simpa using tc
  go_wp2_with fail
  go_end0
  rw [HCA.out hne]
  exact Acts.no hne ⟨_,_,_,_,_,_,_,_,rfl,HW7.out⟩
 obtain ⟨hix,h7,h8⟩:=HCB.out (by simpa using tc)
 obtain ⟨i,hi⟩:=Int.eq_ofNat_of_zero_le hix
 have hlt:=zxm hi
 have HIX:=hd_ hi
 have HIX0:=hd_ hix
 obtain ⟨hA,hgo,hcc⟩:=HFC.out hix
 subst hA
 have hcd0 : cd = 0:=by simpa using tc
 obtain ⟨hid,hfil⟩:=cs_found HOK hi hlt
 have hbd:=HBD.out.at_ hix
 rw [← hcc] at hbd
 have HH7:=hd_ h7
 have HCC:=hd_ hcc.symm
 clear hi hix hgo hcc h7 hid
 clear ja af az jE C
 obtain ⟨ja,af,az⟩:=opc_ HW7.out.open_
 have jE:=bd7_ HE7
 have C:=bd7_ HC7
 go_wp2_with fail
 refine zql (fun w' => kqiiissss w' X b.t b.n b.w (some ⟨gC,0,none⟩) b.cs.length p1 A2 b.hs.length p2 A3 b.os.length p3 A4 ([].length) p4 (kqE w' EB e (kqiiiiiii_ w' CB cC.Id cC.Size cC.Local cC.Remote cC.Base cC.Ppm cC.Score))) [yF 0 33,yF 1 34,yF 2 35,yF 3 36,yF 4 37,yF 5 38,yT 6 39,yF 7 5] (by kernel_rfl) (by kernel_rfl) (by kernel_rfl) (q78_ ja (q7_ jE C)) (fun hH => ?_)
 obtain ⟨w8,hwd⟩ : ∃ wd,w7.drew = wd:=⟨_,rfl⟩
 have HW8:=wkd_ hwd HW7
 have HE8:=hr_ hwd HE7
 have HC8:=hr_ hwd HC7
 have PC_w8:=hd_ (show ChAt w8 gC oC cC by rw [← hwd];exact ⟨PC_w7.out.c0,PC_w7.out.c1,PC_w7.out.c2,PC_w7.out.c3,PC_w7.out.c4,PC_w7.out.c5,PC_w7.out.c6⟩)
 clear ja af az jE C
 rw [hwd] at hH ⊢
 clear hwd
 obtain ⟨ja,af,az⟩:=opc_ HW8.out.open_
 have jE:=bd7_ HE8
 have C:=bd7_ HC8
 refine tk_ ?_
 refine ss_ (fun K hK => ?_)
 go_simp
 refine (zkc b.t b.n b.w b.cs b.hs b.os _ _ _ _ _ _ e.Ch _ (by omega) ⟨HW8.out.o.c.rd,HW8.out.o.h.rd,HW8.out.o.o.rd⟩).mono ?_
 rintro e' w9 ⟨rfl,hb⟩
 rw [HIX.out]
 have HW9:=hd_ (HW8.out.below hb)
 have HE9:=hb_ hb HE8
 have HC9:=hb_ hb HC8
 have PC_w9:=hd_ (PC_w8.out.below hb)
 clear hb
 clear ja af az jE C
 obtain ⟨ja,af,az⟩:=opc_ HW9.out.open_
 have jE:=bd7_ HE9
 have C:=bd7_ HC9
 go_simp
 refine hK.out _ _ (q78_ ja (q7_ jE C)) (fun hH => ?_)
 clear hK K
 refine tk_ ?_
 refine Sq.done (NoPanic.normal ?_)
 have ix0 : (0 : Int) ≤ (i : Int):=by omega
 have ix1 : (i : Int) < (b.cs.length : Int):=by omega
 go_wp2_with fail
 have cp0 : b.cs.length ≤ p1:=by obtain ⟨_,_,e9,_,h9,_⟩:=HW9.out.o.c.form;injection e9 with _ _ e9;rw [e9];simpa using h9
 have cp1 : i ≤ p1:=by omega
 have cp2 : i + 1 ≤ p1:=by omega
 have wi : IntKind.i64.wrap ((i : Int) + 1) = (i : Int) + 1:=IntWalk.i64_in _ ⟨by omega,by omega⟩
 obtain ⟨AT,hAT⟩ : ∃ v : Option Addr,tailA (some ⟨gC,0,none⟩) p1 (i + 1) 7 = v:=⟨_,rfl⟩
 have SL:=fun W : World => zws (P:=Tryz.prog) (t:=35) (size:=7) (n:=b.cs.length) (cap:=p1) (k:=i + 1) (A:=(some ⟨gC,0,none⟩)) (x:=(i : Int) + 1) (by kernel_rfl) zhi (by omega) (by omega) W
 rw [hAT] at SL
 have HRT:=hd_ (HW9.out.o.c.rd.from_ (cap:=p1) (by rw [List.length_map];exact cp0) (i + 1))
 rw [hAT] at HRT
 have HRH:=hd_ (HW9.out.o.c.rd.take i)
 clear hAT
 refine zqs (fun w' => kqiiissss w' X b.t b.n b.w (some ⟨gC,0,none⟩) b.cs.length p1 A2 b.hs.length p2 A3 b.os.length p3 A4 ([].length) p4 (kqE w' EB e (kqiiiiiii_ w' CB cC.Id cC.Size cC.Local cC.Remote cC.Base cC.Ppm cC.Score))) [yF 0 40,yF 1 41,yF 2 42,yF 3 43,yF 4 44,yF 5 45,yF 6 46,yF 7 47,yF 9 49,yF 10 50,yF 11 51,yF 12 52,yF 13 53,yF 14 54,yF 15 55,yF 16 56,yT 8 48,yT 17 57,yF 18 58,yF 19 59,yF 20 60] rfl (by kernel_rfl) (by kernel_rfl) (by kernel_rfl) (by kernel_rfl) (by kernel_rfl) (by kernel_rfl) (q78_ ja (q7_ jE C)) (fun hH => ?_)
 obtain ⟨w10,hwd⟩ : ∃ wd,w9.drew = wd:=⟨_,rfl⟩
 have HW10:=wkd_ hwd HW9
 have HE10:=hr_ hwd HE9
 have HC10:=hr_ hwd HC9
 clear ja af az jE C
 rw [hwd] at hH ⊢
 clear hwd
 obtain ⟨ja,af,az⟩:=opc_ HW10.out.open_
 have jE:=bd7_ HE10
 have C:=bd7_ HC10
 refine tk_ ?_
 skip
 have hT1:=HW10.out.o.c.rd.from_ (cap:=p1) (by rw [List.length_map];exact cp0) (i + 1)
 have HRT1 : Hid (Rd w10 w10.heap.size 7 AT ((b.cs.map Chan.cells).drop (i + 1))):=hd_ (by have hx:=SL w10;rw [zws (P:=Tryz.prog) (t:=35) (size:=7) (k:=i + 1) (by kernel_rfl) zhi (by omega) (by omega)] at hx;injection hx with hx;injection hx with hx;rw [← hx];exact hT1)
 clear hT1
 refine ss_ (fun K hK => ?_)
 refine zje (ops:=#[]) (E:=True) rfl (zji rfl _ _ _ rfl w10.heap.size 103 i0 _ 7 56 Tryz.underlying35 HI0 HI1 HI2 HI3 rfl (by decide) (none) (0) ([]) (0) (rfl) (by rfl) (Ow.nil_) ((some ⟨gC,0,none⟩)) (p1) ((b.cs.map Chan.cells).take i) (i) (by rw [List.length_take,List.length_map];omega) (by rfl) w10.heap.size (HW10.out.o.c.rd.take i) (by intro u hu;exact zkd b.cs u (by obtain ⟨r9,h9,h8⟩:=List.mem_flatten.1 hu;exact List.mem_flatten.2 ⟨r9,List.mem_of_mem_take h9,h8⟩)) (by simp only [List.length_take,List.length_map,List.length_nil];omega) (by decide) (Nat.le_refl _) ?_)
 intro A5 cap5 x5 how5 hb5 hgr5
 rw [Nat.zero_add,List.nil_append] at how5
 rw [Nat.zero_add]
 have HW_x5:=hd_ (HW10.out.below hb5)
 have HE_x5:=hd_ (zqr hb5 (gz_ HE10).1 HE10)
 have HC_x5:=hd_ (zqr hb5 (gz_ HC10).1 HC10)
 clear ja af az jE C
 obtain ⟨ja,af,az⟩:=opc_ HW_x5.out.open_
 have jE:=bd7_ HE_x5
 have C:=bd7_ HC_x5
 go_simp
 refine hK.out _ _ (q78_ ja (q7_ jE C)) (fun hH => ?_)
 clear hK K
 refine tk_ ?_
 refine ss_ (fun K hK => ?_)
 refine zje (ops:=#[]) (E:=True) rfl (zji rfl _ _ _ rfl w10.heap.size 103 i0 _ 7 56 Tryz.underlying35 HI0 HI1 HI2 HI3 rfl (by decide) (A5) (cap5) ((b.cs.map Chan.cells).take i) (i) (by rw [List.length_take,List.length_map];omega) (by rfl) (how5) (AT) (p1 - (i + 1)) ((b.cs.map Chan.cells).drop (i + 1)) (b.cs.length - (i + 1)) (by rw [List.length_drop,List.length_map]) (by rfl) x5.heap.size (HRT1.out.below hb5 |>.more hb5.size) (by intro u hu;exact zkd b.cs u (by obtain ⟨r9,h9,h8⟩:=List.mem_flatten.1 hu;exact List.mem_flatten.2 ⟨r9,List.mem_of_mem_drop h9,h8⟩)) (by simp only [List.length_take,List.length_drop,List.length_map];omega) (by decide) (hb5.size) ?_)
 intro A6 cap6 x6 how6 hb6 hgr6
 obtain ⟨l9,hl9⟩ : ∃ l9,l9 = b.cs.eraseIdx i:=⟨_,rfl⟩
 have hl8 : i + (b.cs.length - (i + 1)) = l9.length:=by rw [hl9,List.length_eraseIdx];split <;> omega
 rw [hl8] at how6 ⊢
 have HOE : Hid (Ow x6 B 103 7 (.slice A6 l9.length cap6) (l9.map Chan.cells)):=hd_ (by have h9:=how6.more (B':=B) HW10.out.ble;rw [zkt] at h9;rw [hl9,zyz];rw [hl9] at h9;exact h9)
 have HLE:=hd_ hl9
 clear hl8
 skip
 clear ja af az jE C
 have hb16:=hb5.trans hb6
 have HW_x6:=hd_ (HW10.out.below hb16)
 have HE_x6:=hd_ (zqr hb16 (gz_ HE10).1 HE10)
 have HC_x6:=hd_ (zqr hb16 (gz_ HC10).1 HC10)
 obtain ⟨ja,af,az⟩:=opc_ HW_x6.out.open_
 have jE:=bd7_ HE_x6
 have C:=bd7_ HC_x6
 clear how5 how6 hgr5 hgr6 hb5 hb6 hb16 hl9
 go_simp
 refine hK.out _ _ (q78_ ja (q7_ jE C)) (fun hH => ?_)
 clear hK K
 refine tk_ ?_
 refine Sq.done ?_
 intro KK hKK
 go_simp
 refine hKK _ _ (NoPanic.normal ?_)
 refine nm_ ?_
 intro w11 hw
 have HW11 : Hid (Wk 136 w w11 B X ⟨b.t,b.n,b.w,l9,b.hs,b.os⟩ [] cd A6 A2 A3 A4 cap6 p2 p3 p4):=hd_ (by rw [hw];exact HW_x6.out.setC (by decide) (by decide) (by decide) (by decide) HOE)
 have HE11:=hf_ hw HXE HE_x6
 have HC11:=hf_ hw HXC HC_x6
 clear hw
 clear ja af az jE C
 obtain ⟨ja,af,az⟩:=opc_ HW11.out.open_
 have jE:=bd7_ HE11
 have C:=bd7_ HC11
 have HHS:=hd_ (HLE.out.trans hfil.symm)
 clear hfil
 have wa : IntKind.i64.wrap (cC.Local - e.Fee) = cC.Local - e.Fee:=IntWalk.i64_in _ ⟨by omega,by omega⟩
 have wb : IntKind.i64.wrap (b.w + (cC.Local - e.Fee)) = b.w + (cC.Local - e.Fee):=IntWalk.i64_in _ ⟨by omega,by omega⟩
 go_wp2_with fail
 refine zqs (fun w' => kqiiissss w' X b.t b.n b.w A6 l9.length cap6 A2 b.hs.length p2 A3 b.os.length p3 A4 ([].length) p4 (kqE w' EB e (kqiiiiiii_ w' CB cC.Id cC.Size cC.Local cC.Remote cC.Base cC.Ppm cC.Score))) [yF 0 61,yF 1 62,yF 2 63,yF 3 64,yF 4 65,yF 5 66,yF 6 67,yF 7 68,yF 8 69,yF 9 70,yF 10 71,yF 11 72,yF 12 73,yF 13 74] rfl (by kernel_rfl) (by kernel_rfl) (by kernel_rfl) (by kernel_rfl) (by kernel_rfl) (by kernel_rfl) (q78_ ja (q7_ jE C)) (fun hH => ?_)
 obtain ⟨w12,hwd⟩ : ∃ wd,w11.drew = wd:=⟨_,rfl⟩
 have HW12:=wkd_ hwd HW11
 have HE12:=hr_ hwd HE11
 have HC12:=hr_ hwd HC11
 clear ja af az jE C
 rw [hwd] at hH ⊢
 clear hwd
 obtain ⟨ja,af,az⟩:=opc_ HW12.out.open_
 have jE:=bd7_ HE12
 have C:=bd7_ HC12
 refine tk_ ?_
 refine Sq.done ?_
 intro KK hKK
 go_simp
 refine hKK _ _ (NoPanic.normal ?_)
 refine nm_ ?_
 intro w13 hw
 have HW13 : Hid (Wk 136 w w13 B X ⟨b.t,b.n,(b.w + (cC.Local - e.Fee)),l9,b.hs,b.os⟩ [] cd A6 A2 A3 A4 cap6 p2 p3 p4):=hd_ (by rw [hw];exact HW12.out.setWallet (by decide) (by decide) (by decide) (by decide) _)
 have HE13:=hf_ hw HXE HE12
 have HC13:=hf_ hw HXC HC12
 clear hw
 clear ja af az jE C
 obtain ⟨ja,af,az⟩:=opc_ HW13.out.open_
 have jE:=bd7_ HE13
 have C:=bd7_ HC13
 clear wa wb
 go_wp2_with fail
 refine (zjg _ _ B X ⟨b.t,b.n,(b.w + (cC.Local - e.Fee)),l9,b.hs,b.os⟩ [] cd A6 A2 A3 A4 cap6 p2 p3 p4 1 0 (cC.Local - e.Fee) (by decide) (by (try simp only);omega) (fun y hy => by cases hy) (fun y hy => by cases hy) HW13).mono ?_
 rintro e' w14 ⟨⟨Cw140,Cw141,Cw142,Cw143,rw140,rw141,rw142,rw143,rfl,hh⟩,ho⟩
 have HE14:=hd_ (ho _ _ HXE HE13)
 have HC14:=hd_ (ho _ _ HXC HC13)
 obtain ⟨M0,hL9⟩ : ∃ v,lineTo [] 1 0 (cC.Local - e.Fee) = v:=⟨_,rfl⟩
 rw [hL9] at hh
 have HMl0:=hd_ hL9
 have HW14:=hd_ (HW13.out.trans hh)
 clear hh ho hL9
 clear ja af az jE C
 obtain ⟨ja,af,az⟩:=opc_ HW14.out.open_
 have jE:=bd7_ HE14
 have C:=bd7_ HC14
 have HLM0 : Hid (M0.length ≤ 1):=hd_ (by rw [← HMl0.out];have h9:=zqu [] (1) (0) ((cC.Local - e.Fee));have h8 : ([] : List Line).length ≤ 0:=Nat.le_refl _;omega)
 have HQ0 : Hid (∀ y ∈ M0,y = ⟨1,0,(cC.Local - e.Fee)⟩):=hd_ (fun y hy => by rw [← HMl0.out] at hy;rcases zxk (fun y hy => by cases hy) hy with h9 | h9;cases h9;exact h9)
 go_wp2_with fail
 refine (zjg _ _ B X ⟨b.t,b.n,(b.w + (cC.Local - e.Fee)),l9,b.hs,b.os⟩ M0 cd Cw140 Cw141 Cw142 Cw143 rw140 rw141 rw142 rw143 5 0 e.Fee (by have:=HLM0.out;omega) (by (try simp only);omega) (fun y hy => by rcases HQ0 y hy with rfl <;> (simp only;omega)) (fun y hy => by rcases HQ0 y hy with rfl <;> (simp only;omega)) HW14).mono ?_
 rintro e' w15 ⟨⟨Cw150,Cw151,Cw152,Cw153,rw150,rw151,rw152,rw153,rfl,hh⟩,ho⟩
 have HE15:=hd_ (ho _ _ HXE HE14)
 have HC15:=hd_ (ho _ _ HXC HC14)
 obtain ⟨M1,hL9⟩ : ∃ v,lineTo M0 5 0 e.Fee = v:=⟨_,rfl⟩
 rw [hL9] at hh
 have HMl1:=hd_ hL9
 have HW15:=hd_ (HW14.out.trans hh)
 clear hh ho hL9
 clear ja af az jE C
 obtain ⟨ja,af,az⟩:=opc_ HW15.out.open_
 have jE:=bd7_ HE15
 have C:=bd7_ HC15
 have HLM1 : Hid (M1.length ≤ 2):=hd_ (by rw [← HMl1.out];have h9:=zqu M0 (5) (0) (e.Fee);have h8 : (M0).length ≤ 1:=HLM0.out;omega)
 have HQ1 : Hid (∀ y ∈ M1,y = ⟨1,0,(cC.Local - e.Fee)⟩ ∨ y = ⟨5,0,e.Fee⟩):=hd_ (fun y hy => by rw [← HMl1.out] at hy;rcases zxk (fun y hy => by rcases HQ0 y hy with rfl <;> (simp only;omega)) hy with h9 | h9;exact HQ0 y h9 |> Or.inl;exact Or.inr h9)
 go_wp2_with fail
 refine (zjg _ _ B X ⟨b.t,b.n,(b.w + (cC.Local - e.Fee)),l9,b.hs,b.os⟩ M1 cd Cw150 Cw151 Cw152 Cw153 rw150 rw151 rw152 rw153 6 e.Ch (-cC.Local) (by have:=HLM1.out;omega) (by (try simp only);omega) (fun y hy => by rcases HQ1 y hy with rfl | rfl <;> (simp only;omega)) (fun y hy => by rcases HQ1 y hy with rfl | rfl <;> (simp only;omega)) HW15).mono ?_
 rintro e' w16 ⟨⟨Cw160,Cw161,Cw162,Cw163,rw160,rw161,rw162,rw163,rfl,hh⟩,ho⟩
 have HE16:=hd_ (ho _ _ HXE HE15)
 have HC16:=hd_ (ho _ _ HXC HC15)
 obtain ⟨M2,hL9⟩ : ∃ v,lineTo M1 6 e.Ch (-cC.Local) = v:=⟨_,rfl⟩
 rw [hL9] at hh
 have HMl2:=hd_ hL9
 have HW16:=hd_ (HW15.out.trans hh)
 clear hh ho hL9
 clear ja af az jE C
 obtain ⟨ja,af,az⟩:=opc_ HW16.out.open_
 have jE:=bd7_ HE16
 have C:=bd7_ HC16
 have HLM2 : Hid (M2.length ≤ 3):=hd_ (by rw [← HMl2.out];have h9:=zqu M1 (6) (e.Ch) ((-cC.Local));have h8 : (M1).length ≤ 2:=HLM1.out;omega)
 have HQ2 : Hid (∀ y ∈ M2,y = ⟨1,0,(cC.Local - e.Fee)⟩ ∨ y = ⟨5,0,e.Fee⟩ ∨ y = ⟨6,e.Ch,(-cC.Local)⟩):=hd_ (fun y hy => by rw [← HMl2.out] at hy;rcases zxk (fun y hy => by rcases HQ1 y hy with rfl | rfl <;> (simp only;omega)) hy with h9 | h9;exact (HQ1.out y h9).elim Or.inl (fun h8 => Or.inr (Or.inl h8));exact Or.inr (Or.inr h9))
 go_wp2_with fail
 go_end0
 rw [zgc HIX0 HH7 HCC h8]
 have HZ : nz [⟨1,0,(cC.Local - e.Fee)⟩,⟨5,0,e.Fee⟩,⟨6,e.Ch,(-cC.Local)⟩] = M2:=by rw [← HMl2.out,← HMl1.out,← HMl0.out];exact (line3 (by decide) (by decide)).symm
 rw [show b.w + cC.Local - e.Fee = b.w + (cC.Local - e.Fee) by omega,HZ,← HHS.out]
 rw [hcd0] at HW16
 exact Acts.ok ⟨_,_,_,_,_,_,_,_,rfl,HW16.out⟩
end Go.Proofs.YtdbmkfmenfcbiaaGreat
