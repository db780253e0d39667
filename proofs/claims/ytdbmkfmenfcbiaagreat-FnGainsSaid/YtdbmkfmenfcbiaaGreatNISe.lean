/- A payment ends: the program's walk. -/
import Derived.Test.YtdbmkfmenfcbiaaGreatRows
import Derived.Test.YtdbmkfmenfcbiaaGreatNM5
namespace Go.Proofs.YtdbmkfmenfcbiaaGreat
open Go.RowKit Go.Deep
theorem zhi (W : World) : (sizeOf (Tryz.prog.elem 35)).run Tryz.prog W = .ok 7 W:=by
 obtain ⟨i0,hi,-,hz1,-⟩:=info_parts zjx
 rw [show Tryz.prog.elem 35 = 103 by kernel_rfl]
 simp [sizeOf,typeInfo,hi,hz1]
theorem zsm (W : World) : (sizeOf (Tryz.prog.elem 36)).run Tryz.prog W = .ok 7 W:=by
 obtain ⟨i0,hi,-,hz1,-⟩:=info_parts zjy
 rw [show Tryz.prog.elem 36 = 70 by kernel_rfl]
 simp [sizeOf,typeInfo,hi,hz1]
theorem ztj (W : World) : (sizeOf (Tryz.prog.elem 37)).run Tryz.prog W = .ok 5 W:=by
 obtain ⟨i0,hi,-,hz1,-⟩:=info_parts zjn
 rw [show Tryz.prog.elem 37 = 93 by kernel_rfl]
 simp [sizeOf,typeInfo,hi,hz1]
set_option maxRecDepth 100000 in
set_option maxHeartbeats 4000000 in
theorem i_settle (w0 w : World) (B X : Nat) (b : Bk) (A1 A2 A3 A4 : Option Addr) (p1 p2 p3 p4 : Nat) (e : Event) (hF : BookFacts b.t b.n b.w b.cs b.hs b.os) (hk : (1 : Int) ≤ e.Key) (h : Wk 136 w0 w B X b [] 0 A1 A2 A3 A4 p1 p2 p3 p4) :
  Calls Tryz.prog 93 #[.pointer (some ⟨X,0,none⟩),.agg #[.int .i64 e.Kind,.int .i64 e.Key,.int .i64 e.Ch,.int .i64 e.To,.int .i64 e.Amt,.int .i64 e.Fee,.bool e.Yes]] w (Acts 136 w B X (settleS b e.Key (e.Kind == 6))):=by
 have H:=hd_ h.here
 clear h
 have hcl:=hF.cl
 have h60:=hF.small.hl
 have h20:=hF.small.ol
 have HF0:=hd_ hF
 have HBD:=hd_ (zjd hF)
 clear hF
 obtain ⟨i0,hi,hz0,hz1,hz2⟩:=info_parts zjy
 have HI0:=hd_ hi
 have HI1:=hd_ hz0
 have HI2:=hd_ hz1
 have HI3:=hd_ hz2
 clear hi hz0 hz1 hz2
 obtain ⟨a,af,az⟩:=opc_ H.out.open_
 go_enter Tryz.func93,Tryz.ntmps93
 go_wp2_with fail
 have HW_w:=H
 clear a af az
 refine nm_ ?_
 intro w1 hw
 obtain ⟨EB,hEB⟩ : ∃ v,v = w.heap.size:=⟨_,rfl⟩
 rw [← hEB]
 have HW1:=wka_ hw HW_w
 have HE1 : Hid (Hx w1 EB (evC e) 64):=hd_ (by rw [hw,hEB];exact zqi rfl)
 have HXE : Hid (EB ≠ X):=hd_ (by have:=HW_w.out.lt;omega)
 clear hw hEB
 obtain ⟨a,af,az⟩:=opc_ HW1.out.open_
 have jE:=bd7_ HE1
 refine zql (fun w' => kqiiissss w' X b.t b.n b.w A1 b.cs.length p1 A2 b.hs.length p2 A3 b.os.length p3 A4 ([].length) p4 (kqE_ w' EB e)) [yF 0 8,yF 1 9,yF 2 10,yF 3 11,yF 4 12,yF 5 13,yT 6 14,yF 7 4] (by kernel_rfl) (by kernel_rfl) (by kernel_rfl) (q78_ a jE) (fun hH => ?_)
 obtain ⟨w2,hwd⟩ : ∃ wd,w1.drew = wd:=⟨_,rfl⟩
 have HW2:=wkd_ hwd HW1
 have HE2:=hr_ hwd HE1
 clear a af az jE
 rw [hwd] at hH ⊢
 clear hwd
 obtain ⟨a,af,az⟩:=opc_ HW2.out.open_
 have jE:=bd7_ HE2
 refine tk_ ?_
 refine ss_ (fun K hK => ?_)
 go_simp
 refine (zya b.t b.n b.w b.cs b.hs b.os _ _ _ _ _ _ e.Key _ (by omega) ⟨HW2.out.o.c.rd,HW2.out.o.h.rd,HW2.out.o.o.rd⟩).mono ?_
 rintro e' w3 ⟨rfl,hb⟩
 have HW3:=hd_ (HW2.out.below hb)
 have HE3:=hb_ hb HE2
 clear hb
 clear a af az jE
 obtain ⟨a,af,az⟩:=opc_ HW3.out.open_
 have jE:=bd7_ HE3
 go_simp
 refine hK.out _ _ (q78_ a jE) (fun hH => ?_)
 clear hK K
 refine tk_ ?_
 refine Sq.done (NoPanic.normal ?_)
 obtain ⟨x,hx⟩ : ∃ x,hAt b.hs e.Key = x:=⟨_,rfl⟩
 rw [hx]
 have HX0:=hd_ hx
 clear hx
 by_cases h0 : x < 0
 ·
  go_wp2_with fail
  refine (zjf _ _ B X b [] 0 A1 A2 A3 A4 p1 p2 p3 p4 true 15 HW3).mono ?_
  rintro e' w4 ⟨rfl,hh,ho⟩
  have HW4:=hd_ (HW3.out.trans hh)
  have HE4:=hd_ (ho _ _ HXE HE3)
  clear hh ho
  clear a af az jE
  obtain ⟨a,af,az⟩:=opc_ HW4.out.open_
  have jE:=bd7_ HE4
  have HZ9 : failF 0 true 15 = 15:=rfl
  rw [HZ9] at HW4
  have HO : Hid (settleS b e.Key (e.Kind == 6) = bad 15):=hd_ (zwg (zgl (by rw [HX0.out];exact h0)))
  clear HZ9
  go_wp2_with fail
  go_end0
  rw [HO.out]
  exact Acts.no (by decide) ⟨_,_,_,_,_,_,_,_,rfl,HW4.out⟩
 obtain ⟨i,hi⟩:=Int.eq_ofNat_of_zero_le (show 0 ≤ x by omega)
 subst hi
 obtain ⟨hlt,hkey⟩:=zpb HX0
 obtain ⟨hO1,hO2⟩:=hs_found HF0 HX0 hlt
 obtain ⟨⟨mi,mo⟩,⟨m1,m2⟩,m3,m4⟩:=zkk HF0 (List.getElem_mem hlt)
 obtain ⟨gh,hA,hBg⟩:=HW3.out.o.h.headW (by rw [List.length_map];omega)
 subst hA
 clear h0
 have ix0 : (0 : Int) ≤ (i : Int):=by omega
 have ix1 : (i : Int) < (b.hs.length : Int):=by omega
 obtain ⟨h,hc⟩ : ∃ h,b.hs[i] = h:=⟨_,rfl⟩
 have hr : (b.hs.map Htlc.cells)[i]? = some h.cells:=by rw [List.getElem?_map,List.getElem?_eq_getElem hlt,hc];rfl
 have HRow:=hd_ hr
 rw [hc] at hkey hO1 mi mo m1 m2 m3 m4
 have HCI:=hd_ hc
 clear hr hc
 obtain ⟨f0,f1,f2,f3,f4,f5,f6⟩:=h
 have rc:=fun j hj => HW3.out.o.h.cellAt HRow (j:=j) hj
 have r0:=rc 0 (by decide)
 have r1:=rc 1 (by decide)
 have r2:=rc 2 (by decide)
 have r3:=rc 3 (by decide)
 have r4:=rc 4 (by decide)
 have r5:=rc 5 (by decide)
 have r6:=rc 6 (by decide)
 clear rc
 simp only [Htlc.cells,List.getElem?_cons_zero,List.getElem?_cons_succ,Nat.add_zero] at r0 r1 r2 r3 r4 r5 r6
 go_upto_region 5 with fail
 clear r0 r1 r2 r3 r4 r5 r6
 refine nm_ ?_
 intro w4 hw
 obtain ⟨HB,hHB⟩ : ∃ v,v = w3.heap.size:=⟨_,rfl⟩
 try rw [← hHB]
 have HW4:=wka_ hw HW3
 have HE4:=ha_ hw HE3
 clear a af az jE
 have HH4 : Hid (Hx w4 HB (qaiiiiibi f0 f1 f2 f3 f4 f5 f6) 70):=hd_ (by rw [hw,hHB];exact zqi rfl)
 have HXH : Hid (HB ≠ X):=hd_ (by have:=HW3.out.lt;omega)
 clear hw hHB
 obtain ⟨a,af,az⟩:=opc_ HW4.out.open_
 have jE:=bd7_ HE4
 have jH:=bd7_ HH4
 have cp0 : b.hs.length ≤ p2:=by obtain ⟨_,_,e9,_,h9,_⟩:=HW4.out.o.h.form;injection e9 with _ _ e9;rw [e9];simpa using h9
 have cp1 : i ≤ p2:=by omega
 have cp2 : i + 1 ≤ p2:=by omega
 have wi : IntKind.i64.wrap ((i : Int) + 1) = (i : Int) + 1:=IntWalk.i64_in _ ⟨by omega,by omega⟩
 obtain ⟨AT,hAT⟩ : ∃ v : Option Addr,tailA (some ⟨gh,0,none⟩) p2 (i + 1) 7 = v:=⟨_,rfl⟩
 have SL:=fun W : World => zws (P:=Tryz.prog) (t:=36) (size:=7) (n:=b.hs.length) (cap:=p2) (k:=i + 1) (A:=(some ⟨gh,0,none⟩)) (x:=(i : Int) + 1) (by kernel_rfl) zsm (by omega) (by omega) W
 rw [hAT] at SL
 have HRT:=hd_ (HW4.out.o.h.rd.from_ (cap:=p2) (by rw [List.length_map];exact cp0) (i + 1))
 rw [hAT] at HRT
 have HRH:=hd_ (HW4.out.o.h.rd.take i)
 clear hAT
 refine zqs (fun w' => kqiiissss w' X b.t b.n b.w A1 b.cs.length p1 (some ⟨gh,0,none⟩) b.hs.length p2 A3 b.os.length p3 A4 ([].length) p4 (kqE w' EB e (kqiiiiibi_ w' HB f0 f1 f2 f3 f4 f5 f6))) [yF 0 27,yF 1 28,yF 2 29,yF 3 30,yF 4 31,yF 5 32,yF 6 33,yF 7 34,yF 9 36,yF 10 37,yF 11 38,yF 12 39,yF 13 40,yF 14 41,yF 15 42,yF 16 43,yT 8 35,yT 17 44,yF 18 45,yF 19 46,yF 20 47] rfl (by kernel_rfl) (by kernel_rfl) (by kernel_rfl) (by kernel_rfl) (by kernel_rfl) (by kernel_rfl) (q78_ a (q7_ jE jH)) (fun hH => ?_)
 obtain ⟨w5,hwd⟩ : ∃ wd,w4.drew = wd:=⟨_,rfl⟩
 have HW5:=wkd_ hwd HW4
 have HE5:=hr_ hwd HE4
 have HH5:=hr_ hwd HH4
 clear a af az jE jH
 rw [hwd] at hH ⊢
 clear hwd
 obtain ⟨a,af,az⟩:=opc_ HW5.out.open_
 have jE:=bd7_ HE5
 have jH:=bd7_ HH5
 refine tk_ ?_
 skip
 have hT1:=HW5.out.o.h.rd.from_ (cap:=p2) (by rw [List.length_map];exact cp0) (i + 1)
 have HRT1 : Hid (Rd w5 w5.heap.size 7 AT ((b.hs.map Htlc.cells).drop (i + 1))):=hd_ (by have hx:=SL w5;rw [zws (P:=Tryz.prog) (t:=36) (size:=7) (k:=i + 1) (by kernel_rfl) zsm (by omega) (by omega)] at hx;injection hx with hx;injection hx with hx;rw [← hx];exact hT1)
 clear hT1
 refine ss_ (fun K hK => ?_)
 refine zje (ops:=#[]) (E:=True) rfl (zji rfl _ _ _ rfl w5.heap.size 70 i0 _ 7 56 Tryz.underlying36 HI0 HI1 HI2 HI3 rfl (by decide) (none) (0) ([]) (0) (rfl) (by rfl) (Ow.nil_) ((some ⟨gh,0,none⟩)) (p2) ((b.hs.map Htlc.cells).take i) (i) (by rw [List.length_take,List.length_map];omega) (by rfl) w5.heap.size (HW5.out.o.h.rd.take i) (by intro u hu;exact zha b.hs u (by obtain ⟨r9,h9,h8⟩:=List.mem_flatten.1 hu;exact List.mem_flatten.2 ⟨r9,List.mem_of_mem_take h9,h8⟩)) (by simp only [List.length_take,List.length_map,List.length_nil];omega) (by decide) (Nat.le_refl _) ?_)
 intro A5 cap5 x5 how5 hb5 hgr5
 rw [Nat.zero_add,List.nil_append] at how5
 rw [Nat.zero_add]
 have HW_x5:=hd_ (HW5.out.below hb5)
 have HE_x5:=hd_ (zqr hb5 (gz_ HE5).1 HE5)
 have HH_x5:=hd_ (zqr hb5 (gz_ HH5).1 HH5)
 clear a af az jE jH
 obtain ⟨a,af,az⟩:=opc_ HW_x5.out.open_
 have jE:=bd7_ HE_x5
 have jH:=bd7_ HH_x5
 go_simp
 refine hK.out _ _ (q78_ a (q7_ jE jH)) (fun hH => ?_)
 clear hK K
 refine tk_ ?_
 refine ss_ (fun K hK => ?_)
 refine zje (ops:=#[]) (E:=True) rfl (zji rfl _ _ _ rfl w5.heap.size 70 i0 _ 7 56 Tryz.underlying36 HI0 HI1 HI2 HI3 rfl (by decide) (A5) (cap5) ((b.hs.map Htlc.cells).take i) (i) (by rw [List.length_take,List.length_map];omega) (by rfl) (how5) (AT) (p2 - (i + 1)) ((b.hs.map Htlc.cells).drop (i + 1)) (b.hs.length - (i + 1)) (by rw [List.length_drop,List.length_map]) (by rfl) x5.heap.size (HRT1.out.below hb5 |>.more hb5.size) (by intro u hu;exact zha b.hs u (by obtain ⟨r9,h9,h8⟩:=List.mem_flatten.1 hu;exact List.mem_flatten.2 ⟨r9,List.mem_of_mem_drop h9,h8⟩)) (by simp only [List.length_take,List.length_drop,List.length_map];omega) (by decide) (hb5.size) ?_)
 intro A6 cap6 x6 how6 hb6 hgr6
 obtain ⟨l9,hl9⟩ : ∃ l9,l9 = b.hs.eraseIdx i:=⟨_,rfl⟩
 have hl8 : i + (b.hs.length - (i + 1)) = l9.length:=by rw [hl9,List.length_eraseIdx];split <;> omega
 rw [hl8] at how6 ⊢
 have HOE : Hid (Ow x6 B 70 7 (.slice A6 l9.length cap6) (l9.map Htlc.cells)):=hd_ (by have h9:=how6.more (B':=B) HW5.out.ble;rw [zkt] at h9;rw [hl9,zyz];rw [hl9] at h9;exact h9)
 have HLE:=hd_ hl9
 clear hl8
 skip
 clear a af az jE jH
 have hb16:=hb5.trans hb6
 have HW_x6:=hd_ (HW5.out.below hb16)
 have HE_x6:=hd_ (zqr hb16 (gz_ HE5).1 HE5)
 have HH_x6:=hd_ (zqr hb16 (gz_ HH5).1 HH5)
 obtain ⟨a,af,az⟩:=opc_ HW_x6.out.open_
 have jE:=bd7_ HE_x6
 have jH:=bd7_ HH_x6
 clear how5 how6 hgr5 hgr6 hb5 hb6 hb16 hl9
 go_simp
 refine hK.out _ _ (q78_ a (q7_ jE jH)) (fun hH => ?_)
 clear hK K
 refine tk_ ?_
 refine Sq.done ?_
 intro KK hKK
 go_simp
 refine hKK _ _ (NoPanic.normal ?_)
 refine nm_ ?_
 intro w6 hw
 have HW6 : Hid (Wk 136 w w6 B X ⟨b.t,b.n,b.w,b.cs,l9,b.os⟩ [] 0 A1 A6 A3 A4 p1 cap6 p3 p4):=hd_ (by rw [hw];exact HW_x6.out.setH (by decide) (by decide) (by decide) (by decide) HOE)
 have HE6:=hf_ hw HXE HE_x6
 have HH6:=hf_ hw HXH HH_x6
 clear hw
 clear a af az jE jH
 obtain ⟨a,af,az⟩:=opc_ HW6.out.open_
 have jE:=bd7_ HE6
 have jH:=bd7_ HH6
 have HHS:=hd_ (HLE.out.trans hO2.symm)
 clear hO2
 obtain ⟨u,hu⟩:=Int.eq_ofNat_of_zero_le mi
 obtain ⟨v,hv⟩:=Int.eq_ofNat_of_zero_le mo
 have hlu:=zxm hu
 have hlv:=zxm hv
 have HU:=hd_ hu
 have HV:=hd_ hv
 have Hmi:=hd_ mi
 have Hmo:=hd_ mo
 clear hu hv mi mo
 obtain ⟨g,hA,hBg⟩:=HW6.out.o.c.headW (by rw [List.length_map];(try simp only);omega)
 subst hA
 clear a af az jE jH
 obtain ⟨a,af,az⟩:=opc_ HW6.out.open_
 have jE:=bd7_ HE6
 have jH:=bd7_ HH6
 go_wp2_with fail
 have hix9 : 0 ≤ chanIx (⟨b.t,b.n,b.w,b.cs,l9,b.os⟩ : Bk).cs f1:=Hmi.out
 have hd9 : failF 0 (decide (chanIx (⟨b.t,b.n,b.w,b.cs,l9,b.os⟩ : Bk).cs f1 < 0)) 6 = 0:=by rw [decide_eq_false (by omega : ¬ chanIx (⟨b.t,b.n,b.w,b.cs,l9,b.os⟩ : Bk).cs f1 < 0)];exact zkj
 refine (i_ch _ _ B X ⟨b.t,b.n,b.w,b.cs,l9,b.os⟩ [] 0 (some ⟨g,0,none⟩) A6 A3 A4 p1 cap6 p3 p4 f1 (by (try simp only);omega) HW6).mono ?_
 rintro e' w7 ⟨g9,o9,c9,rfl,-,-,hh,ho,hf⟩
 obtain ⟨hA9,ho9,-⟩:=hf hix9
 injection hA9 with hA9
 injection hA9 with hA9
 subst hA9
 have ho8 : o9 = u * 7:=by rw [ho9,show chanIx (⟨b.t,b.n,b.w,b.cs,l9,b.os⟩ : Bk).cs f1 = (u : Int) from HU.out];rfl
 subst ho8
 rw [hd9] at hh
 have HW7:=hd_ (HW6.out.trans hh)
 have HE7:=hd_ (ho _ _ HXE HE6)
 have HH7:=hd_ (ho _ _ HXH HH6)
 clear hh ho hf ho9 hix9 hd9
 clear a af az jE jH
 obtain ⟨a,af,az⟩:=opc_ HW7.out.open_
 have jE:=bd7_ HE7
 have jH:=bd7_ HH7
 go_wp2_with fail
 have hix9 : 0 ≤ chanIx (⟨b.t,b.n,b.w,b.cs,l9,b.os⟩ : Bk).cs f2:=Hmo.out
 have hd9 : failF 0 (decide (chanIx (⟨b.t,b.n,b.w,b.cs,l9,b.os⟩ : Bk).cs f2 < 0)) 6 = 0:=by rw [decide_eq_false (by omega : ¬ chanIx (⟨b.t,b.n,b.w,b.cs,l9,b.os⟩ : Bk).cs f2 < 0)];exact zkj
 refine (i_ch _ _ B X ⟨b.t,b.n,b.w,b.cs,l9,b.os⟩ [] 0 (some ⟨g,0,none⟩) A6 A3 A4 p1 cap6 p3 p4 f2 (by (try simp only);omega) HW7).mono ?_
 rintro e' w8 ⟨g9,o9,c9,rfl,-,-,hh,ho,hf⟩
 obtain ⟨hA9,ho9,-⟩:=hf hix9
 injection hA9 with hA9
 injection hA9 with hA9
 subst hA9
 have ho8 : o9 = v * 7:=by rw [ho9,show chanIx (⟨b.t,b.n,b.w,b.cs,l9,b.os⟩ : Bk).cs f2 = (v : Int) from HV.out];rfl
 subst ho8
 rw [hd9] at hh
 have HW8:=hd_ (HW7.out.trans hh)
 have HE8:=hd_ (ho _ _ HXE HE7)
 have HH8:=hd_ (ho _ _ HXH HH7)
 clear hh ho hf ho9 hix9 hd9
 clear a af az jE jH
 obtain ⟨a,af,az⟩:=opc_ HW8.out.open_
 have jE:=bd7_ HE8
 have jH:=bd7_ HH8
 cases t6 : (e.Kind == 6)
 ·
  have HT6:=hd_ t6
  obtain ⟨c,hc⟩ : ∃ c,b.cs[u]'hlu = c:=⟨_,rfl⟩
  have hr : (b.cs.map Chan.cells)[u]? = some c.cells:=by rw [List.getElem?_map,List.getElem?_eq_getElem hlu,hc];rfl
  obtain ⟨y0,y1,y2,y3,y4,y5,y6⟩:=c
  have HRowy:=hd_ hr
  have HCIy:=hd_ hc
  clear hr hc
  have hb1:=HBD.out _ (List.getElem_mem hlu)
  rw [HCIy.out] at hb1
  simp only at hb1
  have ws : IntKind.i64.wrap (y3 + f3) = y3 + f3:=IntWalk.i64_in _ ⟨by omega,by omega⟩
  go_wp2_with fail
  have yc:=HW8.out.o.c.cellAt HRowy (j:=3) (by decide)
  simp only [Chan.cells,List.getElem?_cons_zero,List.getElem?_cons_succ] at yc
  refine zqs (fun w' => kqiiissss w' X b.t b.n b.w (some ⟨g,0,none⟩) b.cs.length p1 A6 l9.length cap6 A3 b.os.length p3 A4 ([].length) p4 (kqE w' EB e (kqiiiiibi w' HB f0 f1 f2 f3 f4 f5 f6 (kqio_ w' g (u * 7 + 3) y3)))) [yF 0 98,yF 1 99,yF 2 100,yF 3 101,yF 4 102,yF 5 103,yF 6 104,yF 7 105,yF 8 106] rfl (by kernel_rfl) (by kernel_rfl) (by kernel_rfl) (by kernel_rfl) (by kernel_rfl) (by kernel_rfl) (q78_ a (q7_ jE (q7_ jH yc))) (fun hH => ?_)
  obtain ⟨w9,hwd⟩ : ∃ wd,w8.drew = wd:=⟨_,rfl⟩
  have HW9:=wkd_ hwd HW8
  have HE9:=hr_ hwd HE8
  have HH9:=hr_ hwd HH8
  clear a af az jE jH
  rw [hwd] at hH ⊢
  clear hwd
  obtain ⟨a,af,az⟩:=opc_ HW9.out.open_
  have jE:=bd7_ HE9
  have jH:=bd7_ HH9
  refine tk_ ?_
  clear yc
  have yc:=HW9.out.o.c.cellAt HRowy (j:=3) (by decide)
  simp only [Chan.cells,List.getElem?_cons_zero,List.getElem?_cons_succ] at yc
  have yf:=fun j => HW9.out.o.c.frozenAt j
  refine Sq.done ?_
  intro KK hKK
  go_simp
  refine hKK _ _ (NoPanic.normal ?_)
  clear yc yf
  refine nm_ ?_
  intro w10 hw
  have HW10 : Hid (Wk 136 w w10 B X ⟨b.t,b.n,b.w,(b.cs.set u ⟨y0,y1,y2,(y3 + f3),y4,y5,y6⟩),l9,b.os⟩ [] 0 (some ⟨g,0,none⟩) A6 A3 A4 p1 cap6 p3 p4):=hd_ (by rw [hw];exact HW9.out.putCell (c':=⟨y0,y1,y2,(y3 + f3),y4,y5,y6⟩) (by decide) hlu (by decide) (by rw [HCIy.out];rfl))
  have HE10:=hf_ hw (fun e9 => HW9.out.o.c.ne_ HE9 (by decide) (by rw [e9];rfl)) HE9
  have HH10:=hf_ hw (fun e9 => HW9.out.o.c.ne_ HH9 (by decide) (by rw [e9];rfl)) HH9
  clear hw
  clear a af az jE jH
  obtain ⟨a,af,az⟩:=opc_ HW10.out.open_
  have jE:=bd7_ HE10
  have jH:=bd7_ HH10
  obtain ⟨cs1,hc3⟩ : ∃ v9,(b.cs.set u ⟨y0,y1,y2,(y3 + f3),y4,y5,y6⟩) = v9:=⟨_,rfl⟩
  rw [hc3] at HW10
  have Hcs1:=hd_ hc3
  clear hc3
  clear a af az jE jH
  obtain ⟨a,af,az⟩:=opc_ HW10.out.open_
  have jE:=bd7_ HE10
  have jH:=bd7_ HH10
  clear ws
  have HM1 : Hid (moveC b.cs f1 0 f3 = cs1):=hd_ (by rw [← Hcs1.out];exact zwr HU hlu HCIy)
  have hix1 : ∀ ch,chanIx cs1 ch = chanIx b.cs ch:=by rw [← HM1.out];exact fun ch => zxn _ _ _ _ ch
  have hl1 : cs1.length = b.cs.length:=by rw [← HM1.out];exact zxg _ _ _ _
  have HBD1 : Hid (Bd (1125899906842624 + 1125899906842624) cs1):=hd_ (by rw [← HM1.out];exact HBD.out.move _ _ _ (by omega) (by omega))
  have hlv1 : v < cs1.length:=by omega
  have hlu1 : u < cs1.length:=by omega
  have HIX1:=hd_ hix1
  clear hix1
  obtain ⟨c,hc⟩ : ∃ c,cs1[v]'hlv1 = c:=⟨_,rfl⟩
  have hr : (cs1.map Chan.cells)[v]? = some c.cells:=by rw [List.getElem?_map,List.getElem?_eq_getElem hlv1,hc];rfl
  obtain ⟨z0,z1,z2,z3,z4,z5,z6⟩:=c
  have HRowz:=hd_ hr
  have HCIz:=hd_ hc
  clear hr hc
  have hb2:=HBD1.out _ (List.getElem_mem hlv1)
  rw [HCIz.out] at hb2
  simp only at hb2
  have ws : IntKind.i64.wrap (z2 + f4) = z2 + f4:=IntWalk.i64_in _ ⟨by omega,by omega⟩
  go_wp2_with fail
  have yc:=HW10.out.o.c.cellAt HRowz (j:=2) (by decide)
  simp only [Chan.cells,List.getElem?_cons_zero,List.getElem?_cons_succ] at yc
  refine zqs (fun w' => kqiiissss w' X b.t b.n b.w (some ⟨g,0,none⟩) cs1.length p1 A6 l9.length cap6 A3 b.os.length p3 A4 ([].length) p4 (kqE w' EB e (kqiiiiibi w' HB f0 f1 f2 f3 f4 f5 f6 (kqio_ w' g (v * 7 + 2) z2)))) [yF 0 107,yF 1 108,yF 2 109,yF 3 110,yF 4 111,yF 5 112,yF 6 113,yF 7 114,yF 8 115] rfl (by kernel_rfl) (by kernel_rfl) (by kernel_rfl) (by kernel_rfl) (by kernel_rfl) (by kernel_rfl) (q78_ a (q7_ jE (q7_ jH yc))) (fun hH => ?_)
  obtain ⟨w11,hwd⟩ : ∃ wd,w10.drew = wd:=⟨_,rfl⟩
  have HW11:=wkd_ hwd HW10
  have HE11:=hr_ hwd HE10
  have HH11:=hr_ hwd HH10
  clear a af az jE jH
  rw [hwd] at hH ⊢
  clear hwd
  obtain ⟨a,af,az⟩:=opc_ HW11.out.open_
  have jE:=bd7_ HE11
  have jH:=bd7_ HH11
  refine tk_ ?_
  clear yc
  have yc:=HW11.out.o.c.cellAt HRowz (j:=2) (by decide)
  simp only [Chan.cells,List.getElem?_cons_zero,List.getElem?_cons_succ] at yc
  have yf:=fun j => HW11.out.o.c.frozenAt j
  refine Sq.done ?_
  intro KK hKK
  go_simp
  refine hKK _ _ (NoPanic.normal ?_)
  clear yc yf
  refine nm_ ?_
  intro w12 hw
  have HW12 : Hid (Wk 136 w w12 B X ⟨b.t,b.n,b.w,(cs1.set v ⟨z0,z1,(z2 + f4),z3,z4,z5,z6⟩),l9,b.os⟩ [] 0 (some ⟨g,0,none⟩) A6 A3 A4 p1 cap6 p3 p4):=hd_ (by rw [hw];exact HW11.out.putCell (c':=⟨z0,z1,(z2 + f4),z3,z4,z5,z6⟩) (by decide) hlv1 (by decide) (by rw [HCIz.out];rfl))
  have HE12:=hf_ hw (fun e9 => HW11.out.o.c.ne_ HE11 (by decide) (by rw [e9];rfl)) HE11
  have HH12:=hf_ hw (fun e9 => HW11.out.o.c.ne_ HH11 (by decide) (by rw [e9];rfl)) HH11
  clear hw
  clear a af az jE jH
  obtain ⟨a,af,az⟩:=opc_ HW12.out.open_
  have jE:=bd7_ HE12
  have jH:=bd7_ HH12
  obtain ⟨cs2,hc3⟩ : ∃ v9,(cs1.set v ⟨z0,z1,(z2 + f4),z3,z4,z5,z6⟩) = v9:=⟨_,rfl⟩
  rw [hc3] at HW12
  have Hcs2:=hd_ hc3
  clear hc3
  clear a af az jE jH
  obtain ⟨a,af,az⟩:=opc_ HW12.out.open_
  have jE:=bd7_ HE12
  have jH:=bd7_ HH12
  clear ws
  have HM2 : Hid (moveC cs1 f2 f4 0 = cs2):=hd_ (by rw [← Hcs2.out];exact zwq (by rw [HIX1.out];exact HV) hlv1 HCIz)
  have hl2 : cs2.length = cs1.length:=by rw [← HM2.out];exact zxg _ _ _ _
  have hlu2 : u < cs2.length:=by omega
  have HIX2 : Hid (chanIx cs2 f1 = (u : Int)):=hd_ (by rw [← HM2.out,zxn,HIX1.out];exact HU)
  obtain ⟨c,hc⟩ : ∃ c,cs2[u]'hlu2 = c:=⟨_,rfl⟩
  have hr : (cs2.map Chan.cells)[u]? = some c.cells:=by rw [List.getElem?_map,List.getElem?_eq_getElem hlu2,hc];rfl
  obtain ⟨x0,x1,x2,x3,x4,x5,x6⟩:=c
  have HRowx:=hd_ hr
  have HCIx:=hd_ hc
  clear hr hc
  have yc:=HW12.out.o.c.cellAt HRowx (j:=6) (by decide)
  simp only [Chan.cells,List.getElem?_cons_zero,List.getElem?_cons_succ] at yc
  have yf:=fun j => HW12.out.o.c.frozenAt j
  go_wp2_with fail
  refine (i_ScoreDown _ _).mono ?_
  rintro e' wz ⟨rfl,rfl⟩
  go_upto_region 17 with fail
  clear yc yf
  refine nm_ ?_
  intro w13 hw
  have HW13 : Hid (Wk 136 w w13 B X ⟨b.t,b.n,b.w,(cs2.set u ⟨x0,x1,x2,x3,x4,x5,(downF x6)⟩),l9,b.os⟩ [] 0 (some ⟨g,0,none⟩) A6 A3 A4 p1 cap6 p3 p4):=hd_ (by rw [hw];exact HW12.out.putCell (c':=⟨x0,x1,x2,x3,x4,x5,(downF x6)⟩) (by decide) hlu2 (by decide) (by rw [HCIx.out];rfl))
  have HE13:=hf_ hw (fun e9 => HW12.out.o.c.ne_ HE12 (by decide) (by rw [e9];rfl)) HE12
  have HH13:=hf_ hw (fun e9 => HW12.out.o.c.ne_ HH12 (by decide) (by rw [e9];rfl)) HH12
  clear hw
  clear a af az jE jH
  obtain ⟨a,af,az⟩:=opc_ HW13.out.open_
  have jE:=bd7_ HE13
  have jH:=bd7_ HH13
  obtain ⟨cs3,hc3⟩ : ∃ v9,(cs2.set u ⟨x0,x1,x2,x3,x4,x5,(downF x6)⟩) = v9:=⟨_,rfl⟩
  rw [hc3] at HW13
  have Hcs3:=hd_ hc3
  clear hc3
  clear a af az jE jH
  obtain ⟨a,af,az⟩:=opc_ HW13.out.open_
  have jE:=bd7_ HE13
  have jH:=bd7_ HH13
  have HM3 : Hid (setCh cs2 f1 scoreDown = cs3):=hd_ (by rw [zkv HIX2 hlu2,HCIx.out];exact Hcs3)
  go_wp2_with fail
  refine (zjg _ _ B X ⟨b.t,b.n,b.w,cs3,l9,b.os⟩ [] 0 (some ⟨g,0,none⟩) A6 A3 A4 p1 cap6 p3 p4 6 f2 f4 (by decide) (by (try simp only);omega) (fun y hy => by cases hy) (fun y hy => by cases hy) HW13).mono ?_
  rintro e' w14 ⟨⟨Cw140,Cw141,Cw142,Cw143,rw140,rw141,rw142,rw143,rfl,hh⟩,ho⟩
  have HE14:=hd_ (ho _ _ HXE HE13)
  have HH14:=hd_ (ho _ _ HXH HH13)
  obtain ⟨M0,hL9⟩ : ∃ v,lineTo [] 6 f2 f4 = v:=⟨_,rfl⟩
  rw [hL9] at hh
  have HMl0:=hd_ hL9
  have HW14:=hd_ (HW13.out.trans hh)
  clear hh ho hL9
  clear a af az jE jH
  obtain ⟨a,af,az⟩:=opc_ HW14.out.open_
  have jE:=bd7_ HE14
  have jH:=bd7_ HH14
  have HLM0 : Hid (M0.length ≤ 1):=hd_ (by rw [← HMl0.out];have h9:=zqu [] (6) (f2) (f4);have h8 : ([] : List Line).length ≤ 0:=Nat.le_refl _;omega)
  have HQ0 : Hid (∀ y ∈ M0,y = ⟨6,f2,f4⟩):=hd_ (fun y hy => by rw [← HMl0.out] at hy;rcases zxk (fun y hy => by cases hy) hy with h9 | h9;cases h9;exact h9)
  go_wp2_with fail
  refine (zjg _ _ B X ⟨b.t,b.n,b.w,cs3,l9,b.os⟩ M0 0 Cw140 Cw141 Cw142 Cw143 rw140 rw141 rw142 rw143 8 f2 (-f4) (by have:=HLM0.out;omega) (by (try simp only);omega) (fun y hy => by rcases HQ0 y hy with rfl <;> (simp only;omega)) (fun y hy => by rcases HQ0 y hy with rfl <;> (simp only;omega)) HW14).mono ?_
  rintro e' w15 ⟨⟨Cw150,Cw151,Cw152,Cw153,rw150,rw151,rw152,rw153,rfl,hh⟩,ho⟩
  have HE15:=hd_ (ho _ _ HXE HE14)
  have HH15:=hd_ (ho _ _ HXH HH14)
  obtain ⟨M1,hL9⟩ : ∃ v,lineTo M0 8 f2 (-f4) = v:=⟨_,rfl⟩
  rw [hL9] at hh
  have HMl1:=hd_ hL9
  have HW15:=hd_ (HW14.out.trans hh)
  clear hh ho hL9
  clear a af az jE jH
  obtain ⟨a,af,az⟩:=opc_ HW15.out.open_
  have jE:=bd7_ HE15
  have jH:=bd7_ HH15
  have HLM1 : Hid (M1.length ≤ 2):=hd_ (by rw [← HMl1.out];have h9:=zqu M0 (8) (f2) ((-f4));have h8 : (M0).length ≤ 1:=HLM0.out;omega)
  have HQ1 : Hid (∀ y ∈ M1,y = ⟨6,f2,f4⟩ ∨ y = ⟨8,f2,(-f4)⟩):=hd_ (fun y hy => by rw [← HMl1.out] at hy;rcases zxk (fun y hy => by rcases HQ0 y hy with rfl <;> (simp only;omega)) hy with h9 | h9;exact HQ0 y h9 |> Or.inl;exact Or.inr h9)
  go_wp2_with fail
  go_end0
  rw [HT6.out,zmn hO1 (by (try simp only at hkey ⊢);omega)]
  have HZ : nz [⟨6,f2,f4⟩,⟨8,f2,(-f4)⟩] = M1:=by rw [← HMl1.out,← HMl0.out];exact (line2 (by decide)).symm
  dsimp only
  rw [HZ,← HHS.out,HM1.out,HM2.out,HM3.out]
  exact Acts.ok ⟨_,_,_,_,_,_,_,_,rfl,HW15.out⟩
 have HT6:=hd_ t6
 obtain ⟨c,hc⟩ : ∃ c,b.cs[u]'hlu = c:=⟨_,rfl⟩
 have hr : (b.cs.map Chan.cells)[u]? = some c.cells:=by rw [List.getElem?_map,List.getElem?_eq_getElem hlu,hc];rfl
 obtain ⟨y0,y1,y2,y3,y4,y5,y6⟩:=c
 have HRowy:=hd_ hr
 have HCIy:=hd_ hc
 clear hr hc
 have hb1:=HBD.out _ (List.getElem_mem hlu)
 rw [HCIy.out] at hb1
 simp only at hb1
 have ws : IntKind.i64.wrap (y2 + f3) = y2 + f3:=IntWalk.i64_in _ ⟨by omega,by omega⟩
 go_wp2_with fail
 have yc:=HW8.out.o.c.cellAt HRowy (j:=2) (by decide)
 simp only [Chan.cells,List.getElem?_cons_zero,List.getElem?_cons_succ] at yc
 refine zqs (fun w' => kqiiissss w' X b.t b.n b.w (some ⟨g,0,none⟩) b.cs.length p1 A6 l9.length cap6 A3 b.os.length p3 A4 ([].length) p4 (kqE w' EB e (kqiiiiibi w' HB f0 f1 f2 f3 f4 f5 f6 (kqio_ w' g (u * 7 + 2) y2)))) [yF 0 59,yF 1 60,yF 2 61,yF 3 62,yF 4 63,yF 5 64,yF 6 65,yF 7 66,yF 8 67] rfl (by kernel_rfl) (by kernel_rfl) (by kernel_rfl) (by kernel_rfl) (by kernel_rfl) (by kernel_rfl) (q78_ a (q7_ jE (q7_ jH yc))) (fun hH => ?_)
 obtain ⟨w9,hwd⟩ : ∃ wd,w8.drew = wd:=⟨_,rfl⟩
 have HW9:=wkd_ hwd HW8
 have HE9:=hr_ hwd HE8
 have HH9:=hr_ hwd HH8
 clear a af az jE jH
 rw [hwd] at hH ⊢
 clear hwd
 obtain ⟨a,af,az⟩:=opc_ HW9.out.open_
 have jE:=bd7_ HE9
 have jH:=bd7_ HH9
 refine tk_ ?_
 clear yc
 have yc:=HW9.out.o.c.cellAt HRowy (j:=2) (by decide)
 simp only [Chan.cells,List.getElem?_cons_zero,List.getElem?_cons_succ] at yc
 have yf:=fun j => HW9.out.o.c.frozenAt j
 refine Sq.done ?_
 intro KK hKK
 go_simp
 refine hKK _ _ (NoPanic.normal ?_)
 clear yc yf
 refine nm_ ?_
 intro w10 hw
 have HW10 : Hid (Wk 136 w w10 B X ⟨b.t,b.n,b.w,(b.cs.set u ⟨y0,y1,(y2 + f3),y3,y4,y5,y6⟩),l9,b.os⟩ [] 0 (some ⟨g,0,none⟩) A6 A3 A4 p1 cap6 p3 p4):=hd_ (by rw [hw];exact HW9.out.putCell (c':=⟨y0,y1,(y2 + f3),y3,y4,y5,y6⟩) (by decide) hlu (by decide) (by rw [HCIy.out];rfl))
 have HE10:=hf_ hw (fun e9 => HW9.out.o.c.ne_ HE9 (by decide) (by rw [e9];rfl)) HE9
 have HH10:=hf_ hw (fun e9 => HW9.out.o.c.ne_ HH9 (by decide) (by rw [e9];rfl)) HH9
 clear hw
 clear a af az jE jH
 obtain ⟨a,af,az⟩:=opc_ HW10.out.open_
 have jE:=bd7_ HE10
 have jH:=bd7_ HH10
 obtain ⟨cs1,hc3⟩ : ∃ v9,(b.cs.set u ⟨y0,y1,(y2 + f3),y3,y4,y5,y6⟩) = v9:=⟨_,rfl⟩
 rw [hc3] at HW10
 have Hcs1:=hd_ hc3
 clear hc3
 clear a af az jE jH
 obtain ⟨a,af,az⟩:=opc_ HW10.out.open_
 have jE:=bd7_ HE10
 have jH:=bd7_ HH10
 clear ws
 have HM1 : Hid (moveC b.cs f1 f3 0 = cs1):=hd_ (by rw [← Hcs1.out];exact zwq HU hlu HCIy)
 have hix1 : ∀ ch,chanIx cs1 ch = chanIx b.cs ch:=by rw [← HM1.out];exact fun ch => zxn _ _ _ _ ch
 have hl1 : cs1.length = b.cs.length:=by rw [← HM1.out];exact zxg _ _ _ _
 have HBD1 : Hid (Bd (1125899906842624 + 1125899906842624) cs1):=hd_ (by rw [← HM1.out];exact HBD.out.move _ _ _ (by omega) (by omega))
 have hlv1 : v < cs1.length:=by omega
 have hlu1 : u < cs1.length:=by omega
 have HIX1:=hd_ hix1
 clear hix1
 obtain ⟨c,hc⟩ : ∃ c,cs1[v]'hlv1 = c:=⟨_,rfl⟩
 have hr : (cs1.map Chan.cells)[v]? = some c.cells:=by rw [List.getElem?_map,List.getElem?_eq_getElem hlv1,hc];rfl
 obtain ⟨z0,z1,z2,z3,z4,z5,z6⟩:=c
 have HRowz:=hd_ hr
 have HCIz:=hd_ hc
 clear hr hc
 have hb2:=HBD1.out _ (List.getElem_mem hlv1)
 rw [HCIz.out] at hb2
 simp only at hb2
 have ws : IntKind.i64.wrap (z3 + f4) = z3 + f4:=IntWalk.i64_in _ ⟨by omega,by omega⟩
 go_wp2_with fail
 have yc:=HW10.out.o.c.cellAt HRowz (j:=3) (by decide)
 simp only [Chan.cells,List.getElem?_cons_zero,List.getElem?_cons_succ] at yc
 refine zqs (fun w' => kqiiissss w' X b.t b.n b.w (some ⟨g,0,none⟩) cs1.length p1 A6 l9.length cap6 A3 b.os.length p3 A4 ([].length) p4 (kqE w' EB e (kqiiiiibi w' HB f0 f1 f2 f3 f4 f5 f6 (kqio_ w' g (v * 7 + 3) z3)))) [yF 0 68,yF 1 69,yF 2 70,yF 3 71,yF 4 72,yF 5 73,yF 6 74,yF 7 75,yF 8 76] rfl (by kernel_rfl) (by kernel_rfl) (by kernel_rfl) (by kernel_rfl) (by kernel_rfl) (by kernel_rfl) (q78_ a (q7_ jE (q7_ jH yc))) (fun hH => ?_)
 obtain ⟨w11,hwd⟩ : ∃ wd,w10.drew = wd:=⟨_,rfl⟩
 have HW11:=wkd_ hwd HW10
 have HE11:=hr_ hwd HE10
 have HH11:=hr_ hwd HH10
 clear a af az jE jH
 rw [hwd] at hH ⊢
 clear hwd
 obtain ⟨a,af,az⟩:=opc_ HW11.out.open_
 have jE:=bd7_ HE11
 have jH:=bd7_ HH11
 refine tk_ ?_
 clear yc
 have yc:=HW11.out.o.c.cellAt HRowz (j:=3) (by decide)
 simp only [Chan.cells,List.getElem?_cons_zero,List.getElem?_cons_succ] at yc
 have yf:=fun j => HW11.out.o.c.frozenAt j
 refine Sq.done ?_
 intro KK hKK
 go_simp
 refine hKK _ _ (NoPanic.normal ?_)
 clear yc yf
 refine nm_ ?_
 intro w12 hw
 have HW12 : Hid (Wk 136 w w12 B X ⟨b.t,b.n,b.w,(cs1.set v ⟨z0,z1,z2,(z3 + f4),z4,z5,z6⟩),l9,b.os⟩ [] 0 (some ⟨g,0,none⟩) A6 A3 A4 p1 cap6 p3 p4):=hd_ (by rw [hw];exact HW11.out.putCell (c':=⟨z0,z1,z2,(z3 + f4),z4,z5,z6⟩) (by decide) hlv1 (by decide) (by rw [HCIz.out];rfl))
 have HE12:=hf_ hw (fun e9 => HW11.out.o.c.ne_ HE11 (by decide) (by rw [e9];rfl)) HE11
 have HH12:=hf_ hw (fun e9 => HW11.out.o.c.ne_ HH11 (by decide) (by rw [e9];rfl)) HH11
 clear hw
 clear a af az jE jH
 obtain ⟨a,af,az⟩:=opc_ HW12.out.open_
 have jE:=bd7_ HE12
 have jH:=bd7_ HH12
 obtain ⟨cs2,hc3⟩ : ∃ v9,(cs1.set v ⟨z0,z1,z2,(z3 + f4),z4,z5,z6⟩) = v9:=⟨_,rfl⟩
 rw [hc3] at HW12
 have Hcs2:=hd_ hc3
 clear hc3
 clear a af az jE jH
 obtain ⟨a,af,az⟩:=opc_ HW12.out.open_
 have jE:=bd7_ HE12
 have jH:=bd7_ HH12
 clear ws
 have HM2 : Hid (moveC cs1 f2 0 f4 = cs2):=hd_ (by rw [← Hcs2.out];exact zwr (by rw [HIX1.out];exact HV) hlv1 HCIz)
 have hl2 : cs2.length = cs1.length:=by rw [← HM2.out];exact zxg _ _ _ _
 have hlu2 : u < cs2.length:=by omega
 have HIX2 : Hid (chanIx cs2 f1 = (u : Int)):=hd_ (by rw [← HM2.out,zxn,HIX1.out];exact HU)
 obtain ⟨c,hc⟩ : ∃ c,cs2[u]'hlu2 = c:=⟨_,rfl⟩
 have hr : (cs2.map Chan.cells)[u]? = some c.cells:=by rw [List.getElem?_map,List.getElem?_eq_getElem hlu2,hc];rfl
 obtain ⟨x0,x1,x2,x3,x4,x5,x6⟩:=c
 have HRowx:=hd_ hr
 have HCIx:=hd_ hc
 clear hr hc
 have yc:=HW12.out.o.c.cellAt HRowx (j:=6) (by decide)
 simp only [Chan.cells,List.getElem?_cons_zero,List.getElem?_cons_succ] at yc
 have yf:=fun j => HW12.out.o.c.frozenAt j
 go_wp2_with fail
 refine (i_ScoreUp _ _).mono ?_
 rintro e' wz ⟨rfl,rfl⟩
 go_upto_region 12 with fail
 clear yc yf
 refine nm_ ?_
 intro w13 hw
 have HW13 : Hid (Wk 136 w w13 B X ⟨b.t,b.n,b.w,(cs2.set u ⟨x0,x1,x2,x3,x4,x5,(upF x6)⟩),l9,b.os⟩ [] 0 (some ⟨g,0,none⟩) A6 A3 A4 p1 cap6 p3 p4):=hd_ (by rw [hw];exact HW12.out.putCell (c':=⟨x0,x1,x2,x3,x4,x5,(upF x6)⟩) (by decide) hlu2 (by decide) (by rw [HCIx.out];rfl))
 have HE13:=hf_ hw (fun e9 => HW12.out.o.c.ne_ HE12 (by decide) (by rw [e9];rfl)) HE12
 have HH13:=hf_ hw (fun e9 => HW12.out.o.c.ne_ HH12 (by decide) (by rw [e9];rfl)) HH12
 clear hw
 clear a af az jE jH
 obtain ⟨a,af,az⟩:=opc_ HW13.out.open_
 have jE:=bd7_ HE13
 have jH:=bd7_ HH13
 obtain ⟨cs3,hc3⟩ : ∃ v9,(cs2.set u ⟨x0,x1,x2,x3,x4,x5,(upF x6)⟩) = v9:=⟨_,rfl⟩
 rw [hc3] at HW13
 have Hcs3:=hd_ hc3
 clear hc3
 clear a af az jE jH
 obtain ⟨a,af,az⟩:=opc_ HW13.out.open_
 have jE:=bd7_ HE13
 have jH:=bd7_ HH13
 have HM3 : Hid (setCh cs2 f1 scoreUp = cs3):=hd_ (by rw [zkv HIX2 hlu2,HCIx.out];exact Hcs3)
 go_wp2_with fail
 refine (zjg _ _ B X ⟨b.t,b.n,b.w,cs3,l9,b.os⟩ [] 0 (some ⟨g,0,none⟩) A6 A3 A4 p1 cap6 p3 p4 3 0 (f4 - f3) (by decide) (by (try simp only);omega) (fun y hy => by cases hy) (fun y hy => by cases hy) HW13).mono ?_
 rintro e' w14 ⟨⟨Cw140,Cw141,Cw142,Cw143,rw140,rw141,rw142,rw143,rfl,hh⟩,ho⟩
 have HE14:=hd_ (ho _ _ HXE HE13)
 have HH14:=hd_ (ho _ _ HXH HH13)
 obtain ⟨M0,hL9⟩ : ∃ v,lineTo [] 3 0 (f4 - f3) = v:=⟨_,rfl⟩
 rw [hL9] at hh
 have HMl0:=hd_ hL9
 have HW14:=hd_ (HW13.out.trans hh)
 clear hh ho hL9
 clear a af az jE jH
 obtain ⟨a,af,az⟩:=opc_ HW14.out.open_
 have jE:=bd7_ HE14
 have jH:=bd7_ HH14
 have HLM0 : Hid (M0.length ≤ 1):=hd_ (by rw [← HMl0.out];have h9:=zqu [] (3) (0) ((f4 - f3));have h8 : ([] : List Line).length ≤ 0:=Nat.le_refl _;omega)
 have HQ0 : Hid (∀ y ∈ M0,y = ⟨3,0,(f4 - f3)⟩):=hd_ (fun y hy => by rw [← HMl0.out] at hy;rcases zxk (fun y hy => by cases hy) hy with h9 | h9;cases h9;exact h9)
 go_wp2_with fail
 refine (zjg _ _ B X ⟨b.t,b.n,b.w,cs3,l9,b.os⟩ M0 0 Cw140 Cw141 Cw142 Cw143 rw140 rw141 rw142 rw143 6 f1 f3 (by have:=HLM0.out;omega) (by (try simp only);omega) (fun y hy => by rcases HQ0 y hy with rfl <;> (simp only;omega)) (fun y hy => by rcases HQ0 y hy with rfl <;> (simp only;omega)) HW14).mono ?_
 rintro e' w15 ⟨⟨Cw150,Cw151,Cw152,Cw153,rw150,rw151,rw152,rw153,rfl,hh⟩,ho⟩
 have HE15:=hd_ (ho _ _ HXE HE14)
 have HH15:=hd_ (ho _ _ HXH HH14)
 obtain ⟨M1,hL9⟩ : ∃ v,lineTo M0 6 f1 f3 = v:=⟨_,rfl⟩
 rw [hL9] at hh
 have HMl1:=hd_ hL9
 have HW15:=hd_ (HW14.out.trans hh)
 clear hh ho hL9
 clear a af az jE jH
 obtain ⟨a,af,az⟩:=opc_ HW15.out.open_
 have jE:=bd7_ HE15
 have jH:=bd7_ HH15
 have HLM1 : Hid (M1.length ≤ 2):=hd_ (by rw [← HMl1.out];have h9:=zqu M0 (6) (f1) (f3);have h8 : (M0).length ≤ 1:=HLM0.out;omega)
 have HQ1 : Hid (∀ y ∈ M1,y = ⟨3,0,(f4 - f3)⟩ ∨ y = ⟨6,f1,f3⟩):=hd_ (fun y hy => by rw [← HMl1.out] at hy;rcases zxk (fun y hy => by rcases HQ0 y hy with rfl <;> (simp only;omega)) hy with h9 | h9;exact HQ0 y h9 |> Or.inl;exact Or.inr h9)
 go_wp2_with fail
 refine (zjg _ _ B X ⟨b.t,b.n,b.w,cs3,l9,b.os⟩ M1 0 Cw150 Cw151 Cw152 Cw153 rw150 rw151 rw152 rw153 8 f2 (-f4) (by have:=HLM1.out;omega) (by (try simp only);omega) (fun y hy => by rcases HQ1 y hy with rfl | rfl <;> (simp only;omega)) (fun y hy => by rcases HQ1 y hy with rfl | rfl <;> (simp only;omega)) HW15).mono ?_
 rintro e' w16 ⟨⟨Cw160,Cw161,Cw162,Cw163,rw160,rw161,rw162,rw163,rfl,hh⟩,ho⟩
 have HE16:=hd_ (ho _ _ HXE HE15)
 have HH16:=hd_ (ho _ _ HXH HH15)
 obtain ⟨M2,hL9⟩ : ∃ v,lineTo M1 8 f2 (-f4) = v:=⟨_,rfl⟩
 rw [hL9] at hh
 have HMl2:=hd_ hL9
 have HW16:=hd_ (HW15.out.trans hh)
 clear hh ho hL9
 clear a af az jE jH
 obtain ⟨a,af,az⟩:=opc_ HW16.out.open_
 have jE:=bd7_ HE16
 have jH:=bd7_ HH16
 have HLM2 : Hid (M2.length ≤ 3):=hd_ (by rw [← HMl2.out];have h9:=zqu M1 (8) (f2) ((-f4));have h8 : (M1).length ≤ 2:=HLM1.out;omega)
 have HQ2 : Hid (∀ y ∈ M2,y = ⟨3,0,(f4 - f3)⟩ ∨ y = ⟨6,f1,f3⟩ ∨ y = ⟨8,f2,(-f4)⟩):=hd_ (fun y hy => by rw [← HMl2.out] at hy;rcases zxk (fun y hy => by rcases HQ1 y hy with rfl | rfl <;> (simp only;omega)) hy with h9 | h9;exact (HQ1.out y h9).elim Or.inl (fun h8 => Or.inr (Or.inl h8));exact Or.inr (Or.inr h9))
 go_wp2_with fail
 go_end0
 rw [HT6.out,zti hO1 (by (try simp only at hkey ⊢);omega)]
 have HZ : nz [⟨3,0,(f4 - f3)⟩,⟨6,f1,f3⟩,⟨8,f2,(-f4)⟩] = M2:=by rw [← HMl2.out,← HMl1.out,← HMl0.out];exact (line3 (by decide) (by decide)).symm
 dsimp only
 rw [HZ,← HHS.out,HM1.out,HM2.out,HM3.out]
 exact Acts.ok ⟨_,_,_,_,_,_,_,_,rfl,HW16.out⟩
end Go.Proofs.YtdbmkfmenfcbiaaGreat
