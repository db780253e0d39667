/- A payment ends: the program's walk. -/
import Derived.Test.YtdbmkfmenfcbiaaGreatRows
import Derived.Test.YtdbmkfmenfcbiaaGreatSM3
namespace Go.Proofs.YtdbmkfmenfcbiaaGreat
open Go.RowKit Go.Deep
theorem ztk (W : World) : (sizeOf (Tryz.prog.elem 36)).run Tryz.prog W = .ok 7 W:=by
 obtain ⟨i0,hi,-,hz1,-⟩:=info_parts zjw
 rw [show Tryz.prog.elem 36 = 70 by kernel_rfl]
 simp [sizeOf,typeInfo,hi,hz1]
set_option maxRecDepth 100000 in
set_option maxHeartbeats 4000000 in
theorem i_settle (w0 w : World) (B X : Nat) (b : Bk) (A1 A2 A3 A4 : Option Addr) (p1 p2 p3 p4 : Nat) (e : Event) (hF : BookFacts b.t b.n b.w b.cs b.hs b.os) (hk : (1 : Int) ≤ e.Key) (h : Wk 136 w0 w B X b [] 0 A1 A2 A3 A4 p1 p2 p3 p4) :
  Calls Tryz.prog 93 #[.pointer (some ⟨X,0,none⟩),.agg #[.int .i64 e.Kind,.int .i64 e.Key,.int .i64 e.Ch,.int .i64 e.To,.int .i64 e.Amt,.int .i64 e.Fee,.bool e.Yes]] w (Acts 136 w B X (settleS b e.Key (e.Kind == 6))):=by
 have H:=hd_ h.here
 clear h
 have hcl:=hF.cl
 have h60:=hF.small.hl
 have h20:=hF.small.ol
 have HF0:=hd_ hF
 have HBD:=hd_ (zjx hF)
 clear hF
 obtain ⟨i0,hi,hz0,hz1,hz2⟩:=info_parts zjw
 have HI0:=hd_ hi
 have HI1:=hd_ hz0
 have HI2:=hd_ hz1
 have HI3:=hd_ hz2
 clear hi hz0 hz1 hz2
 obtain ⟨a0,a1,a2,a3,a4,a5,a6,a7,af,az⟩:=H.out.open_
 go_enter Tryz.func93,Tryz.ntmps93
 go_wp2_with fail
 have HW_w:=H
 clear a0 a1 a2 a3 a4 a5 a6 a7 af az
 refine nm_ ?_
 intro w1 hw
 obtain ⟨EB,hEB⟩ : ∃ v,v = w.heap.size:=⟨_,rfl⟩
 rw [← hEB]
 have HW_w1 : Hid (Wk 136 w w1 B X b [] 0 A1 A2 A3 A4 p1 p2 p3 p4):=hd_ (by rw [hw];exact HW_w.out.alloc _)
 have HE_w1 : Hid (Hx w1 EB (evC e) 64):=hd_ (by rw [hw,hEB];exact zqm rfl)
 have HXE : Hid (EB ≠ X):=hd_ (by have:=HW_w.out.lt;omega)
 clear hw hEB
 obtain ⟨a0,a1,a2,a3,a4,a5,a6,a7,af,az⟩:=HW_w1.out.open_
 obtain ⟨E0,E1,E2,E3,E4,E5,E6,-,-⟩:=box7_ HE_w1.out
 refine zqw (fun w' => kqiiissss w' X b.t b.n b.w A1 b.cs.length p1 A2 b.hs.length p2 A3 b.os.length p3 A4 ([].length) p4 (kqE_ w' EB e)) [yF 0 8,yF 1 9,yF 2 10,yF 3 11,yF 4 12,yF 5 13,yT 6 14,yF 7 4] (by kernel_rfl) (by kernel_rfl) (by kernel_rfl) ⟨a0,a1,a2,a3,a4,a5,a6,E0,E1,E2,E3,E4,E5,E6⟩ (fun hHeld => ?_)
 obtain ⟨w2,hwd⟩ : ∃ wd,w1.drew = wd:=⟨_,rfl⟩
 have HW_w2 : Hid (Wk 136 w w2 B X b [] 0 A1 A2 A3 A4 p1 p2 p3 p4):=hd_ (by rw [← hwd];exact HW_w1.out.drew)
 have HE_w2 : Hid (Hx w2 EB (evC e) 64):=hd_ (by rw [← hwd];exact zqk HE_w1.out)
 clear a0 a1 a2 a3 a4 a5 a6 a7 af az E0 E1 E2 E3 E4 E5 E6
 rw [hwd] at hHeld ⊢
 clear hwd
 obtain ⟨a0,a1,a2,a3,a4,a5,a6,a7,af,az⟩:=HW_w2.out.open_
 obtain ⟨E0,E1,E2,E3,E4,E5,E6,-,-⟩:=box7_ HE_w2.out
 refine tk_ ?_
 refine Sq.step rfl (by rfl) (fun K hK => ?_)
 go_simp
 refine (i_htlcAt b.t b.n b.w b.cs b.hs b.os _ _ _ _ _ _ e.Key _ (by omega) ⟨HW_w2.out.o.c.rd,HW_w2.out.o.h.rd,HW_w2.out.o.o.rd⟩).mono ?_
 rintro e' w3 ⟨rfl,hb⟩
 have HW_w3:=hd_ (HW_w2.out.below hb)
 have HE_w3:=hd_ (zqe hb (gz_ HE_w2.out).1 HE_w2.out)
 clear hb
 clear a0 a1 a2 a3 a4 a5 a6 a7 af az E0 E1 E2 E3 E4 E5 E6
 obtain ⟨a0,a1,a2,a3,a4,a5,a6,a7,af,az⟩:=HW_w3.out.open_
 obtain ⟨E0,E1,E2,E3,E4,E5,E6,-,-⟩:=box7_ HE_w3.out
 go_simp
 refine hK.out _ _ ⟨a0,a1,a2,a3,a4,a5,a6,E0,E1,E2,E3,E4,E5,E6⟩ (fun hHeld => ?_)
 clear hK K
 refine tk_ ?_
 refine Sq.done (NoPanic.normal ?_)
 obtain ⟨x,hx⟩ : ∃ x,hAt b.hs e.Key = x:=⟨_,rfl⟩
 rw [hx]
 have HX0:=hd_ hx
 clear hx
 by_cases h0 : x < 0
 ·
  go_wp2_with fail
  refine (i_fail _ _ B X b [] 0 A1 A2 A3 A4 p1 p2 p3 p4 true 15 HW_w3.out).mono ?_
  rintro e' w4 ⟨rfl,hh,ho⟩
  have HW_w4:=hd_ (HW_w3.out.trans hh)
  have HE_w4:=hd_ (ho _ _ HXE.out HE_w3.out)
  clear hh ho
  clear a0 a1 a2 a3 a4 a5 a6 a7 af az E0 E1 E2 E3 E4 E5 E6
  obtain ⟨a0,a1,a2,a3,a4,a5,a6,a7,af,az⟩:=HW_w4.out.open_
  obtain ⟨E0,E1,E2,E3,E4,E5,E6,-,-⟩:=box7_ HE_w4.out
  have HZ9 : failF 0 true 15 = 15:=rfl
  rw [HZ9] at HW_w4
  have HO : Hid (settleS b e.Key (e.Kind == 6) = bad 15):=hd_ (zhs (zgj (by rw [HX0.out];exact h0)))
  clear HZ9
  go_wp2_with fail
  go_end0
  rw [HO.out]
  exact Acts.no (by decide) ⟨_,_,_,_,_,_,_,_,rfl,HW_w4.out⟩
 ·
  obtain ⟨i,hi⟩:=Int.eq_ofNat_of_zero_le (show 0 ≤ x by omega)
  subst hi
  obtain ⟨hlt,hkey⟩:=zhy HX0.out
  obtain ⟨hO1,hO2⟩:=zmm HF0.out HX0.out hlt
  obtain ⟨⟨mi,mo⟩,⟨m1,m2⟩,m3,m4⟩:=zhl HF0.out (List.getElem_mem hlt)
  obtain ⟨gh,hA,hBg⟩:=HW_w3.out.o.h.headW (by rw [List.length_map];omega)
  subst hA
  clear h0
  have ix0 : (0 : Int) ≤ (i : Int):=by omega
  have ix1 : (i : Int) < (b.hs.length : Int):=by omega
  obtain ⟨h,hc⟩ : ∃ h,b.hs[i] = h:=⟨_,rfl⟩
  have hr : (b.hs.map Htlc.cells)[i]? = some h.cells:=by rw [List.getElem?_map,List.getElem?_eq_getElem hlt,hc];rfl
  have HRow:=hd_ hr
  rw [hc] at hkey hO1 mi mo m1 m2 m3 m4
  have HCI:=hd_ hc
  clear hr hc
  obtain ⟨f0,f1,f2,f3,f4,f5,f6⟩:=h
  have rc:=fun j hj => HW_w3.out.o.h.cellAt HRow.out (j:=j) hj
  have r0:=rc 0 (by decide)
  have r1:=rc 1 (by decide)
  have r2:=rc 2 (by decide)
  have r3:=rc 3 (by decide)
  have r4:=rc 4 (by decide)
  have r5:=rc 5 (by decide)
  have r6:=rc 6 (by decide)
  clear rc
  simp only [Htlc.cells,List.getElem?_cons_zero,List.getElem?_cons_succ,Nat.add_zero] at r0 r1 r2 r3 r4 r5 r6
  go_upto_region 5 with fail
  clear r0 r1 r2 r3 r4 r5 r6
  refine nm_ ?_
  intro w4 hw
  obtain ⟨HB,hHB⟩ : ∃ v,v = w3.heap.size:=⟨_,rfl⟩
  try rw [← hHB]
  have HW_w4 : Hid (Wk 136 w w4 B X b [] 0 A1 (some ⟨gh,0,none⟩) A3 A4 p1 p2 p3 p4):=hd_ (by rw [hw];exact HW_w3.out.alloc _)
  have HE_w4 : Hid (Hx w4 EB (evC e) 64):=hd_ (by rw [hw];exact zqg (gz_ HE_w3.out).1 HE_w3.out)
  clear a0 a1 a2 a3 a4 a5 a6 a7 af az E0 E1 E2 E3 E4 E5 E6
  have HH_w4 : Hid (Hx w4 HB #[.int .i64 f0,.int .i64 f1,.int .i64 f2,.int .i64 f3,.int .i64 f4,.bool f5,.int .i64 f6] 70):=hd_ (by rw [hw,hHB];exact zqm rfl)
  have HXH : Hid (HB ≠ X):=hd_ (by have:=HW_w3.out.lt;omega)
  clear hw hHB
  obtain ⟨a0,a1,a2,a3,a4,a5,a6,a7,af,az⟩:=HW_w4.out.open_
  obtain ⟨E0,E1,E2,E3,E4,E5,E6,-,-⟩:=box7_ HE_w4.out
  obtain ⟨H0,H1,H2,H3,H4,H5,H6,-,-⟩:=box7_ HH_w4.out
  have cp0 : b.hs.length ≤ p2:=by obtain ⟨_,_,e9,_,h9,_⟩:=HW_w4.out.o.h.form;injection e9 with _ _ e9;rw [e9];simpa using h9
  have cp1 : i ≤ p2:=by omega
  have cp2 : i + 1 ≤ p2:=by omega
  have wi : IntKind.i64.wrap ((i : Int) + 1) = (i : Int) + 1:=IntWalk.i64_in _ ⟨by omega,by omega⟩
  obtain ⟨AT,hAT⟩ : ∃ v : Option Addr,tailA (some ⟨gh,0,none⟩) p2 (i + 1) 7 = v:=⟨_,rfl⟩
  have SL:=fun W : World => zsh (P:=Tryz.prog) (t:=36) (size:=7) (n:=b.hs.length) (cap:=p2) (k:=i + 1) (A:=(some ⟨gh,0,none⟩)) (x:=(i : Int) + 1) (by kernel_rfl) ztk (by omega) (by omega) W
  rw [hAT] at SL
  have HRT:=hd_ (HW_w4.out.o.h.rd.from_ (cap:=p2) (by rw [List.length_map];exact cp0) (i + 1))
  rw [hAT] at HRT
  have HRH:=hd_ (HW_w4.out.o.h.rd.take i)
  clear hAT
  refine zxb (fun w' => kqiiissss w' X b.t b.n b.w A1 b.cs.length p1 (some ⟨gh,0,none⟩) b.hs.length p2 A3 b.os.length p3 A4 ([].length) p4 (kqE w' EB e (kqiiiiibi_ w' HB f0 f1 f2 f3 f4 f5 f6))) [yF 0 27,yF 1 28,yF 2 29,yF 3 30,yF 4 31,yF 5 32,yF 6 33,yF 7 34,yF 9 36,yF 10 37,yF 11 38,yF 12 39,yF 13 40,yF 14 41,yF 15 42,yF 16 43,yT 8 35,yT 17 44,yF 18 45,yF 19 46,yF 20 47] rfl (by kernel_rfl) (by kernel_rfl) (by kernel_rfl) (by kernel_rfl) (by kernel_rfl) (by kernel_rfl) ⟨a0,a1,a2,a3,a4,a5,a6,E0,E1,E2,E3,E4,E5,E6,H0,H1,H2,H3,H4,H5,H6⟩ (fun hHeld => ?_)
  obtain ⟨w5,hwd⟩ : ∃ wd,w4.drew = wd:=⟨_,rfl⟩
  have HW_w5 : Hid (Wk 136 w w5 B X b [] 0 A1 (some ⟨gh,0,none⟩) A3 A4 p1 p2 p3 p4):=hd_ (by rw [← hwd];exact HW_w4.out.drew)
  have HE_w5 : Hid (Hx w5 EB (evC e) 64):=hd_ (by rw [← hwd];exact zqk HE_w4.out)
  have HH_w5 : Hid (Hx w5 HB #[.int .i64 f0,.int .i64 f1,.int .i64 f2,.int .i64 f3,.int .i64 f4,.bool f5,.int .i64 f6] 70):=hd_ (by rw [← hwd];exact zqk HH_w4.out)
  clear a0 a1 a2 a3 a4 a5 a6 a7 af az E0 E1 E2 E3 E4 E5 E6 H0 H1 H2 H3 H4 H5 H6
  rw [hwd] at hHeld ⊢
  clear hwd
  obtain ⟨a0,a1,a2,a3,a4,a5,a6,a7,af,az⟩:=HW_w5.out.open_
  obtain ⟨E0,E1,E2,E3,E4,E5,E6,-,-⟩:=box7_ HE_w5.out
  obtain ⟨H0,H1,H2,H3,H4,H5,H6,-,-⟩:=box7_ HH_w5.out
  refine tk_ ?_
  skip
  have hT1:=HW_w5.out.o.h.rd.from_ (cap:=p2) (by rw [List.length_map];exact cp0) (i + 1)
  have HRT1 : Hid (Rd w5 w5.heap.size 7 AT ((b.hs.map Htlc.cells).drop (i + 1))):=hd_ (by have hx:=SL w5;rw [zsh (P:=Tryz.prog) (t:=36) (size:=7) (k:=i + 1) (by kernel_rfl) ztk (by omega) (by omega)] at hx;injection hx with hx;injection hx with hx;rw [← hx];exact hT1)
  clear hT1
  refine Sq.step rfl (by rfl) (fun K hK => ?_)
  refine zyb (ops:=#[]) (E:=True) rfl (zto rfl _ _ _ rfl w5.heap.size 70 i0 _ 7 56 Tryz.underlying36 HI0.out HI1.out HI2.out HI3.out rfl (by decide) (none) (0) ([]) (0) (rfl) (by rfl) (Ow.nil_) ((some ⟨gh,0,none⟩)) (p2) ((b.hs.map Htlc.cells).take i) (i) (by rw [List.length_take,List.length_map];omega) (by rfl) w5.heap.size (HW_w5.out.o.h.rd.take i) (by intro u hu;exact zvh b.hs u (by obtain ⟨r9,h9,h8⟩:=List.mem_flatten.1 hu;exact List.mem_flatten.2 ⟨r9,List.mem_of_mem_take h9,h8⟩)) (by simp only [List.length_take,List.length_map,List.length_nil];omega) (by decide) (Nat.le_refl _) ?_)
  intro A5 cap5 x5 how5 hb5 hgr5
  rw [Nat.zero_add,List.nil_append] at how5
  rw [Nat.zero_add]
  have HW_x5:=hd_ (HW_w5.out.below hb5)
  have HE_x5:=hd_ (zqe hb5 (gz_ HE_w5.out).1 HE_w5.out)
  have HH_x5:=hd_ (zqe hb5 (gz_ HH_w5.out).1 HH_w5.out)
  clear a0 a1 a2 a3 a4 a5 a6 a7 af az E0 E1 E2 E3 E4 E5 E6 H0 H1 H2 H3 H4 H5 H6
  obtain ⟨a0,a1,a2,a3,a4,a5,a6,a7,af,az⟩:=HW_x5.out.open_
  obtain ⟨E0,E1,E2,E3,E4,E5,E6,-,-⟩:=box7_ HE_x5.out
  obtain ⟨H0,H1,H2,H3,H4,H5,H6,-,-⟩:=box7_ HH_x5.out
  go_simp
  refine hK.out _ _ ⟨a0,a1,a2,a3,a4,a5,a6,E0,E1,E2,E3,E4,E5,E6,H0,H1,H2,H3,H4,H5,H6⟩ (fun hHeld => ?_)
  clear hK K
  refine tk_ ?_
  refine Sq.step rfl (by rfl) (fun K hK => ?_)
  refine zyb (ops:=#[]) (E:=True) rfl (zto rfl _ _ _ rfl w5.heap.size 70 i0 _ 7 56 Tryz.underlying36 HI0.out HI1.out HI2.out HI3.out rfl (by decide) (A5) (cap5) ((b.hs.map Htlc.cells).take i) (i) (by rw [List.length_take,List.length_map];omega) (by rfl) (how5) (AT) (p2 - (i + 1)) ((b.hs.map Htlc.cells).drop (i + 1)) (b.hs.length - (i + 1)) (by rw [List.length_drop,List.length_map]) (by rfl) x5.heap.size (HRT1.out.below hb5 |>.more hb5.size) (by intro u hu;exact zvh b.hs u (by obtain ⟨r9,h9,h8⟩:=List.mem_flatten.1 hu;exact List.mem_flatten.2 ⟨r9,List.mem_of_mem_drop h9,h8⟩)) (by simp only [List.length_take,List.length_drop,List.length_map];omega) (by decide) (hb5.size) ?_)
  intro A6 cap6 x6 how6 hb6 hgr6
  obtain ⟨l9,hl9⟩ : ∃ l9,l9 = b.hs.eraseIdx i:=⟨_,rfl⟩
  have hl8 : i + (b.hs.length - (i + 1)) = l9.length:=by rw [hl9,List.length_eraseIdx];split <;> omega
  rw [hl8] at how6 ⊢
  have HOE : Hid (Ow x6 B 70 7 (.slice A6 l9.length cap6) (l9.map Htlc.cells)):=hd_ (by have h9:=how6.more (B':=B) HW_w5.out.ble;rw [zhe] at h9;rw [hl9,zgu];rw [hl9] at h9;exact h9)
  have HLE:=hd_ hl9
  clear hl8
  skip
  clear a0 a1 a2 a3 a4 a5 a6 a7 af az E0 E1 E2 E3 E4 E5 E6 H0 H1 H2 H3 H4 H5 H6
  have hb16:=hb5.trans hb6
  have HW_x6:=hd_ (HW_w5.out.below hb16)
  have HE_x6:=hd_ (zqe hb16 (gz_ HE_w5.out).1 HE_w5.out)
  have HH_x6:=hd_ (zqe hb16 (gz_ HH_w5.out).1 HH_w5.out)
  obtain ⟨a0,a1,a2,a3,a4,a5,a6,a7,af,az⟩:=HW_x6.out.open_
  obtain ⟨E0,E1,E2,E3,E4,E5,E6,-,-⟩:=box7_ HE_x6.out
  obtain ⟨H0,H1,H2,H3,H4,H5,H6,-,-⟩:=box7_ HH_x6.out
  clear how5 how6 hgr5 hgr6 hb5 hb6 hb16 hl9
  go_simp
  refine hK.out _ _ ⟨a0,a1,a2,a3,a4,a5,a6,E0,E1,E2,E3,E4,E5,E6,H0,H1,H2,H3,H4,H5,H6⟩ (fun hHeld => ?_)
  clear hK K
  refine tk_ ?_
  refine Sq.done ?_
  intro KK hKK
  go_simp
  refine hKK _ _ (NoPanic.normal ?_)
  refine nm_ ?_
  intro w6 hw
  have HW_w6 : Hid (Wk 136 w w6 B X ⟨b.t,b.n,b.w,b.cs,l9,b.os⟩ [] 0 A1 A6 A3 A4 p1 cap6 p3 p4):=hd_ (by rw [hw];exact HW_x6.out.setH (by decide) (by decide) (by decide) (by decide) HOE.out)
  have HE_w6 : Hid (Hx w6 EB (evC e) 64):=hd_ (by rw [hw];exact zqb HXE.out HE_x6.out)
  have HH_w6 : Hid (Hx w6 HB #[.int .i64 f0,.int .i64 f1,.int .i64 f2,.int .i64 f3,.int .i64 f4,.bool f5,.int .i64 f6] 70):=hd_ (by rw [hw];exact zqb HXH.out HH_x6.out)
  clear hw
  clear a0 a1 a2 a3 a4 a5 a6 a7 af az E0 E1 E2 E3 E4 E5 E6 H0 H1 H2 H3 H4 H5 H6
  obtain ⟨a0,a1,a2,a3,a4,a5,a6,a7,af,az⟩:=HW_w6.out.open_
  obtain ⟨E0,E1,E2,E3,E4,E5,E6,-,-⟩:=box7_ HE_w6.out
  obtain ⟨H0,H1,H2,H3,H4,H5,H6,-,-⟩:=box7_ HH_w6.out
  have HHS:=hd_ (HLE.out.trans hO2.symm)
  clear hO2
  obtain ⟨u,hu⟩:=Int.eq_ofNat_of_zero_le mi
  obtain ⟨v,hv⟩:=Int.eq_ofNat_of_zero_le mo
  have hlu:=zxv hu
  have hlv:=zxv hv
  have HU:=hd_ hu
  have HV:=hd_ hv
  have Hmi:=hd_ mi
  have Hmo:=hd_ mo
  clear hu hv mi mo
  obtain ⟨g,hA,hBg⟩:=HW_w6.out.o.c.headW (by rw [List.length_map];(try simp only);omega)
  subst hA
  clear a0 a1 a2 a3 a4 a5 a6 a7 af az E0 E1 E2 E3 E4 E5 E6 H0 H1 H2 H3 H4 H5 H6
  obtain ⟨a0,a1,a2,a3,a4,a5,a6,a7,af,az⟩:=HW_w6.out.open_
  obtain ⟨E0,E1,E2,E3,E4,E5,E6,-,-⟩:=box7_ HE_w6.out
  obtain ⟨H0,H1,H2,H3,H4,H5,H6,-,-⟩:=box7_ HH_w6.out
  go_wp2_with fail
  have hix9 : 0 ≤ chanIx (⟨b.t,b.n,b.w,b.cs,l9,b.os⟩ : Bk).cs f1:=Hmi.out
  have hd9 : failF 0 (decide (chanIx (⟨b.t,b.n,b.w,b.cs,l9,b.os⟩ : Bk).cs f1 < 0)) 6 = 0:=by rw [decide_eq_false (by omega : ¬ chanIx (⟨b.t,b.n,b.w,b.cs,l9,b.os⟩ : Bk).cs f1 < 0)];exact zwc
  refine (i_ch _ _ B X ⟨b.t,b.n,b.w,b.cs,l9,b.os⟩ [] 0 (some ⟨g,0,none⟩) A6 A3 A4 p1 cap6 p3 p4 f1 (by (try simp only);omega) HW_w6.out).mono ?_
  rintro e' w7 ⟨g9,o9,c9,rfl,-,-,hh,ho,hf⟩
  obtain ⟨hA9,ho9,-⟩:=hf hix9
  injection hA9 with hA9
  injection hA9 with hA9
  subst hA9
  have ho8 : o9 = u * 7:=by rw [ho9,show chanIx (⟨b.t,b.n,b.w,b.cs,l9,b.os⟩ : Bk).cs f1 = (u : Int) from HU.out];rfl
  subst ho8
  rw [hd9] at hh
  have HW_w7:=hd_ (HW_w6.out.trans hh)
  have HE_w7:=hd_ (ho _ _ HXE.out HE_w6.out)
  have HH_w7:=hd_ (ho _ _ HXH.out HH_w6.out)
  clear hh ho hf ho9 hix9 hd9
  clear a0 a1 a2 a3 a4 a5 a6 a7 af az E0 E1 E2 E3 E4 E5 E6 H0 H1 H2 H3 H4 H5 H6
  obtain ⟨a0,a1,a2,a3,a4,a5,a6,a7,af,az⟩:=HW_w7.out.open_
  obtain ⟨E0,E1,E2,E3,E4,E5,E6,-,-⟩:=box7_ HE_w7.out
  obtain ⟨H0,H1,H2,H3,H4,H5,H6,-,-⟩:=box7_ HH_w7.out
  go_wp2_with fail
  have hix9 : 0 ≤ chanIx (⟨b.t,b.n,b.w,b.cs,l9,b.os⟩ : Bk).cs f2:=Hmo.out
  have hd9 : failF 0 (decide (chanIx (⟨b.t,b.n,b.w,b.cs,l9,b.os⟩ : Bk).cs f2 < 0)) 6 = 0:=by rw [decide_eq_false (by omega : ¬ chanIx (⟨b.t,b.n,b.w,b.cs,l9,b.os⟩ : Bk).cs f2 < 0)];exact zwc
  refine (i_ch _ _ B X ⟨b.t,b.n,b.w,b.cs,l9,b.os⟩ [] 0 (some ⟨g,0,none⟩) A6 A3 A4 p1 cap6 p3 p4 f2 (by (try simp only);omega) HW_w7.out).mono ?_
  rintro e' w8 ⟨g9,o9,c9,rfl,-,-,hh,ho,hf⟩
  obtain ⟨hA9,ho9,-⟩:=hf hix9
  injection hA9 with hA9
  injection hA9 with hA9
  subst hA9
  have ho8 : o9 = v * 7:=by rw [ho9,show chanIx (⟨b.t,b.n,b.w,b.cs,l9,b.os⟩ : Bk).cs f2 = (v : Int) from HV.out];rfl
  subst ho8
  rw [hd9] at hh
  have HW_w8:=hd_ (HW_w7.out.trans hh)
  have HE_w8:=hd_ (ho _ _ HXE.out HE_w7.out)
  have HH_w8:=hd_ (ho _ _ HXH.out HH_w7.out)
  clear hh ho hf ho9 hix9 hd9
  clear a0 a1 a2 a3 a4 a5 a6 a7 af az E0 E1 E2 E3 E4 E5 E6 H0 H1 H2 H3 H4 H5 H6
  obtain ⟨a0,a1,a2,a3,a4,a5,a6,a7,af,az⟩:=HW_w8.out.open_
  obtain ⟨E0,E1,E2,E3,E4,E5,E6,-,-⟩:=box7_ HE_w8.out
  obtain ⟨H0,H1,H2,H3,H4,H5,H6,-,-⟩:=box7_ HH_w8.out
  cases t6 : (e.Kind == 6)
  ·
   have HT6:=hd_ t6
   obtain ⟨c,hc⟩ : ∃ c,b.cs[u]'hlu = c:=⟨_,rfl⟩
   have hr : (b.cs.map Chan.cells)[u]? = some c.cells:=by rw [List.getElem?_map,List.getElem?_eq_getElem hlu,hc];rfl
   obtain ⟨y0,y1,y2,y3,y4,y5,y6⟩:=c
   have HRowy:=hd_ hr
   have HCIy:=hd_ hc
   clear hr hc
   have hb1:=HBD.out _ (List.getElem_mem hlu)
   rw [HCIy.out] at hb1
   simp only at hb1
   have ws : IntKind.i64.wrap (y3 + f3) = y3 + f3:=IntWalk.i64_in _ ⟨by omega,by omega⟩
   go_wp2_with fail
   have yc:=HW_w8.out.o.c.cellAt HRowy.out (j:=3) (by decide)
   simp only [Chan.cells,List.getElem?_cons_zero,List.getElem?_cons_succ] at yc
   refine zxb (fun w' => kqiiissss w' X b.t b.n b.w (some ⟨g,0,none⟩) b.cs.length p1 A6 l9.length cap6 A3 b.os.length p3 A4 ([].length) p4 (kqE w' EB e (kqiiiiibi w' HB f0 f1 f2 f3 f4 f5 f6 (kqio_ w' g (u * 7 + 3) y3)))) [yF 0 98,yF 1 99,yF 2 100,yF 3 101,yF 4 102,yF 5 103,yF 6 104,yF 7 105,yF 8 106] rfl (by kernel_rfl) (by kernel_rfl) (by kernel_rfl) (by kernel_rfl) (by kernel_rfl) (by kernel_rfl) ⟨a0,a1,a2,a3,a4,a5,a6,E0,E1,E2,E3,E4,E5,E6,H0,H1,H2,H3,H4,H5,H6,yc⟩ (fun hHeld => ?_)
   obtain ⟨w9,hwd⟩ : ∃ wd,w8.drew = wd:=⟨_,rfl⟩
   have HW_w9 : Hid (Wk 136 w w9 B X ⟨b.t,b.n,b.w,b.cs,l9,b.os⟩ [] 0 (some ⟨g,0,none⟩) A6 A3 A4 p1 cap6 p3 p4):=hd_ (by rw [← hwd];exact HW_w8.out.drew)
   have HE_w9 : Hid (Hx w9 EB (evC e) 64):=hd_ (by rw [← hwd];exact zqk HE_w8.out)
   have HH_w9 : Hid (Hx w9 HB #[.int .i64 f0,.int .i64 f1,.int .i64 f2,.int .i64 f3,.int .i64 f4,.bool f5,.int .i64 f6] 70):=hd_ (by rw [← hwd];exact zqk HH_w8.out)
   clear a0 a1 a2 a3 a4 a5 a6 a7 af az E0 E1 E2 E3 E4 E5 E6 H0 H1 H2 H3 H4 H5 H6
   rw [hwd] at hHeld ⊢
   clear hwd
   obtain ⟨a0,a1,a2,a3,a4,a5,a6,a7,af,az⟩:=HW_w9.out.open_
   obtain ⟨E0,E1,E2,E3,E4,E5,E6,-,-⟩:=box7_ HE_w9.out
   obtain ⟨H0,H1,H2,H3,H4,H5,H6,-,-⟩:=box7_ HH_w9.out
   refine tk_ ?_
   clear yc
   have yc:=HW_w9.out.o.c.cellAt HRowy.out (j:=3) (by decide)
   simp only [Chan.cells,List.getElem?_cons_zero,List.getElem?_cons_succ] at yc
   have yf:=fun j => HW_w9.out.o.c.frozenAt j
   refine Sq.done ?_
   intro KK hKK
   go_simp
   refine hKK _ _ (NoPanic.normal ?_)
   clear yc yf
   refine nm_ ?_
   intro w10 hw
   have HW_w10 : Hid (Wk 136 w w10 B X ⟨b.t,b.n,b.w,(b.cs.set u ⟨y0,y1,y2,(y3 + f3),y4,y5,y6⟩),l9,b.os⟩ [] 0 (some ⟨g,0,none⟩) A6 A3 A4 p1 cap6 p3 p4):=hd_ (by rw [hw];exact HW_w9.out.putCell (c':=⟨y0,y1,y2,(y3 + f3),y4,y5,y6⟩) (by decide) hlu (by decide) (by rw [HCIy.out];rfl))
   have HE_w10 : Hid (Hx w10 EB (evC e) 64):=hd_ (by rw [hw];exact zqb (fun e9 => HW_w9.out.o.c.ne_ HE_w9.out (by decide) (by rw [e9];rfl)) HE_w9.out)
   have HH_w10 : Hid (Hx w10 HB #[.int .i64 f0,.int .i64 f1,.int .i64 f2,.int .i64 f3,.int .i64 f4,.bool f5,.int .i64 f6] 70):=hd_ (by rw [hw];exact zqb (fun e9 => HW_w9.out.o.c.ne_ HH_w9.out (by decide) (by rw [e9];rfl)) HH_w9.out)
   clear hw
   clear a0 a1 a2 a3 a4 a5 a6 a7 af az E0 E1 E2 E3 E4 E5 E6 H0 H1 H2 H3 H4 H5 H6
   obtain ⟨a0,a1,a2,a3,a4,a5,a6,a7,af,az⟩:=HW_w10.out.open_
   obtain ⟨E0,E1,E2,E3,E4,E5,E6,-,-⟩:=box7_ HE_w10.out
   obtain ⟨H0,H1,H2,H3,H4,H5,H6,-,-⟩:=box7_ HH_w10.out
   obtain ⟨cs1,hc3⟩ : ∃ v9,(b.cs.set u ⟨y0,y1,y2,(y3 + f3),y4,y5,y6⟩) = v9:=⟨_,rfl⟩
   rw [hc3] at HW_w10
   have Hcs1:=hd_ hc3
   clear hc3
   clear a0 a1 a2 a3 a4 a5 a6 a7 af az E0 E1 E2 E3 E4 E5 E6 H0 H1 H2 H3 H4 H5 H6
   obtain ⟨a0,a1,a2,a3,a4,a5,a6,a7,af,az⟩:=HW_w10.out.open_
   obtain ⟨E0,E1,E2,E3,E4,E5,E6,-,-⟩:=box7_ HE_w10.out
   obtain ⟨H0,H1,H2,H3,H4,H5,H6,-,-⟩:=box7_ HH_w10.out
   clear ws
   have HM1 : Hid (moveC b.cs f1 0 f3 = cs1):=hd_ (by rw [← Hcs1.out];exact zgw HU.out hlu HCIy.out)
   have hix1 : ∀ ch,chanIx cs1 ch = chanIx b.cs ch:=by rw [← HM1.out];exact fun ch => zxs _ _ _ _ ch
   have hl1 : cs1.length = b.cs.length:=by rw [← HM1.out];exact zxj _ _ _ _
   have HBD1 : Hid (Bd (1125899906842624 + 1125899906842624) cs1):=hd_ (by rw [← HM1.out];exact HBD.out.move _ _ _ (by omega) (by omega))
   have hlv1 : v < cs1.length:=by omega
   have hlu1 : u < cs1.length:=by omega
   have HIX1:=hd_ hix1
   clear hix1
   obtain ⟨c,hc⟩ : ∃ c,cs1[v]'hlv1 = c:=⟨_,rfl⟩
   have hr : (cs1.map Chan.cells)[v]? = some c.cells:=by rw [List.getElem?_map,List.getElem?_eq_getElem hlv1,hc];rfl
   obtain ⟨z0,z1,z2,z3,z4,z5,z6⟩:=c
   have HRowz:=hd_ hr
   have HCIz:=hd_ hc
   clear hr hc
   have hb2:=HBD1.out _ (List.getElem_mem hlv1)
   rw [HCIz.out] at hb2
   simp only at hb2
   have ws : IntKind.i64.wrap (z2 + f4) = z2 + f4:=IntWalk.i64_in _ ⟨by omega,by omega⟩
   go_wp2_with fail
   have yc:=HW_w10.out.o.c.cellAt HRowz.out (j:=2) (by decide)
   simp only [Chan.cells,List.getElem?_cons_zero,List.getElem?_cons_succ] at yc
   refine zxb (fun w' => kqiiissss w' X b.t b.n b.w (some ⟨g,0,none⟩) cs1.length p1 A6 l9.length cap6 A3 b.os.length p3 A4 ([].length) p4 (kqE w' EB e (kqiiiiibi w' HB f0 f1 f2 f3 f4 f5 f6 (kqio_ w' g (v * 7 + 2) z2)))) [yF 0 107,yF 1 108,yF 2 109,yF 3 110,yF 4 111,yF 5 112,yF 6 113,yF 7 114,yF 8 115] rfl (by kernel_rfl) (by kernel_rfl) (by kernel_rfl) (by kernel_rfl) (by kernel_rfl) (by kernel_rfl) ⟨a0,a1,a2,a3,a4,a5,a6,E0,E1,E2,E3,E4,E5,E6,H0,H1,H2,H3,H4,H5,H6,yc⟩ (fun hHeld => ?_)
   obtain ⟨w11,hwd⟩ : ∃ wd,w10.drew = wd:=⟨_,rfl⟩
   have HW_w11 : Hid (Wk 136 w w11 B X ⟨b.t,b.n,b.w,cs1,l9,b.os⟩ [] 0 (some ⟨g,0,none⟩) A6 A3 A4 p1 cap6 p3 p4):=hd_ (by rw [← hwd];exact HW_w10.out.drew)
   have HE_w11 : Hid (Hx w11 EB (evC e) 64):=hd_ (by rw [← hwd];exact zqk HE_w10.out)
   have HH_w11 : Hid (Hx w11 HB #[.int .i64 f0,.int .i64 f1,.int .i64 f2,.int .i64 f3,.int .i64 f4,.bool f5,.int .i64 f6] 70):=hd_ (by rw [← hwd];exact zqk HH_w10.out)
   clear a0 a1 a2 a3 a4 a5 a6 a7 af az E0 E1 E2 E3 E4 E5 E6 H0 H1 H2 H3 H4 H5 H6
   rw [hwd] at hHeld ⊢
   clear hwd
   obtain ⟨a0,a1,a2,a3,a4,a5,a6,a7,af,az⟩:=HW_w11.out.open_
   obtain ⟨E0,E1,E2,E3,E4,E5,E6,-,-⟩:=box7_ HE_w11.out
   obtain ⟨H0,H1,H2,H3,H4,H5,H6,-,-⟩:=box7_ HH_w11.out
   refine tk_ ?_
   clear yc
   have yc:=HW_w11.out.o.c.cellAt HRowz.out (j:=2) (by decide)
   simp only [Chan.cells,List.getElem?_cons_zero,List.getElem?_cons_succ] at yc
   have yf:=fun j => HW_w11.out.o.c.frozenAt j
   refine Sq.done ?_
   intro KK hKK
   go_simp
   refine hKK _ _ (NoPanic.normal ?_)
   clear yc yf
   refine nm_ ?_
   intro w12 hw
   have HW_w12 : Hid (Wk 136 w w12 B X ⟨b.t,b.n,b.w,(cs1.set v ⟨z0,z1,(z2 + f4),z3,z4,z5,z6⟩),l9,b.os⟩ [] 0 (some ⟨g,0,none⟩) A6 A3 A4 p1 cap6 p3 p4):=hd_ (by rw [hw];exact HW_w11.out.putCell (c':=⟨z0,z1,(z2 + f4),z3,z4,z5,z6⟩) (by decide) hlv1 (by decide) (by rw [HCIz.out];rfl))
   have HE_w12 : Hid (Hx w12 EB (evC e) 64):=hd_ (by rw [hw];exact zqb (fun e9 => HW_w11.out.o.c.ne_ HE_w11.out (by decide) (by rw [e9];rfl)) HE_w11.out)
   have HH_w12 : Hid (Hx w12 HB #[.int .i64 f0,.int .i64 f1,.int .i64 f2,.int .i64 f3,.int .i64 f4,.bool f5,.int .i64 f6] 70):=hd_ (by rw [hw];exact zqb (fun e9 => HW_w11.out.o.c.ne_ HH_w11.out (by decide) (by rw [e9];rfl)) HH_w11.out)
   clear hw
   clear a0 a1 a2 a3 a4 a5 a6 a7 af az E0 E1 E2 E3 E4 E5 E6 H0 H1 H2 H3 H4 H5 H6
   obtain ⟨a0,a1,a2,a3,a4,a5,a6,a7,af,az⟩:=HW_w12.out.open_
   obtain ⟨E0,E1,E2,E3,E4,E5,E6,-,-⟩:=box7_ HE_w12.out
   obtain ⟨H0,H1,H2,H3,H4,H5,H6,-,-⟩:=box7_ HH_w12.out
   obtain ⟨cs2,hc3⟩ : ∃ v9,(cs1.set v ⟨z0,z1,(z2 + f4),z3,z4,z5,z6⟩) = v9:=⟨_,rfl⟩
   rw [hc3] at HW_w12
   have Hcs2:=hd_ hc3
   clear hc3
   clear a0 a1 a2 a3 a4 a5 a6 a7 af az E0 E1 E2 E3 E4 E5 E6 H0 H1 H2 H3 H4 H5 H6
   obtain ⟨a0,a1,a2,a3,a4,a5,a6,a7,af,az⟩:=HW_w12.out.open_
   obtain ⟨E0,E1,E2,E3,E4,E5,E6,-,-⟩:=box7_ HE_w12.out
   obtain ⟨H0,H1,H2,H3,H4,H5,H6,-,-⟩:=box7_ HH_w12.out
   clear ws
   have HM2 : Hid (moveC cs1 f2 f4 0 = cs2):=hd_ (by rw [← Hcs2.out];exact zgv (by rw [HIX1.out];exact HV.out) hlv1 HCIz.out)
   have hl2 : cs2.length = cs1.length:=by rw [← HM2.out];exact zxj _ _ _ _
   have hlu2 : u < cs2.length:=by omega
   have HIX2 : Hid (chanIx cs2 f1 = (u : Int)):=hd_ (by rw [← HM2.out,zxs,HIX1.out];exact HU.out)
   obtain ⟨c,hc⟩ : ∃ c,cs2[u]'hlu2 = c:=⟨_,rfl⟩
   have hr : (cs2.map Chan.cells)[u]? = some c.cells:=by rw [List.getElem?_map,List.getElem?_eq_getElem hlu2,hc];rfl
   obtain ⟨x0,x1,x2,x3,x4,x5,x6⟩:=c
   have HRowx:=hd_ hr
   have HCIx:=hd_ hc
   clear hr hc
   have yc:=HW_w12.out.o.c.cellAt HRowx.out (j:=6) (by decide)
   simp only [Chan.cells,List.getElem?_cons_zero,List.getElem?_cons_succ] at yc
   have yf:=fun j => HW_w12.out.o.c.frozenAt j
   go_wp2_with fail
   refine (ztu _ _).mono ?_
   rintro e' wz ⟨rfl,rfl⟩
   go_upto_region 17 with fail
   clear yc yf
   refine nm_ ?_
   intro w13 hw
   have HW_w13 : Hid (Wk 136 w w13 B X ⟨b.t,b.n,b.w,(cs2.set u ⟨x0,x1,x2,x3,x4,x5,(downF x6)⟩),l9,b.os⟩ [] 0 (some ⟨g,0,none⟩) A6 A3 A4 p1 cap6 p3 p4):=hd_ (by rw [hw];exact HW_w12.out.putCell (c':=⟨x0,x1,x2,x3,x4,x5,(downF x6)⟩) (by decide) hlu2 (by decide) (by rw [HCIx.out];rfl))
   have HE_w13 : Hid (Hx w13 EB (evC e) 64):=hd_ (by rw [hw];exact zqb (fun e9 => HW_w12.out.o.c.ne_ HE_w12.out (by decide) (by rw [e9];rfl)) HE_w12.out)
   have HH_w13 : Hid (Hx w13 HB #[.int .i64 f0,.int .i64 f1,.int .i64 f2,.int .i64 f3,.int .i64 f4,.bool f5,.int .i64 f6] 70):=hd_ (by rw [hw];exact zqb (fun e9 => HW_w12.out.o.c.ne_ HH_w12.out (by decide) (by rw [e9];rfl)) HH_w12.out)
   clear hw
   clear a0 a1 a2 a3 a4 a5 a6 a7 af az E0 E1 E2 E3 E4 E5 E6 H0 H1 H2 H3 H4 H5 H6
   obtain ⟨a0,a1,a2,a3,a4,a5,a6,a7,af,az⟩:=HW_w13.out.open_
   obtain ⟨E0,E1,E2,E3,E4,E5,E6,-,-⟩:=box7_ HE_w13.out
   obtain ⟨H0,H1,H2,H3,H4,H5,H6,-,-⟩:=box7_ HH_w13.out
   obtain ⟨cs3,hc3⟩ : ∃ v9,(cs2.set u ⟨x0,x1,x2,x3,x4,x5,(downF x6)⟩) = v9:=⟨_,rfl⟩
   rw [hc3] at HW_w13
   have Hcs3:=hd_ hc3
   clear hc3
   clear a0 a1 a2 a3 a4 a5 a6 a7 af az E0 E1 E2 E3 E4 E5 E6 H0 H1 H2 H3 H4 H5 H6
   obtain ⟨a0,a1,a2,a3,a4,a5,a6,a7,af,az⟩:=HW_w13.out.open_
   obtain ⟨E0,E1,E2,E3,E4,E5,E6,-,-⟩:=box7_ HE_w13.out
   obtain ⟨H0,H1,H2,H3,H4,H5,H6,-,-⟩:=box7_ HH_w13.out
   have HM3 : Hid (setCh cs2 f1 scoreDown = cs3):=hd_ (by rw [zko HIX2.out hlu2,HCIx.out];exact Hcs3.out)
   go_wp2_with fail
   refine (zyq _ _ B X ⟨b.t,b.n,b.w,cs3,l9,b.os⟩ [] 0 (some ⟨g,0,none⟩) A6 A3 A4 p1 cap6 p3 p4 6 f2 f4 (by decide) (by (try simp only);omega) (fun y hy => by cases hy) (fun y hy => by cases hy) HW_w13.out).mono ?_
   rintro e' w14 ⟨⟨Cw140,Cw141,Cw142,Cw143,rw140,rw141,rw142,rw143,rfl,hh⟩,ho⟩
   have HE_w14:=hd_ (ho _ _ HXE.out HE_w13.out)
   have HH_w14:=hd_ (ho _ _ HXH.out HH_w13.out)
   obtain ⟨M0,hL9⟩ : ∃ v,lineTo [] 6 f2 f4 = v:=⟨_,rfl⟩
   rw [hL9] at hh
   have HMl0:=hd_ hL9
   have HW_w14:=hd_ (HW_w13.out.trans hh)
   clear hh ho hL9
   clear a0 a1 a2 a3 a4 a5 a6 a7 af az E0 E1 E2 E3 E4 E5 E6 H0 H1 H2 H3 H4 H5 H6
   obtain ⟨a0,a1,a2,a3,a4,a5,a6,a7,af,az⟩:=HW_w14.out.open_
   obtain ⟨E0,E1,E2,E3,E4,E5,E6,-,-⟩:=box7_ HE_w14.out
   obtain ⟨H0,H1,H2,H3,H4,H5,H6,-,-⟩:=box7_ HH_w14.out
   have HLM0 : Hid (M0.length ≤ 1):=hd_ (by rw [← HMl0.out];have h9:=zxe [] (6) (f2) (f4);have h8 : ([] : List Line).length ≤ 0:=Nat.le_refl _;omega)
   have HQ0 : Hid (∀ y ∈ M0,y = ⟨6,f2,f4⟩):=hd_ (fun y hy => by rw [← HMl0.out] at hy;rcases zkj (fun y hy => by cases hy) hy with h9 | h9;cases h9;exact h9)
   go_wp2_with fail
   refine (zyq _ _ B X ⟨b.t,b.n,b.w,cs3,l9,b.os⟩ M0 0 Cw140 Cw141 Cw142 Cw143 rw140 rw141 rw142 rw143 8 f2 (-f4) (by have:=HLM0.out;omega) (by (try simp only);omega) (fun y hy => by rcases HQ0.out y hy with rfl <;> (simp only;omega)) (fun y hy => by rcases HQ0.out y hy with rfl <;> (simp only;omega)) HW_w14.out).mono ?_
   rintro e' w15 ⟨⟨Cw150,Cw151,Cw152,Cw153,rw150,rw151,rw152,rw153,rfl,hh⟩,ho⟩
   have HE_w15:=hd_ (ho _ _ HXE.out HE_w14.out)
   have HH_w15:=hd_ (ho _ _ HXH.out HH_w14.out)
   obtain ⟨M1,hL9⟩ : ∃ v,lineTo M0 8 f2 (-f4) = v:=⟨_,rfl⟩
   rw [hL9] at hh
   have HMl1:=hd_ hL9
   have HW_w15:=hd_ (HW_w14.out.trans hh)
   clear hh ho hL9
   clear a0 a1 a2 a3 a4 a5 a6 a7 af az E0 E1 E2 E3 E4 E5 E6 H0 H1 H2 H3 H4 H5 H6
   obtain ⟨a0,a1,a2,a3,a4,a5,a6,a7,af,az⟩:=HW_w15.out.open_
   obtain ⟨E0,E1,E2,E3,E4,E5,E6,-,-⟩:=box7_ HE_w15.out
   obtain ⟨H0,H1,H2,H3,H4,H5,H6,-,-⟩:=box7_ HH_w15.out
   have HLM1 : Hid (M1.length ≤ 2):=hd_ (by rw [← HMl1.out];have h9:=zxe M0 (8) (f2) ((-f4));have h8 : (M0).length ≤ 1:=HLM0.out;omega)
   have HQ1 : Hid (∀ y ∈ M1,y = ⟨6,f2,f4⟩ ∨ y = ⟨8,f2,(-f4)⟩):=hd_ (fun y hy => by rw [← HMl1.out] at hy;rcases zkj (fun y hy => by rcases HQ0.out y hy with rfl <;> (simp only;omega)) hy with h9 | h9;exact HQ0.out y h9 |> Or.inl;exact Or.inr h9)
   go_wp2_with fail
   go_end0
   rw [HT6.out,zvw hO1 (by (try simp only at hkey ⊢);omega)]
   have HZ : nz [⟨6,f2,f4⟩,⟨8,f2,(-f4)⟩] = M1:=by rw [← HMl1.out,← HMl0.out];exact (line2 (by decide)).symm
   dsimp only
   rw [HZ,← HHS.out,HM1.out,HM2.out,HM3.out]
   exact Acts.ok ⟨_,_,_,_,_,_,_,_,rfl,HW_w15.out⟩
  ·
   have HT6:=hd_ t6
   obtain ⟨c,hc⟩ : ∃ c,b.cs[u]'hlu = c:=⟨_,rfl⟩
   have hr : (b.cs.map Chan.cells)[u]? = some c.cells:=by rw [List.getElem?_map,List.getElem?_eq_getElem hlu,hc];rfl
   obtain ⟨y0,y1,y2,y3,y4,y5,y6⟩:=c
   have HRowy:=hd_ hr
   have HCIy:=hd_ hc
   clear hr hc
   have hb1:=HBD.out _ (List.getElem_mem hlu)
   rw [HCIy.out] at hb1
   simp only at hb1
   have ws : IntKind.i64.wrap (y2 + f3) = y2 + f3:=IntWalk.i64_in _ ⟨by omega,by omega⟩
   go_wp2_with fail
   have yc:=HW_w8.out.o.c.cellAt HRowy.out (j:=2) (by decide)
   simp only [Chan.cells,List.getElem?_cons_zero,List.getElem?_cons_succ] at yc
   refine zxb (fun w' => kqiiissss w' X b.t b.n b.w (some ⟨g,0,none⟩) b.cs.length p1 A6 l9.length cap6 A3 b.os.length p3 A4 ([].length) p4 (kqE w' EB e (kqiiiiibi w' HB f0 f1 f2 f3 f4 f5 f6 (kqio_ w' g (u * 7 + 2) y2)))) [yF 0 59,yF 1 60,yF 2 61,yF 3 62,yF 4 63,yF 5 64,yF 6 65,yF 7 66,yF 8 67] rfl (by kernel_rfl) (by kernel_rfl) (by kernel_rfl) (by kernel_rfl) (by kernel_rfl) (by kernel_rfl) ⟨a0,a1,a2,a3,a4,a5,a6,E0,E1,E2,E3,E4,E5,E6,H0,H1,H2,H3,H4,H5,H6,yc⟩ (fun hHeld => ?_)
   obtain ⟨w9,hwd⟩ : ∃ wd,w8.drew = wd:=⟨_,rfl⟩
   have HW_w9 : Hid (Wk 136 w w9 B X ⟨b.t,b.n,b.w,b.cs,l9,b.os⟩ [] 0 (some ⟨g,0,none⟩) A6 A3 A4 p1 cap6 p3 p4):=hd_ (by rw [← hwd];exact HW_w8.out.drew)
   have HE_w9 : Hid (Hx w9 EB (evC e) 64):=hd_ (by rw [← hwd];exact zqk HE_w8.out)
   have HH_w9 : Hid (Hx w9 HB #[.int .i64 f0,.int .i64 f1,.int .i64 f2,.int .i64 f3,.int .i64 f4,.bool f5,.int .i64 f6] 70):=hd_ (by rw [← hwd];exact zqk HH_w8.out)
   clear a0 a1 a2 a3 a4 a5 a6 a7 af az E0 E1 E2 E3 E4 E5 E6 H0 H1 H2 H3 H4 H5 H6
   rw [hwd] at hHeld ⊢
   clear hwd
   obtain ⟨a0,a1,a2,a3,a4,a5,a6,a7,af,az⟩:=HW_w9.out.open_
   obtain ⟨E0,E1,E2,E3,E4,E5,E6,-,-⟩:=box7_ HE_w9.out
   obtain ⟨H0,H1,H2,H3,H4,H5,H6,-,-⟩:=box7_ HH_w9.out
   refine tk_ ?_
   clear yc
   have yc:=HW_w9.out.o.c.cellAt HRowy.out (j:=2) (by decide)
   simp only [Chan.cells,List.getElem?_cons_zero,List.getElem?_cons_succ] at yc
   have yf:=fun j => HW_w9.out.o.c.frozenAt j
   refine Sq.done ?_
   intro KK hKK
   go_simp
   refine hKK _ _ (NoPanic.normal ?_)
   clear yc yf
   refine nm_ ?_
   intro w10 hw
   have HW_w10 : Hid (Wk 136 w w10 B X ⟨b.t,b.n,b.w,(b.cs.set u ⟨y0,y1,(y2 + f3),y3,y4,y5,y6⟩),l9,b.os⟩ [] 0 (some ⟨g,0,none⟩) A6 A3 A4 p1 cap6 p3 p4):=hd_ (by rw [hw];exact HW_w9.out.putCell (c':=⟨y0,y1,(y2 + f3),y3,y4,y5,y6⟩) (by decide) hlu (by decide) (by rw [HCIy.out];rfl))
   have HE_w10 : Hid (Hx w10 EB (evC e) 64):=hd_ (by rw [hw];exact zqb (fun e9 => HW_w9.out.o.c.ne_ HE_w9.out (by decide) (by rw [e9];rfl)) HE_w9.out)
   have HH_w10 : Hid (Hx w10 HB #[.int .i64 f0,.int .i64 f1,.int .i64 f2,.int .i64 f3,.int .i64 f4,.bool f5,.int .i64 f6] 70):=hd_ (by rw [hw];exact zqb (fun e9 => HW_w9.out.o.c.ne_ HH_w9.out (by decide) (by rw [e9];rfl)) HH_w9.out)
   clear hw
   clear a0 a1 a2 a3 a4 a5 a6 a7 af az E0 E1 E2 E3 E4 E5 E6 H0 H1 H2 H3 H4 H5 H6
   obtain ⟨a0,a1,a2,a3,a4,a5,a6,a7,af,az⟩:=HW_w10.out.open_
   obtain ⟨E0,E1,E2,E3,E4,E5,E6,-,-⟩:=box7_ HE_w10.out
   obtain ⟨H0,H1,H2,H3,H4,H5,H6,-,-⟩:=box7_ HH_w10.out
   obtain ⟨cs1,hc3⟩ : ∃ v9,(b.cs.set u ⟨y0,y1,(y2 + f3),y3,y4,y5,y6⟩) = v9:=⟨_,rfl⟩
   rw [hc3] at HW_w10
   have Hcs1:=hd_ hc3
   clear hc3
   clear a0 a1 a2 a3 a4 a5 a6 a7 af az E0 E1 E2 E3 E4 E5 E6 H0 H1 H2 H3 H4 H5 H6
   obtain ⟨a0,a1,a2,a3,a4,a5,a6,a7,af,az⟩:=HW_w10.out.open_
   obtain ⟨E0,E1,E2,E3,E4,E5,E6,-,-⟩:=box7_ HE_w10.out
   obtain ⟨H0,H1,H2,H3,H4,H5,H6,-,-⟩:=box7_ HH_w10.out
   clear ws
   have HM1 : Hid (moveC b.cs f1 f3 0 = cs1):=hd_ (by rw [← Hcs1.out];exact zgv HU.out hlu HCIy.out)
   have hix1 : ∀ ch,chanIx cs1 ch = chanIx b.cs ch:=by rw [← HM1.out];exact fun ch => zxs _ _ _ _ ch
   have hl1 : cs1.length = b.cs.length:=by rw [← HM1.out];exact zxj _ _ _ _
   have HBD1 : Hid (Bd (1125899906842624 + 1125899906842624) cs1):=hd_ (by rw [← HM1.out];exact HBD.out.move _ _ _ (by omega) (by omega))
   have hlv1 : v < cs1.length:=by omega
   have hlu1 : u < cs1.length:=by omega
   have HIX1:=hd_ hix1
   clear hix1
   obtain ⟨c,hc⟩ : ∃ c,cs1[v]'hlv1 = c:=⟨_,rfl⟩
   have hr : (cs1.map Chan.cells)[v]? = some c.cells:=by rw [List.getElem?_map,List.getElem?_eq_getElem hlv1,hc];rfl
   obtain ⟨z0,z1,z2,z3,z4,z5,z6⟩:=c
   have HRowz:=hd_ hr
   have HCIz:=hd_ hc
   clear hr hc
   have hb2:=HBD1.out _ (List.getElem_mem hlv1)
   rw [HCIz.out] at hb2
   simp only at hb2
   have ws : IntKind.i64.wrap (z3 + f4) = z3 + f4:=IntWalk.i64_in _ ⟨by omega,by omega⟩
   go_wp2_with fail
   have yc:=HW_w10.out.o.c.cellAt HRowz.out (j:=3) (by decide)
   simp only [Chan.cells,List.getElem?_cons_zero,List.getElem?_cons_succ] at yc
   refine zxb (fun w' => kqiiissss w' X b.t b.n b.w (some ⟨g,0,none⟩) cs1.length p1 A6 l9.length cap6 A3 b.os.length p3 A4 ([].length) p4 (kqE w' EB e (kqiiiiibi w' HB f0 f1 f2 f3 f4 f5 f6 (kqio_ w' g (v * 7 + 3) z3)))) [yF 0 68,yF 1 69,yF 2 70,yF 3 71,yF 4 72,yF 5 73,yF 6 74,yF 7 75,yF 8 76] rfl (by kernel_rfl) (by kernel_rfl) (by kernel_rfl) (by kernel_rfl) (by kernel_rfl) (by kernel_rfl) ⟨a0,a1,a2,a3,a4,a5,a6,E0,E1,E2,E3,E4,E5,E6,H0,H1,H2,H3,H4,H5,H6,yc⟩ (fun hHeld => ?_)
   obtain ⟨w11,hwd⟩ : ∃ wd,w10.drew = wd:=⟨_,rfl⟩
   have HW_w11 : Hid (Wk 136 w w11 B X ⟨b.t,b.n,b.w,cs1,l9,b.os⟩ [] 0 (some ⟨g,0,none⟩) A6 A3 A4 p1 cap6 p3 p4):=hd_ (by rw [← hwd];exact HW_w10.out.drew)
   have HE_w11 : Hid (Hx w11 EB (evC e) 64):=hd_ (by rw [← hwd];exact zqk HE_w10.out)
   have HH_w11 : Hid (Hx w11 HB #[.int .i64 f0,.int .i64 f1,.int .i64 f2,.int .i64 f3,.int .i64 f4,.bool f5,.int .i64 f6] 70):=hd_ (by rw [← hwd];exact zqk HH_w10.out)
   clear a0 a1 a2 a3 a4 a5 a6 a7 af az E0 E1 E2 E3 E4 E5 E6 H0 H1 H2 H3 H4 H5 H6
   rw [hwd] at hHeld ⊢
   clear hwd
   obtain ⟨a0,a1,a2,a3,a4,a5,a6,a7,af,az⟩:=HW_w11.out.open_
   obtain ⟨E0,E1,E2,E3,E4,E5,E6,-,-⟩:=box7_ HE_w11.out
   obtain ⟨H0,H1,H2,H3,H4,H5,H6,-,-⟩:=box7_ HH_w11.out
   refine tk_ ?_
   clear yc
   have yc:=HW_w11.out.o.c.cellAt HRowz.out (j:=3) (by decide)
   simp only [Chan.cells,List.getElem?_cons_zero,List.getElem?_cons_succ] at yc
   have yf:=fun j => HW_w11.out.o.c.frozenAt j
   refine Sq.done ?_
   intro KK hKK
   go_simp
   refine hKK _ _ (NoPanic.normal ?_)
   clear yc yf
   refine nm_ ?_
   intro w12 hw
   have HW_w12 : Hid (Wk 136 w w12 B X ⟨b.t,b.n,b.w,(cs1.set v ⟨z0,z1,z2,(z3 + f4),z4,z5,z6⟩),l9,b.os⟩ [] 0 (some ⟨g,0,none⟩) A6 A3 A4 p1 cap6 p3 p4):=hd_ (by rw [hw];exact HW_w11.out.putCell (c':=⟨z0,z1,z2,(z3 + f4),z4,z5,z6⟩) (by decide) hlv1 (by decide) (by rw [HCIz.out];rfl))
   have HE_w12 : Hid (Hx w12 EB (evC e) 64):=hd_ (by rw [hw];exact zqb (fun e9 => HW_w11.out.o.c.ne_ HE_w11.out (by decide) (by rw [e9];rfl)) HE_w11.out)
   have HH_w12 : Hid (Hx w12 HB #[.int .i64 f0,.int .i64 f1,.int .i64 f2,.int .i64 f3,.int .i64 f4,.bool f5,.int .i64 f6] 70):=hd_ (by rw [hw];exact zqb (fun e9 => HW_w11.out.o.c.ne_ HH_w11.out (by decide) (by rw [e9];rfl)) HH_w11.out)
   clear hw
   clear a0 a1 a2 a3 a4 a5 a6 a7 af az E0 E1 E2 E3 E4 E5 E6 H0 H1 H2 H3 H4 H5 H6
   obtain ⟨a0,a1,a2,a3,a4,a5,a6,a7,af,az⟩:=HW_w12.out.open_
   obtain ⟨E0,E1,E2,E3,E4,E5,E6,-,-⟩:=box7_ HE_w12.out
   obtain ⟨H0,H1,H2,H3,H4,H5,H6,-,-⟩:=box7_ HH_w12.out
   obtain ⟨cs2,hc3⟩ : ∃ v9,(cs1.set v ⟨z0,z1,z2,(z3 + f4),z4,z5,z6⟩) = v9:=⟨_,rfl⟩
   rw [hc3] at HW_w12
   have Hcs2:=hd_ hc3
   clear hc3
   clear a0 a1 a2 a3 a4 a5 a6 a7 af az E0 E1 E2 E3 E4 E5 E6 H0 H1 H2 H3 H4 H5 H6
   obtain ⟨a0,a1,a2,a3,a4,a5,a6,a7,af,az⟩:=HW_w12.out.open_
   obtain ⟨E0,E1,E2,E3,E4,E5,E6,-,-⟩:=box7_ HE_w12.out
   obtain ⟨H0,H1,H2,H3,H4,H5,H6,-,-⟩:=box7_ HH_w12.out
   clear ws
   have HM2 : Hid (moveC cs1 f2 0 f4 = cs2):=hd_ (by rw [← Hcs2.out];exact zgw (by rw [HIX1.out];exact HV.out) hlv1 HCIz.out)
   have hl2 : cs2.length = cs1.length:=by rw [← HM2.out];exact zxj _ _ _ _
   have hlu2 : u < cs2.length:=by omega
   have HIX2 : Hid (chanIx cs2 f1 = (u : Int)):=hd_ (by rw [← HM2.out,zxs,HIX1.out];exact HU.out)
   obtain ⟨c,hc⟩ : ∃ c,cs2[u]'hlu2 = c:=⟨_,rfl⟩
   have hr : (cs2.map Chan.cells)[u]? = some c.cells:=by rw [List.getElem?_map,List.getElem?_eq_getElem hlu2,hc];rfl
   obtain ⟨x0,x1,x2,x3,x4,x5,x6⟩:=c
   have HRowx:=hd_ hr
   have HCIx:=hd_ hc
   clear hr hc
   have yc:=HW_w12.out.o.c.cellAt HRowx.out (j:=6) (by decide)
   simp only [Chan.cells,List.getElem?_cons_zero,List.getElem?_cons_succ] at yc
   have yf:=fun j => HW_w12.out.o.c.frozenAt j
   go_wp2_with fail
   refine (zgk _ _).mono ?_
   rintro e' wz ⟨rfl,rfl⟩
   go_upto_region 12 with fail
   clear yc yf
   refine nm_ ?_
   intro w13 hw
   have HW_w13 : Hid (Wk 136 w w13 B X ⟨b.t,b.n,b.w,(cs2.set u ⟨x0,x1,x2,x3,x4,x5,(upF x6)⟩),l9,b.os⟩ [] 0 (some ⟨g,0,none⟩) A6 A3 A4 p1 cap6 p3 p4):=hd_ (by rw [hw];exact HW_w12.out.putCell (c':=⟨x0,x1,x2,x3,x4,x5,(upF x6)⟩) (by decide) hlu2 (by decide) (by rw [HCIx.out];rfl))
   have HE_w13 : Hid (Hx w13 EB (evC e) 64):=hd_ (by rw [hw];exact zqb (fun e9 => HW_w12.out.o.c.ne_ HE_w12.out (by decide) (by rw [e9];rfl)) HE_w12.out)
   have HH_w13 : Hid (Hx w13 HB #[.int .i64 f0,.int .i64 f1,.int .i64 f2,.int .i64 f3,.int .i64 f4,.bool f5,.int .i64 f6] 70):=hd_ (by rw [hw];exact zqb (fun e9 => HW_w12.out.o.c.ne_ HH_w12.out (by decide) (by rw [e9];rfl)) HH_w12.out)
   clear hw
   clear a0 a1 a2 a3 a4 a5 a6 a7 af az E0 E1 E2 E3 E4 E5 E6 H0 H1 H2 H3 H4 H5 H6
   obtain ⟨a0,a1,a2,a3,a4,a5,a6,a7,af,az⟩:=HW_w13.out.open_
   obtain ⟨E0,E1,E2,E3,E4,E5,E6,-,-⟩:=box7_ HE_w13.out
   obtain ⟨H0,H1,H2,H3,H4,H5,H6,-,-⟩:=box7_ HH_w13.out
   obtain ⟨cs3,hc3⟩ : ∃ v9,(cs2.set u ⟨x0,x1,x2,x3,x4,x5,(upF x6)⟩) = v9:=⟨_,rfl⟩
   rw [hc3] at HW_w13
   have Hcs3:=hd_ hc3
   clear hc3
   clear a0 a1 a2 a3 a4 a5 a6 a7 af az E0 E1 E2 E3 E4 E5 E6 H0 H1 H2 H3 H4 H5 H6
   obtain ⟨a0,a1,a2,a3,a4,a5,a6,a7,af,az⟩:=HW_w13.out.open_
   obtain ⟨E0,E1,E2,E3,E4,E5,E6,-,-⟩:=box7_ HE_w13.out
   obtain ⟨H0,H1,H2,H3,H4,H5,H6,-,-⟩:=box7_ HH_w13.out
   have HM3 : Hid (setCh cs2 f1 scoreUp = cs3):=hd_ (by rw [zko HIX2.out hlu2,HCIx.out];exact Hcs3.out)
   go_wp2_with fail
   refine (zyq _ _ B X ⟨b.t,b.n,b.w,cs3,l9,b.os⟩ [] 0 (some ⟨g,0,none⟩) A6 A3 A4 p1 cap6 p3 p4 3 0 (f4 - f3) (by decide) (by (try simp only);omega) (fun y hy => by cases hy) (fun y hy => by cases hy) HW_w13.out).mono ?_
   rintro e' w14 ⟨⟨Cw140,Cw141,Cw142,Cw143,rw140,rw141,rw142,rw143,rfl,hh⟩,ho⟩
   have HE_w14:=hd_ (ho _ _ HXE.out HE_w13.out)
   have HH_w14:=hd_ (ho _ _ HXH.out HH_w13.out)
   obtain ⟨M0,hL9⟩ : ∃ v,lineTo [] 3 0 (f4 - f3) = v:=⟨_,rfl⟩
   rw [hL9] at hh
   have HMl0:=hd_ hL9
   have HW_w14:=hd_ (HW_w13.out.trans hh)
   clear hh ho hL9
   clear a0 a1 a2 a3 a4 a5 a6 a7 af az E0 E1 E2 E3 E4 E5 E6 H0 H1 H2 H3 H4 H5 H6
   obtain ⟨a0,a1,a2,a3,a4,a5,a6,a7,af,az⟩:=HW_w14.out.open_
   obtain ⟨E0,E1,E2,E3,E4,E5,E6,-,-⟩:=box7_ HE_w14.out
   obtain ⟨H0,H1,H2,H3,H4,H5,H6,-,-⟩:=box7_ HH_w14.out
   have HLM0 : Hid (M0.length ≤ 1):=hd_ (by rw [← HMl0.out];have h9:=zxe [] (3) (0) ((f4 - f3));have h8 : ([] : List Line).length ≤ 0:=Nat.le_refl _;omega)
   have HQ0 : Hid (∀ y ∈ M0,y = ⟨3,0,(f4 - f3)⟩):=hd_ (fun y hy => by rw [← HMl0.out] at hy;rcases zkj (fun y hy => by cases hy) hy with h9 | h9;cases h9;exact h9)
   go_wp2_with fail
   refine (zyq _ _ B X ⟨b.t,b.n,b.w,cs3,l9,b.os⟩ M0 0 Cw140 Cw141 Cw142 Cw143 rw140 rw141 rw142 rw143 6 f1 f3 (by have:=HLM0.out;omega) (by (try simp only);omega) (fun y hy => by rcases HQ0.out y hy with rfl <;> (simp only;omega)) (fun y hy => by rcases HQ0.out y hy with rfl <;> (simp only;omega)) HW_w14.out).mono ?_
   rintro e' w15 ⟨⟨Cw150,Cw151,Cw152,Cw153,rw150,rw151,rw152,rw153,rfl,hh⟩,ho⟩
   have HE_w15:=hd_ (ho _ _ HXE.out HE_w14.out)
   have HH_w15:=hd_ (ho _ _ HXH.out HH_w14.out)
   obtain ⟨M1,hL9⟩ : ∃ v,lineTo M0 6 f1 f3 = v:=⟨_,rfl⟩
   rw [hL9] at hh
   have HMl1:=hd_ hL9
   have HW_w15:=hd_ (HW_w14.out.trans hh)
   clear hh ho hL9
   clear a0 a1 a2 a3 a4 a5 a6 a7 af az E0 E1 E2 E3 E4 E5 E6 H0 H1 H2 H3 H4 H5 H6
   obtain ⟨a0,a1,a2,a3,a4,a5,a6,a7,af,az⟩:=HW_w15.out.open_
   obtain ⟨E0,E1,E2,E3,E4,E5,E6,-,-⟩:=box7_ HE_w15.out
   obtain ⟨H0,H1,H2,H3,H4,H5,H6,-,-⟩:=box7_ HH_w15.out
   have HLM1 : Hid (M1.length ≤ 2):=hd_ (by rw [← HMl1.out];have h9:=zxe M0 (6) (f1) (f3);have h8 : (M0).length ≤ 1:=HLM0.out;omega)
   have HQ1 : Hid (∀ y ∈ M1,y = ⟨3,0,(f4 - f3)⟩ ∨ y = ⟨6,f1,f3⟩):=hd_ (fun y hy => by rw [← HMl1.out] at hy;rcases zkj (fun y hy => by rcases HQ0.out y hy with rfl <;> (simp only;omega)) hy with h9 | h9;exact HQ0.out y h9 |> Or.inl;exact Or.inr h9)
   go_wp2_with fail
   refine (zyq _ _ B X ⟨b.t,b.n,b.w,cs3,l9,b.os⟩ M1 0 Cw150 Cw151 Cw152 Cw153 rw150 rw151 rw152 rw153 8 f2 (-f4) (by have:=HLM1.out;omega) (by (try simp only);omega) (fun y hy => by rcases HQ1.out y hy with rfl | rfl <;> (simp only;omega)) (fun y hy => by rcases HQ1.out y hy with rfl | rfl <;> (simp only;omega)) HW_w15.out).mono ?_
   rintro e' w16 ⟨⟨Cw160,Cw161,Cw162,Cw163,rw160,rw161,rw162,rw163,rfl,hh⟩,ho⟩
   have HE_w16:=hd_ (ho _ _ HXE.out HE_w15.out)
   have HH_w16:=hd_ (ho _ _ HXH.out HH_w15.out)
   obtain ⟨M2,hL9⟩ : ∃ v,lineTo M1 8 f2 (-f4) = v:=⟨_,rfl⟩
   rw [hL9] at hh
   have HMl2:=hd_ hL9
   have HW_w16:=hd_ (HW_w15.out.trans hh)
   clear hh ho hL9
   clear a0 a1 a2 a3 a4 a5 a6 a7 af az E0 E1 E2 E3 E4 E5 E6 H0 H1 H2 H3 H4 H5 H6
   obtain ⟨a0,a1,a2,a3,a4,a5,a6,a7,af,az⟩:=HW_w16.out.open_
   obtain ⟨E0,E1,E2,E3,E4,E5,E6,-,-⟩:=box7_ HE_w16.out
   obtain ⟨H0,H1,H2,H3,H4,H5,H6,-,-⟩:=box7_ HH_w16.out
   have HLM2 : Hid (M2.length ≤ 3):=hd_ (by rw [← HMl2.out];have h9:=zxe M1 (8) (f2) ((-f4));have h8 : (M1).length ≤ 2:=HLM1.out;omega)
   have HQ2 : Hid (∀ y ∈ M2,y = ⟨3,0,(f4 - f3)⟩ ∨ y = ⟨6,f1,f3⟩ ∨ y = ⟨8,f2,(-f4)⟩):=hd_ (fun y hy => by rw [← HMl2.out] at hy;rcases zkj (fun y hy => by rcases HQ1.out y hy with rfl | rfl <;> (simp only;omega)) hy with h9 | h9;exact (HQ1.out y h9).elim Or.inl (fun h8 => Or.inr (Or.inl h8));exact Or.inr (Or.inr h9))
   go_wp2_with fail
   go_end0
   rw [HT6.out,zhc hO1 (by (try simp only at hkey ⊢);omega)]
   have HZ : nz [⟨3,0,(f4 - f3)⟩,⟨6,f1,f3⟩,⟨8,f2,(-f4)⟩] = M2:=by rw [← HMl2.out,← HMl1.out,← HMl0.out];exact (line3 (by decide) (by decide)).symm
   dsimp only
   rw [HZ,← HHS.out,HM1.out,HM2.out,HM3.out]
   exact Acts.ok ⟨_,_,_,_,_,_,_,_,rfl,HW_w16.out⟩
end Go.Proofs.YtdbmkfmenfcbiaaGreat
