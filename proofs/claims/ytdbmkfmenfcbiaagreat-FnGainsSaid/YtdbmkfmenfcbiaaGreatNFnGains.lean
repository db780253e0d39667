/- For every draw: the earnings of all channels are the negated balance of the income account: the walk. -/
import Derived.Test.YtdbmkfmenfcbiaaGreatRows
import Derived.Test.YtdbmkfmenfcbiaaGreatNM6
import Derived.Test.YtdbmkfmenfcbiaaGreatNM5
import Derived.Test.YtdbmkfmenfcbiaaGreatNIAll
import Derived.Test.YtdbmkfmenfcbiaaGreatNM7
import Derived.Test.YtdbmkfmenfcbiaaGreatNSGa
import Derived.Test.YtdbmkfmenfcbiaaGreatNM4
import Derived.Test.YtdbmkfmenfcbiaaGreatNM1
namespace Go.Proofs.YtdbmkfmenfcbiaaGreat
open Go.RowKit Go.Deep
theorem nz_len (l : List Line) : (nz l).length ≤ l.length:=List.length_filter_le _ _
theorem zvl (c : Int) : (bad c).l.length ≤ 3:=by simp [bad]
theorem zjr {b : Bk} {l : List Line} (h : l.length ≤ 3) : (done b l).l.length ≤ 3:=h
theorem stepS_l3 (b : Bk) (e : Event) : (stepS b e).l.length ≤ 3:=by
 have n2 : ∀ x y : Line,(nz [x,y]).length ≤ 3:=fun x y => Nat.le_trans (nz_len _) (by simp)
 have n3 : ∀ x y z : Line,(nz [x,y,z]).length ≤ 3:=fun x y z => Nat.le_trans (nz_len _) (by simp)
 unfold stepS
 split
 ·
  unfold depB;(repeat' split) <;> first | exact zvl _ | exact zjr (n2 _ _)
 split
 ·
  unfold openB;(repeat' split) <;> first | exact zvl _ | exact zjr (n2 _ _)
 split
 ·
  unfold closeA closeB;(repeat' split) <;> first | exact zvl _ | exact zjr (n3 _ _ _)
 split
 ·
  unfold priceB;(repeat' split) <;> first | exact zvl _ | exact zjr (by simp)
 split
 ·
  unfold admitS;(repeat' split) <;> first | exact zvl _ | exact zjr (n2 _ _)
 split
 ·
  unfold settleS;(repeat' split) <;> first | exact zvl _ | exact zjr (n3 _ _ _) | exact zjr (n2 _ _)
 split
 ·
  unfold settleS;(repeat' split) <;> first | exact zvl _ | exact zjr (n3 _ _ _) | exact zjr (n2 _ _)
 split
 ·
  unfold tickB;(repeat' split) <;> first | exact zvl _ | exact zjr (by simp)
 split
 ·
  unfold launchS;(repeat' split) <;> first | exact zvl _ | exact zjr (n2 _ _)
 split
 ·
  unfold landS;(repeat' split) <;> first | exact zvl _ | exact zjr (n3 _ _ _) | exact zjr (n2 _ _)
 unfold landS;(repeat' split) <;> first | exact zvl _ | exact zjr (n3 _ _ _) | exact zjr (n2 _ _)
theorem applyS_l3 (b : Bk) (e : Event) : (applyS b e).l.length ≤ 3:=by
 unfold applyS
 (repeat' split) <;> first | exact zvl _ | exact stepS_l3 b e
theorem all_l3 : ∀ (es : List Event) (s : Bk × List (Int × List Line) × List Int),(∀ p ∈ s.2.1,p.2.length ≤ 3) → ∀ p ∈ (es.foldl allStep s).2.1,p.2.length ≤ 3
 | [],_,h => h
 | e :: es,s,h => all_l3 es (allStep s e) fun p hp => by
  unfold allStep psStep at hp
  simp only at hp
  split at hp
  ·
   rcases List.mem_append.1 hp with h1 | h1
   ·
    exact h p h1
   rw [List.mem_singleton.1 h1];exact applyS_l3 _ _
  exact h p hp
theorem all_ps : ∀ (es : List Event) (s : Bk × List (Int × List Line) × List Int),(es.foldl allStep s).2.1.length ≤ s.2.1.length + es.length
 | [],_ => by simp
 | e :: es,s => by
  have h1:=all_ps es (allStep s e)
  have h2 : (allStep s e).2.1.length ≤ s.2.1.length + 1:=by
   unfold allStep psStep
   simp only
   split <;> simp
  rw [List.foldl_cons,List.length_cons]
  omega
theorem gainSum_in (l : List Gain) : 0 ≤ gainSum l∧gainSum l ≤ 1125899906842624:=by
 unfold gainSum
 split
 ·
  rename_i h
  exact ⟨zmz h.1,h.2⟩
 omega
theorem s_DrawGains (A : Option Addr) (n cap : Nat) (w : World) (hc : Code w w.heap.size A n cap) :
  Calls Tryz.prog 15 #[.slice A n cap] w fun e w' => ∃ (es : List Event) (B : Option Addr) (cb : Nat),e = .returned (.slice B es.length cb)∧es.length ≤ 200∧Ow w' w.heap.size 64 7 (.slice B es.length cb) (es.map Event.cells)∧Below w.heap.size w w':=by
 go_enter Tryz.func15,Tryz.ntmps15
 go_wp2_with fail
 refine (s_l01New A n cap _ hc).mono ?_
 rintro e w1 ⟨rfl,hc1,hb1,z1⟩
 go_wp2_with fail
 refine (s_l22Events _ _ hc1).mono ?_
 rintro e w2 ⟨es,A2,cap2,rfl,hl,how,hc2,hg2⟩
 have HW:=hd_ (how.more (by omega : w.heap.size ≤ w1.heap.size))
 clear how
 go_wp2_with fail
 go_ret
 exact ⟨es,A2,cap2,rfl,hl,HW.out,hb1.grown hg2 (by omega) (fun k e => by cases e;exact Nat.le_refl _)⟩
set_option maxRecDepth 100000 in
set_option maxHeartbeats 4000000 in
theorem l_FnGains (A : Option Addr) (n cap : Nat) (w : World) (hc : CodeIn w A n cap) :
  Calls Tryz.prog 4 #[.slice A n cap] w fun e w' => e = .returned (.bool true)∧Below w.heap.size w w':=by
 have hnm:=hc.len
 unfold maxLen at hnm
 by_cases hn : n ≤ 1048576
 rotate_left
 ·
  clear hc
  go_enter Tryz.func4,Tryz.ntmps4
  go_wp2_with fail
  go_ret
  exact ⟨rfl,Below.refl _ _⟩
 have HC:=hd_ (hc.code hn)
 clear hc
 go_enter Tryz.func4,Tryz.ntmps4
 go_wp2_with fail
 refine (s_DrawGains A n cap _ HC).mono ?_
 rintro e w1 ⟨es,AE,pe,rfl,hle,hes,hb1⟩
 have HG1:=hd_ hb1
 have OE1 : Hid (Ow w1 w.heap.size 64 7 (.slice AE es.length pe) (es.map Event.cells)):=hd_ hes
 clear hes hb1 HC
 obtain ⟨gl,hgl⟩ : ∃ gl,gainsF es = gl:=⟨_,rfl⟩
 have hlg : gl.length ≤ 200:=by rw [← hgl];exact Nat.le_trans (ztz es) hle
 have HGL:=hd_ hgl
 clear hgl
 go_wp2_with fail
 refine (i_Gains es AE pe _ (by omega) OE1.out.rd).mono ?_
 rintro e' w2 ⟨AL,pl,rfl,ho,hb⟩
 rw [HGL.out] at ho ⊢
 have OL2 : Hid (Ow w2 w.heap.size 79 4 (.slice AL gl.length pl) (gl.map Gain.cells)):=hd_ (ho.more HG1.out.size)
 clear ho
 have HG2:=hd_ (HG1.out.trans (hb.mono HG1.out.size))
 have OE2:=hd_ (OE1.out.below hb)
 clear hb
 go_wp2_with fail
 refine (s_Gains es AE pe _ (by omega) OE2.out.rd).mono ?_
 rintro e' w3 ⟨AL2,pl2,rfl,ho,hb⟩
 rw [HGL.out]
 clear ho
 have HG3:=hd_ (HG2.out.trans (hb.mono HG2.out.size))
 have OE3:=hd_ (OE2.out.below hb)
 have OL3:=hd_ (OL2.out.below hb)
 clear hb
 go_wp2_with fail
 refine (zys _).mono ?_
 rintro e' w4 ⟨rfl,hb⟩
 have HG4:=hd_ (HG3.out.trans (hb.mono HG3.out.size))
 have OE4:=hd_ (OE3.out.below hb)
 have OL4:=hd_ (OL3.out.below hb)
 clear hb
 go_wp2_with fail
 refine (i_ApplyAll bk1 es none none none AE 0 0 0 pe _ (by decide) (by decide) (by decide) (by omega) (OwB.nil_ _ 0 0 0 0).rd OE4.out.rd).mono ?_
 rintro e' w5 ⟨b,ps,cds,D1,D2,D3,P1,P2,s1,s2,s3,d1,d2,rfl,hob2,hps,hpl,-,hb,-,hres⟩
 rw [if_pos (show bk1.ok = true by decide)] at hres
 have hlps : ps.length ≤ 200:=by
  have h9:=all_ps es (bk1,[],[])
  have h8 : (allF bk1 es).2.1 = ps.map Pst.pl:=by rw [← hres]
  have h7 : (es.foldl allStep (bk1,[],[])).2.1 = ps.map Pst.pl:=h8
  rw [h7,List.length_map] at h9
  simp only [List.length_nil] at h9
  omega
 have HPS : Hid ((allF bk1 es).2.1 = ps.map Pst.pl):=hd_ (by rw [← hres])
 have RP_w5 : Hid (RdP w5 w5.heap.size P1 ps):=hd_ ⟨hps.rd,fun x hx => (hpl x hx).rd⟩
 have HPL : Hid (∀ x ∈ ps,x.L.length ≤ 1048576∧x.L.length ≤ x.cap):=hd_ (fun x hx => ⟨Nat.le_trans (by
  have h9:=all_l3 es (bk1,[],[]) (by simp) x.pl (by
   have h8 : (es.foldl allStep (bk1,[],[])).2.1 = ps.map Pst.pl:=HPS.out
   rw [h8];exact List.mem_map.2 ⟨x,hx,rfl⟩)
  exact h9) (show 3 ≤ 1048576 by decide),by have h9:=(hpl x hx).cap_;rw [List.length_map] at h9;exact h9⟩)
 clear hob2 hps hpl hres
 have HG5:=hd_ (HG4.out.trans (hb.mono HG4.out.size))
 have OE5:=hd_ (OE4.out.below hb)
 have OL5:=hd_ (OL4.out.below hb)
 clear hb
 go_upto_region 8 with fail
 refine nm_ ?_
 intro w6 hw
 have HG6 : Hid (Below w.heap.size w w6):=hd_ (by rw [hw];exact (HG5.out).alloc (by have:=HG5.out.size;first | omega | (simp;done) | (simp;omega)) _)
 have OE6 : Hid (Ow w6 w.heap.size 64 7 (.slice AE es.length pe) (es.map Event.cells)):=hd_ (by rw [hw];exact (OE5.out).alloc _)
 have OL6 : Hid (Ow w6 w.heap.size 79 4 (.slice AL gl.length pl) (gl.map Gain.cells)):=hd_ (by rw [hw];exact (OL5.out).alloc _)
 have RP_w6 : Hid (RdP w6 w6.heap.size P1 ps):=hd_ (by rw [hw];exact (RP_w5.out.below ((Below.refl _ _).alloc (Nat.le_refl _) _)).more (by simp))
 obtain ⟨BB,h9B⟩ : ∃ v,v = w5.heap.size:=⟨_,rfl⟩
 have HB6 : Hid (Hx w6 BB (bkC b D1 s1 D2 s2 D3 s3) 39):=hd_ (by rw [hw,h9B];first | done | exact zqi (by first | rfl | (simp;done)))
 try rw [← h9B]
 clear hw h9B
 obtain ⟨jB,Bf,Bz⟩:=bc6_ HB6
 obtain ⟨PA,hPA⟩ : ∃ r,pAll (ps.map Pst.pl) 0 [] 0 = r:=⟨_,rfl⟩
 obtain ⟨z,m,cnt⟩:=PA
 have HPA:=hd_ hPA
 have hcn:=zpk (ps.map Pst.pl) 0 [] 0
 rw [hPA,List.length_map] at hcn
 simp only at hcn
 clear hPA
 go_wp2_with fail
 refine (i_PostAll 0 [] none 0 ps P1 d1 _ (by decide) (by omega) HPL (Ow.nil_ (B:=0) (e:=99) (size:=3)).rd RP_w6.out).mono ?_
 rintro e' w7 ⟨LA,lc,rfl,hcap,hol,hb⟩
 rw [HPA.out] at hcap hol ⊢
 dsimp only at hcap hol ⊢
 have OM7 : Hid (Ow w7 w.heap.size 99 3 (.slice LA m.length lc) (m.map Line.cells)):=hd_ (hol.more HG6.out.size)
 clear hol
 have HG7:=hd_ (HG6.out.trans (hb.mono HG6.out.size))
 have HB7:=hb_ hb HB6
 have OE7:=hd_ (OE6.out.below hb)
 have OL7:=hd_ (OL6.out.below hb)
 clear hb
 clear jB Bf Bz
 obtain ⟨jB,Bf,Bz⟩:=bc6_ HB7
 go_upto_region 9 with fail
 refine nm_ ?_
 intro w8 hw
 have HG8 : Hid (Below w.heap.size w w8):=hd_ (by rw [hw];exact (HG7.out).alloc (by have:=HG7.out.size;first | omega | (simp;done) | (simp;omega)) _)
 have HB8 : Hid (Hx w8 BB (bkC b D1 s1 D2 s2 D3 s3) 39):=hd_ (by rw [hw];exact zqd (by have:=(gz_ HB7).1;first | omega | (simp;omega)) (HB7.out))
 have OE8 : Hid (Ow w8 w.heap.size 64 7 (.slice AE es.length pe) (es.map Event.cells)):=hd_ (by rw [hw];exact (OE7.out).alloc _)
 have OL8 : Hid (Ow w8 w.heap.size 79 4 (.slice AL gl.length pl) (gl.map Gain.cells)):=hd_ (by rw [hw];exact (OL7.out).alloc _)
 have OM8 : Hid (Ow w8 w.heap.size 99 3 (.slice LA m.length lc) (m.map Line.cells)):=hd_ (by rw [hw];exact (OM7.out).alloc _)
 obtain ⟨LB,h9Q⟩ : ∃ v,v = w7.heap.size:=⟨_,rfl⟩
 have HQ8 : Hid (Hx w8 LB #[.int .i64 z,.slice LA m.length lc] 47):=hd_ (by rw [hw,h9Q];first | done | exact zqi (by first | rfl | (simp;done)))
 try rw [← h9Q]
 clear hw h9Q
 clear jB Bf Bz
 obtain ⟨jB,Bf,Bz⟩:=bc6_ HB8
 obtain ⟨Q,Qf,Qz⟩:=bc2_ HQ8
 cases tn : decide (cnt < (ps.length : Int))
 rotate_left
 ·
  have ws : IntKind.i64.wrap (20 + (es.length : Int)) = 20 + (es.length : Int):=IntWalk.i64_in _ ⟨by omega,by omega⟩
  have td : decide ((gl.length : Int) ≤ 20 + (es.length : Int)) = true:=decide_eq_true (by have h9:=ztz es;rw [HGL.out] at h9;omega)
  clear hcn
  go_wp2_with fail
  go_ret
  exact ⟨rfl,HG8.out⟩
 have hcnt : cnt = (ps.length : Int):=by have:=of_decide_eq_false tn;omega
 have hlaw:=income_law es (by rw [HPS.out,HPA.out,List.length_map];exact hcnt)
 rw [HPS.out,HPA.out,HGL.out] at hlaw
 dsimp only at hlaw
 obtain ⟨h3,h4⟩:=hlaw
 have hr3:=gainSum_in gl
 rw [h3] at hr3
 obtain ⟨J3,hJ3⟩ : ∃ x,balB z m 3 0 = x:=⟨_,rfl⟩
 obtain ⟨J4,hJ4⟩ : ∃ x,balB z m 4 0 = x:=⟨_,rfl⟩
 rw [hJ3] at h3 hr3
 rw [hJ4] at h4
 have HJ3:=hd_ hJ3
 have HJ4:=hd_ hJ4
 have H3:=hd_ h3
 have H4:=hd_ h4
 have ws : IntKind.i64.wrap (-J3) = -J3:=IntWalk.i64_in _ ⟨by omega,by omega⟩
 have hml : m.length ≤ 1048576:=by
  obtain ⟨k1,-,-⟩:=zyb (k:=3) (c:=0) (ps.map Pst.pl) 0 [] 0 zvf (by rw [HPA.out,List.length_map];simp only;omega)
  rw [HPA.out] at k1
  have k2:=(ledgerB_iff.1 k1).2.1
  simp only at k2
  omega
 clear hcnt h3 h4 hJ3 hJ4 hr3 hcn
 go_wp2_with fail
 refine (zgo es AE pe _ (by omega) OE8.out.rd).mono ?_
 rintro e' w9 ⟨rfl,hb⟩
 rw [H4.out]
 have HG9:=hd_ (HG8.out.trans (hb.mono HG8.out.size))
 have HB9:=hb_ hb HB8
 have HQ9:=hb_ hb HQ8
 have OE9:=hd_ (OE8.out.below hb)
 have OL9:=hd_ (OL8.out.below hb)
 have OM9:=hd_ (OM8.out.below hb)
 clear hb
 clear jB Q Bf Qf Bz Qz
 obtain ⟨jB,Bf,Bz⟩:=bc6_ HB9
 obtain ⟨Q,Qf,Qz⟩:=bc2_ HQ9
 go_wp2_with fail
 refine zql (fun w' => kqis_ w' LB z LA m.length lc) [yF 0 53,yF 2 55,yF 3 56,yT 1 54,yT 4 57,yF 5 58,yF 6 59,yF 7 60,yG 8 61 60,yG 9 62 60,yG 10 63 60,(11,some 64,true,some (60,true)),yG 12 65 60,yF 13 66,yF 14 2] (by kernel_rfl) (by kernel_rfl) (by kernel_rfl) Q (fun hH => ?_)
 obtain ⟨w10,hwd⟩ : ∃ wd,w9.drew = wd:=⟨_,rfl⟩
 have HG10:=bld_ hwd HG9
 have HB10:=hr_ hwd HB9
 have HQ10:=hr_ hwd HQ9
 have OE10 : Hid (Ow w10 w.heap.size 64 7 (.slice AE es.length pe) (es.map Event.cells)):=hd_ (by rw [← hwd];exact OE9.out.drew_)
 have OL10 : Hid (Ow w10 w.heap.size 79 4 (.slice AL gl.length pl) (gl.map Gain.cells)):=hd_ (by rw [← hwd];exact OL9.out.drew_)
 have OM10 : Hid (Ow w10 w.heap.size 99 3 (.slice LA m.length lc) (m.map Line.cells)):=hd_ (by rw [← hwd];exact OM9.out.drew_)
 clear jB Q Bf Qf Bz Qz
 rw [hwd] at hH ⊢
 clear hwd
 obtain ⟨jB,Bf,Bz⟩:=bc6_ HB10
 obtain ⟨Q,Qf,Qz⟩:=bc2_ HQ10
 refine tk_ ?_
 refine ss_ (fun K hK => ?_)
 go_simp
 refine (i_GainSum gl AL pl _ (by omega) OL10.out.rd).mono ?_
 rintro e' w11 ⟨rfl,hb⟩
 rw [H3.out]
 have HG11:=hd_ (HG10.out.trans (hb.mono HG10.out.size))
 have HB11:=hb_ hb HB10
 have HQ11:=hb_ hb HQ10
 have OE11:=hd_ (OE10.out.below hb)
 have OL11:=hd_ (OL10.out.below hb)
 have OM11:=hd_ (OM10.out.below hb)
 clear hb
 clear jB Q Bf Qf Bz Qz
 obtain ⟨jB,Bf,Bz⟩:=bc6_ HB11
 obtain ⟨Q,Qf,Qz⟩:=bc2_ HQ11
 go_simp
 refine hK.out _ _ Q (fun hH => ?_)
 clear hK K
 refine tk_ ?_
 refine ss_ (fun K hK => ?_)
 go_simp
 refine (zgm z m LA lc 3 0 _ hml OM11.out.rd).mono ?_
 rintro e' w12 ⟨rfl,hb⟩
 rw [HJ3.out]
 have HG12:=hd_ (HG11.out.trans (hb.mono HG11.out.size))
 have HB12:=hb_ hb HB11
 have HQ12:=hb_ hb HQ11
 have OE12:=hd_ (OE11.out.below hb)
 have OL12:=hd_ (OL11.out.below hb)
 have OM12:=hd_ (OM11.out.below hb)
 clear hb
 clear jB Q Bf Qf Bz Qz
 obtain ⟨jB,Bf,Bz⟩:=bc6_ HB12
 obtain ⟨Q,Qf,Qz⟩:=bc2_ HQ12
 go_simp
 refine hK.out _ _ Q (fun hH => ?_)
 clear hK K
 refine tk_ ?_
 refine ss_ (fun K hK => ?_)
 go_simp
 refine (zgm z m LA lc 4 0 _ hml OM12.out.rd).mono ?_
 rintro e' w13 ⟨rfl,hb⟩
 rw [HJ4.out]
 have HG13:=hd_ (HG12.out.trans (hb.mono HG12.out.size))
 have HB13:=hb_ hb HB12
 have HQ13:=hb_ hb HQ12
 have OE13:=hd_ (OE12.out.below hb)
 have OL13:=hd_ (OL12.out.below hb)
 have OM13:=hd_ (OM12.out.below hb)
 clear hb
 clear jB Q Bf Qf Bz Qz
 obtain ⟨jB,Bf,Bz⟩:=bc6_ HB13
 obtain ⟨Q,Qf,Qz⟩:=bc2_ HQ13
 go_simp
 refine hK.out _ _ Q (fun hH => ?_)
 clear hK K
 refine tk_ ?_
 refine Sq.done (NoPanic.normal ?_)
 go_wp2_with fail
 go_ret
 exact ⟨rfl,HG13.out⟩
end Go.Proofs.YtdbmkfmenfcbiaaGreat
