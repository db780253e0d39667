/- A payment is sent in a circle: the reference's walk. -/
import Derived.Test.YtdbmkfmenfcbiaaGreatRows
import Derived.Test.YtdbmkfmenfcbiaaGreatNM3
import Derived.Test.YtdbmkfmenfcbiaaGreatNM1
import Derived.Test.YtdbmkfmenfcbiaaGreatNM2
namespace Go.Proofs.YtdbmkfmenfcbiaaGreat
open Go.RowKit Go.Deep
def launchS (b : Bk) (e : Event) : Out :=
 if hasB (keysOf b.hs b.os) e.Key = true then bad 9
 else if twoB b.cs e.Ch e.To = false then bad 6
 else if b.os.length = 20 then bad 14
 else if amtB (e.Amt + e.Fee) = false then bad 10
 else if (chanOf b.cs e.Ch).Local < e.Amt + e.Fee then bad 12
 else if (chanOf b.cs e.To).Remote < e.Amt then bad 11
 else done ⟨b.t,b.n,b.w,moveC (moveC b.cs e.Ch (-(e.Amt + e.Fee)) 0) e.To 0 (-e.Amt),b.hs,b.os ++ [⟨e.Key,e.Ch,e.To,e.Amt,e.Fee⟩]⟩ (nz [⟨6,e.Ch,-(e.Amt + e.Fee)⟩,⟨8,e.Ch,e.Amt + e.Fee⟩])
theorem zgx {b : Bk} {e : Event} (h : hasB (keysOf b.hs b.os) e.Key = true) : launchS b e = bad 9:=by unfold launchS;rw [if_pos h]
theorem zyx {b : Bk} {e : Event} (h : hasB (keysOf b.hs b.os) e.Key = false) (h2 : twoB b.cs e.Ch e.To = false) : launchS b e = bad 6:=by unfold launchS;rw [if_neg (by rw [h];decide),if_pos h2]
theorem zmf {b : Bk} {e : Event} (h : hasB (keysOf b.hs b.os) e.Key = false) (h2 : twoB b.cs e.Ch e.To = true) (h3 : b.os.length = 20) : launchS b e = bad 14:=by unfold launchS;rw [if_neg (by rw [h];decide),if_neg (by rw [h2];decide),if_pos h3]
theorem zmc {b : Bk} {e : Event} (h : hasB (keysOf b.hs b.os) e.Key = false) (h2 : twoB b.cs e.Ch e.To = true) (h3 : b.os.length ≠ 20) (h4 : amtB (e.Amt + e.Fee) = false) : launchS b e = bad 10:=by unfold launchS;rw [if_neg (by rw [h];decide),if_neg (by rw [h2];decide),if_neg h3,if_pos h4]
theorem zme {b : Bk} {e : Event} {c : Chan} (h : hasB (keysOf b.hs b.os) e.Key = false) (h2 : twoB b.cs e.Ch e.To = true) (h3 : b.os.length ≠ 20) (h4 : amtB (e.Amt + e.Fee) = true) (hc : chanOf b.cs e.Ch = c) (h5 : c.Local < e.Amt + e.Fee) : launchS b e = bad 12:=by
 subst hc;unfold launchS;rw [if_neg (by rw [h];decide),if_neg (by rw [h2];decide),if_neg h3,if_neg (by rw [h4];decide),if_pos h5]
theorem zmd {b : Bk} {e : Event} {c d : Chan} (h : hasB (keysOf b.hs b.os) e.Key = false) (h2 : twoB b.cs e.Ch e.To = true) (h3 : b.os.length ≠ 20) (h4 : amtB (e.Amt + e.Fee) = true) (hc : chanOf b.cs e.Ch = c) (h5 : e.Amt + e.Fee ≤ c.Local) (hd : chanOf b.cs e.To = d) (h6 : d.Remote < e.Amt) : launchS b e = bad 11:=by
 subst hc;subst hd;unfold launchS;rw [if_neg (by rw [h];decide),if_neg (by rw [h2];decide),if_neg h3,if_neg (by rw [h4];decide),if_neg (by omega),if_pos h6]
theorem zmg {b : Bk} {e : Event} {c d : Chan} (h : hasB (keysOf b.hs b.os) e.Key = false) (h2 : twoB b.cs e.Ch e.To = true) (h3 : b.os.length ≠ 20) (h4 : amtB (e.Amt + e.Fee) = true) (hc : chanOf b.cs e.Ch = c) (h5 : e.Amt + e.Fee ≤ c.Local) (hd : chanOf b.cs e.To = d) (h6 : e.Amt ≤ d.Remote) :
  launchS b e = done ⟨b.t,b.n,b.w,moveC (moveC b.cs e.Ch (-(e.Amt + e.Fee)) 0) e.To 0 (-e.Amt),b.hs,b.os ++ [⟨e.Key,e.Ch,e.To,e.Amt,e.Fee⟩]⟩ (nz [⟨6,e.Ch,-(e.Amt + e.Fee)⟩,⟨8,e.Ch,e.Amt + e.Fee⟩]):=by
 subst hc;subst hd;unfold launchS;rw [if_neg (by rw [h];decide),if_neg (by rw [h2];decide),if_neg h3,if_neg (by rw [h4];decide),if_neg (by omega),if_neg (by omega)]
theorem twoB_ix {cs : List Chan} {x y : Int} (h : twoB cs x y = true) : 0 ≤ chanIx cs x∧0 ≤ chanIx cs y:=by
 simp only [twoB,Bool.and_eq_true,decide_eq_true_eq] at h
 exact ⟨h.1.2,h.2⟩
set_option maxRecDepth 100000 in
set_option maxHeartbeats 8000000 in
theorem s_l07Launch (w0 w : World) (B X : Nat) (b : Bk) (A1 A2 A3 A4 : Option Addr) (p1 p2 p3 p4 : Nat) (e : Event) (hF : BookFacts b.t b.n b.w b.cs b.hs b.os) (ha : amtB e.Amt = true) (hf : amtB e.Fee = true) (h : Wk 108 w0 w B X b [] 0 A1 A2 A3 A4 p1 p2 p3 p4) :
  Calls Tryz.prog 73 #[.pointer (some ⟨X,0,none⟩),.agg #[.int .i64 e.Kind,.int .i64 e.Key,.int .i64 e.Ch,.int .i64 e.To,.int .i64 e.Amt,.int .i64 e.Fee,.bool e.Yes]] w (Acts 108 w B X (launchS b e)):=by
 have H:=hd_ h.here
 clear h
 obtain ⟨L,hL⟩ : ∃ L : List Line,L = []:=⟨_,rfl⟩
 rw [← hL] at H
 have HL:=hd_ hL
 clear hL
 obtain ⟨E,hE⟩ : ∃ E,E = w.heap.size:=⟨_,rfl⟩
 obtain ⟨⟨m1,m2⟩,m3,m4⟩:=And.intro (zja.1 ha) (zja.1 hf)
 have hcl:=hF.cl
 have h60:=hF.small.hl
 have h20:=hF.small.ol
 have HBD:=hd_ (zjd hF)
 have hkl : (keysOf b.hs b.os).length ≤ 80:=by unfold keysOf;rw [List.length_append,List.length_map,List.length_map];omega
 clear hF
 obtain ⟨i0,hi,hz0,hz1,hz2⟩:=info_parts zjn
 have HI0:=hd_ hi
 have HI1:=hd_ hz0
 have HI2:=hd_ hz1
 have HI3:=hd_ hz2
 clear hi hz0 hz1 hz2
 go_enter Tryz.func73,Tryz.ntmps73
 go_wp2_with fail
 rw [← hE]
 refine nm_ ?_
 intro w1 hw
 have HW1:=wka_ hw H
 have HE1 : Hid (Hx w1 E (evC e) 64):=hd_ (by rw [hw];exact (hE ▸ zqi rfl))
 clear hw
 obtain ⟨ja,af,az⟩:=opc_ HW1.out.open_
 have jE:=bd7_ HE1
 have hEB : Hid (w.heap.size ≤ E):=hd_ (by omega)
 have HXE : Hid (E ≠ X):=hd_ (by have:=H.out.lt;omega)
 clear hE
 refine zql (fun w' => kqiiissss w' X b.t b.n b.w A1 b.cs.length p1 A2 b.hs.length p2 A3 b.os.length p3 A4 L.length p4 (kqE_ w' E e)) [yF 0 6,yF 1 7,yF 2 8,yF 3 9,yF 4 10,yF 6 12,yF 7 13,yT 5 11,yT 8 14,yT 9 15,yF 10 16,yH 11 17 16,yH 12 18 16,yH 13 19 16,yH 14 20 16,yH 15 21 16,yH 16 22 16,yH 17 23 16,yH 18 24 16,yH 19 25 16,(20,some 26,true,some (16,false)),yH 21 27 16,(22,some 28,true,some (16,false)),yF 23 29,yF 24 30,yH 25 31 30,yH 26 32 30,yH 27 33 30,yH 28 34 30,yH 29 35 30,yH 30 36 30,yH 31 37 30,yH 32 38 30,(33,some 39,true,some (30,false)),yF 34 40] (by kernel_rfl) (by kernel_rfl) (by kernel_rfl) (q78_ ja jE) (fun hH => ?_)
 obtain ⟨w2,hwd⟩ : ∃ wd,w1.drew = wd:=⟨_,rfl⟩
 have HW2:=wkd_ hwd HW1
 have HE2:=hr_ hwd HE1
 clear ja af az jE
 rw [hwd] at hH ⊢
 clear hwd
 obtain ⟨ja,af,az⟩:=opc_ HW2.out.open_
 have jE:=bd7_ HE2
 refine tk_ ?_
 refine ss_ (fun K hK => ?_)
 go_simp
 refine (zte b.t b.n b.w b.cs b.hs b.os _ _ _ _ _ _ _ h60 h20 HW2.out.o.rd).mono ?_
 rintro e' w3 ⟨KA,kcap,rfl,how,hb⟩
 have HK:=hd_ how.rd
 clear how
 have HW3:=hd_ (HW2.out.below hb)
 have HE3:=hb_ hb HE2
 clear hb
 clear ja af az jE
 obtain ⟨ja,af,az⟩:=opc_ HW3.out.open_
 have jE:=bd7_ HE3
 go_simp
 refine hK.out _ _ (q78_ ja jE) (fun hH => ?_)
 clear hK K
 refine tk_ ?_
 cases t9 : hasB (keysOf b.hs b.os) e.Key
 rotate_left
 ·
  have H9:=hd_ t9
  refine ss_ (fun K hK => ?_)
  go_simp
  refine (zkr (keysOf b.hs b.os) e.Key KA kcap _ (by omega) HK).mono ?_
  rintro e' wz ⟨rfl,rfl⟩
  go_simp
  refine hK.out _ _ (q78_ ja jE) (fun hH => ?_)
  clear hK K
  refine tk_ ?_
  refine ss_ (fun K hK => ?_)
  go_simp
  refine (zqy _ _ B X b L A1 A2 A3 A4 p1 p2 p3 p4 9 (by decide) HW3).mono ?_
  rintro e' w4 ⟨rfl,hh,ho⟩
  have HW4:=hd_ (HW3.out.trans hh)
  have HE4:=hd_ (ho _ _ HXE HE3)
  clear hh ho
  clear ja af az jE
  obtain ⟨ja,af,az⟩:=opc_ HW4.out.open_
  have jE:=bd7_ HE4
  go_simp
  refine hK.out _ _ (q78_ ja jE) (fun hH => ?_)
  clear hK K
  refine tk_ ?_
  refine Sq.done (NoPanic.normal ?_)
  go_wp2_with fail
  go_end0
  rw [zgx H9.out]
  exact Acts.no (by decide) ⟨_,_,_,_,_,_,_,_,rfl,HW4.out⟩
 have H9:=hd_ t9
 refine ss_ (fun K hK => ?_)
 go_simp
 refine (zkr (keysOf b.hs b.os) e.Key KA kcap _ (by omega) HK).mono ?_
 rintro e' wz ⟨rfl,rfl⟩
 go_simp
 refine hK.out _ _ (q78_ ja jE) (fun hH => ?_)
 clear hK K
 refine tk_ ?_
 refine ss_ (fun K hK => ?_)
 go_simp
 refine (zqp _ _ B X b L A1 A2 A3 A4 p1 p2 p3 p4 9 HW3).mono ?_
 rintro e' wz ⟨rfl,rfl⟩
 go_simp
 refine hK.out _ _ (q78_ ja jE) (fun hH => ?_)
 clear hK K
 refine tk_ ?_
 clear HK
 cases t6 : twoB b.cs e.Ch e.To
 ·
  have H6:=hd_ t6
  refine ss_ (fun K hK => ?_)
  go_simp
  refine (zjb b.t b.n b.w b.cs b.hs b.os _ _ _ _ _ _ e.Ch e.To _ (by omega) HW3.out.o.rd).mono ?_
  rintro e' w4 ⟨rfl,hb⟩
  have HW4:=hd_ (HW3.out.below hb)
  have HE4:=hb_ hb HE3
  clear hb
  go_simp
  refine hK.out _ _ (q78_ (opc_ HW4.out.open_).1 (bd7_ HE4)) (fun hH => ?_)
  clear hK K
  refine tk_ ?_
  refine ss_ (fun K hK => ?_)
  go_simp
  refine (zqy _ _ B X b L A1 A2 A3 A4 p1 p2 p3 p4 6 (by decide) HW4).mono ?_
  rintro e' w5 ⟨rfl,hh,ho⟩
  have HW5:=hd_ (HW4.out.trans hh)
  have HE5:=hd_ (ho _ _ HXE HE4)
  clear hh ho
  clear ja af az jE
  obtain ⟨ja,af,az⟩:=opc_ HW5.out.open_
  have jE:=bd7_ HE5
  go_simp
  refine hK.out _ _ (q78_ ja jE) (fun hH => ?_)
  clear hK K
  refine tk_ ?_
  refine Sq.done (NoPanic.normal ?_)
  go_wp2_with fail
  go_end0
  rw [zyx H9 H6.out]
  exact Acts.no (by decide) ⟨_,_,_,_,_,_,_,_,rfl,HW5.out⟩
 have H6:=hd_ t6
 obtain ⟨mi,mo⟩:=twoB_ix t6
 have Hmi:=hd_ mi
 have Hmo:=hd_ mo
 clear mi mo
 cases t14 : ((b.os.length : Int) == 20)
 rotate_left
 ·
  have H14 : Hid (b.os.length = 20):=hd_ (by have:=eq_of_beq t14;omega)
  refine ss_ (fun K hK => ?_)
  go_simp
  refine (zjb b.t b.n b.w b.cs b.hs b.os _ _ _ _ _ _ e.Ch e.To _ (by omega) HW3.out.o.rd).mono ?_
  rintro e' w4 ⟨rfl,hb⟩
  have HW4:=hd_ (HW3.out.below hb)
  have HE4:=hb_ hb HE3
  clear hb
  clear ja af az jE
  obtain ⟨ja,af,az⟩:=opc_ HW4.out.open_
  have jE:=bd7_ HE4
  go_simp
  refine hK.out _ _ (q78_ ja jE) (fun hH => ?_)
  clear hK K
  refine tk_ ?_
  refine ss_ (fun K hK => ?_)
  go_simp
  refine (zqp _ _ B X b L A1 A2 A3 A4 p1 p2 p3 p4 6 HW4).mono ?_
  rintro e' wz ⟨rfl,rfl⟩
  go_simp
  refine hK.out _ _ (q78_ ja jE) (fun hH => ?_)
  clear hK K
  refine tk_ ?_
  refine ss_ (fun K hK => ?_)
  go_simp
  refine (zqy _ _ B X b L A1 A2 A3 A4 p1 p2 p3 p4 14 (by decide) HW4).mono ?_
  rintro e' w5 ⟨rfl,hh,ho⟩
  have HW5:=hd_ (HW4.out.trans hh)
  have HE5:=hd_ (ho _ _ HXE HE4)
  clear hh ho
  clear ja af az jE
  obtain ⟨ja,af,az⟩:=opc_ HW5.out.open_
  have jE:=bd7_ HE5
  go_simp
  refine hK.out _ _ (q78_ ja jE) (fun hH => ?_)
  clear hK K
  refine tk_ ?_
  refine Sq.done (NoPanic.normal ?_)
  go_wp2_with fail
  go_end0
  rw [zmf H9 H6 H14.out]
  exact Acts.no (by decide) ⟨_,_,_,_,_,_,_,_,rfl,HW5.out⟩
 have H14 : Hid (b.os.length ≠ 20):=hd_ (by have:=beq_eq_false_iff_ne.1 t14;omega)
 refine ss_ (fun K hK => ?_)
 go_simp
 refine (zjb b.t b.n b.w b.cs b.hs b.os _ _ _ _ _ _ e.Ch e.To _ (by omega) HW3.out.o.rd).mono ?_
 rintro e' w4 ⟨rfl,hb⟩
 have HW4:=hd_ (HW3.out.below hb)
 have HE4:=hb_ hb HE3
 clear hb
 clear ja af az jE
 obtain ⟨ja,af,az⟩:=opc_ HW4.out.open_
 have jE:=bd7_ HE4
 go_simp
 refine hK.out _ _ (q78_ ja jE) (fun hH => ?_)
 clear hK K
 refine tk_ ?_
 refine ss_ (fun K hK => ?_)
 go_simp
 refine (zqp _ _ B X b L A1 A2 A3 A4 p1 p2 p3 p4 6 HW4).mono ?_
 rintro e' wz ⟨rfl,rfl⟩
 go_simp
 refine hK.out _ _ (q78_ ja jE) (fun hH => ?_)
 clear hK K
 refine tk_ ?_
 refine ss_ (fun K hK => ?_)
 go_simp
 refine (zqp _ _ B X b L A1 A2 A3 A4 p1 p2 p3 p4 14 HW4).mono ?_
 rintro e' wz ⟨rfl,rfl⟩
 go_simp
 refine hK.out _ _ (q78_ ja jE) (fun hH => ?_)
 clear hK K
 refine tk_ ?_
 refine Sq.done (NoPanic.normal ?_)
 clear t9 t6 t14
 cases ts : amtB (e.Amt + e.Fee)
 ·
  have HS:=hd_ ts
  go_wp2_with fail
  refine (zka _ _ _ (by rw [ha,hf,HS.out];rfl)).mono ?_
  rintro e' wz ⟨rfl,rfl⟩
  go_wp2_with fail
  refine zql (fun w' => kqiiissss w' X b.t b.n b.w A1 b.cs.length p1 A2 b.hs.length p2 A3 b.os.length p3 A4 L.length p4 (kqE_ w' E e)) [yF 0 49,yF 1 50,yF 2 51,yT 3 52,yF 4 53,yH 5 54 53,yH 6 55 53,yH 7 56 53,yH 8 57 53,yH 9 58 53,yH 10 59 53,yH 11 60 53,yH 12 61 53,yH 13 62 53,yH 14 63 53,yH 15 64 53,yH 16 65 53,yH 21 70 53,(17,some 66,true,some (53,false)),yH 18 67 53,yH 19 68 53,yH 20 69 53,yH 22 71 53,(23,some 72,true,some (53,false)),yF 24 73,yF 25 74,yH 26 75 74,yH 27 76 74,yH 28 77 74,yH 29 78 74,yH 30 79 74,yH 31 80 74,yH 32 81 74,yH 33 82 74,yH 34 83 74,yH 35 84 74,yH 36 85 74,yH 37 86 74,yH 42 91 74,yH 43 92 74,(38,some 87,true,some (74,false)),yH 39 88 74,yH 40 89 74,yH 41 90 74,yH 44 93 74,(45,some 94,true,some (74,false)),yF 46 95] (by kernel_rfl) (by kernel_rfl) (by kernel_rfl) (q78_ ja jE) (fun hH => ?_)
  obtain ⟨w5,hwd⟩ : ∃ wd,w4.drew = wd:=⟨_,rfl⟩
  have HW5:=wkd_ hwd HW4
  have HE5:=hr_ hwd HE4
  clear ja af az jE
  rw [hwd] at hH ⊢
  clear hwd
  obtain ⟨ja,af,az⟩:=opc_ HW5.out.open_
  have jE:=bd7_ HE5
  refine tk_ ?_
  refine ss_ (fun K hK => ?_)
  go_simp
  refine (zqy _ _ B X b L A1 A2 A3 A4 p1 p2 p3 p4 10 (by decide) HW5).mono ?_
  rintro e' w6 ⟨rfl,hh,ho⟩
  have HW6:=hd_ (HW5.out.trans hh)
  have HE6:=hd_ (ho _ _ HXE HE5)
  clear hh ho
  clear ja af az jE
  obtain ⟨ja,af,az⟩:=opc_ HW6.out.open_
  have jE:=bd7_ HE6
  go_simp
  refine hK.out _ _ (q78_ ja jE) (fun hH => ?_)
  clear hK K
  refine tk_ ?_
  refine Sq.done (NoPanic.normal ?_)
  go_wp2_with fail
  go_end0
  rw [zmc H9 H6 H14 HS.out]
  exact Acts.no (by decide) ⟨_,_,_,_,_,_,_,_,rfl,HW6.out⟩
 have HS:=hd_ ts
 obtain ⟨m5,m6⟩:=zja.1 ts
 go_wp2_with fail
 refine (zjv _ _ _ ha hf HS).mono ?_
 rintro e' wz ⟨rfl,rfl⟩
 clear ts
 obtain ⟨i,hi⟩:=Int.eq_ofNat_of_zero_le Hmi
 have hlti:=zxm hi
 obtain ⟨c,hc⟩ : ∃ c,chanOf b.cs e.Ch = c:=⟨_,rfl⟩
 have hci : b.cs[i] = c:=by rw [← hc];unfold chanOf;rw [hi,Int.toNat_natCast,List.getD_eq_getElem?_getD,List.getElem?_eq_getElem hlti];rfl
 have hr : (b.cs.map Chan.cells)[i]? = some c.cells:=by rw [List.getElem?_map,List.getElem?_eq_getElem hlti,hci];rfl
 obtain ⟨x0,x1,x2,x3,x4,x5,x6⟩:=c
 have HCi:=hd_ hc
 have HRowI:=hd_ hr
 have HIXi:=hd_ hi
 clear hci hr hc hi
 have ix0 : (0 : Int) ≤ (i : Int):=by omega
 have ix1 : (i : Int) < (b.cs.length : Int):=by omega
 obtain ⟨j,hj⟩:=Int.eq_ofNat_of_zero_le Hmo
 have hltj:=zxm hj
 obtain ⟨c,hc⟩ : ∃ c,chanOf b.cs e.To = c:=⟨_,rfl⟩
 have hci : b.cs[j] = c:=by rw [← hc];unfold chanOf;rw [hj,Int.toNat_natCast,List.getD_eq_getElem?_getD,List.getElem?_eq_getElem hltj];rfl
 have hr : (b.cs.map Chan.cells)[j]? = some c.cells:=by rw [List.getElem?_map,List.getElem?_eq_getElem hltj,hci];rfl
 obtain ⟨y0,y1,y2,y3,y4,y5,y6⟩:=c
 have HCj:=hd_ hc
 have HRowJ:=hd_ hr
 have HIXj:=hd_ hj
 clear hci hr hc hj
 have jx0 : (0 : Int) ≤ (j : Int):=by omega
 have jx1 : (j : Int) < (b.cs.length : Int):=by omega
 obtain ⟨g,hA,hBg⟩:=HW4.out.o.c.headW (by rw [List.length_map];omega)
 subst hA
 go_wp2_with fail
 clear ja af az jE
 obtain ⟨ja,af,az⟩:=opc_ HW4.out.open_
 have jE:=bd7_ HE4
 have xl : w4.cell? ⟨g,i * 7 + 2,none⟩ = some (.int .i64 x2):=HW4.out.o.c.cellAt HRowI (j:=2) (by decide)
 have yr : w4.cell? ⟨g,j * 7 + 3,none⟩ = some (.int .i64 y3):=HW4.out.o.c.cellAt HRowJ (j:=3) (by decide)
 refine zql (fun w' => kqiiissss w' X b.t b.n b.w (some ⟨g,0,none⟩) b.cs.length p1 A2 b.hs.length p2 A3 b.os.length p3 A4 L.length p4 (kqE w' E e (kqio w' g (i * 7 + 2) x2 (kqio_ w' g (j * 7 + 3) y3)))) [yF 0 49,yF 1 50,yF 2 51,yT 3 52,yF 4 53,yH 5 54 53,yH 6 55 53,yH 7 56 53,yH 8 57 53,yH 9 58 53,yH 10 59 53,yH 11 60 53,yH 12 61 53,yH 13 62 53,yH 14 63 53,yH 15 64 53,yH 16 65 53,yH 21 70 53,(17,some 66,true,some (53,false)),yH 18 67 53,yH 19 68 53,yH 20 69 53,yH 22 71 53,(23,some 72,true,some (53,false)),yF 24 73,yF 25 74,yH 26 75 74,yH 27 76 74,yH 28 77 74,yH 29 78 74,yH 30 79 74,yH 31 80 74,yH 32 81 74,yH 33 82 74,yH 34 83 74,yH 35 84 74,yH 36 85 74,yH 37 86 74,yH 42 91 74,yH 43 92 74,(38,some 87,true,some (74,false)),yH 39 88 74,yH 40 89 74,yH 41 90 74,yH 44 93 74,(45,some 94,true,some (74,false)),yF 46 95] (by kernel_rfl) (by kernel_rfl) (by kernel_rfl) (q78_ ja (q7_ jE ⟨xl,yr⟩)) (fun hH => ?_)
 obtain ⟨w5,hwd⟩ : ∃ wd,w4.drew = wd:=⟨_,rfl⟩
 have HW5:=wkd_ hwd HW4
 have HE5:=hr_ hwd HE4
 clear ja af az xl yr jE
 rw [hwd] at hH ⊢
 clear hwd
 obtain ⟨ja,af,az⟩:=opc_ HW5.out.open_
 have jE:=bd7_ HE5
 have xl : w5.cell? ⟨g,i * 7 + 2,none⟩ = some (.int .i64 x2):=HW5.out.o.c.cellAt HRowI (j:=2) (by decide)
 have yr : w5.cell? ⟨g,j * 7 + 3,none⟩ = some (.int .i64 y3):=HW5.out.o.c.cellAt HRowJ (j:=3) (by decide)
 refine tk_ ?_
 refine ss_ (fun K hK => ?_)
 go_simp
 refine (zqp _ _ B X b L (some ⟨g,0,none⟩) A2 A3 A4 p1 p2 p3 p4 10 HW5).mono ?_
 rintro e' wz ⟨rfl,rfl⟩
 go_simp
 refine hK.out _ _ (q78_ ja (q7_ jE ⟨xl,yr⟩)) (fun hH => ?_)
 clear hK K
 refine tk_ ?_
 refine ss_ (fun K hK => ?_)
 go_simp
 refine (zjk b.t b.n b.w b.cs b.hs b.os _ _ _ _ _ _ e.Ch _ (by omega) HW5.out.o.rd).mono ?_
 rintro e' w6 ⟨rfl,hb⟩
 rw [HIXi.out]
 have HW6:=hd_ (HW5.out.below hb)
 have HE6:=hb_ hb HE5
 clear hb
 clear ja af az xl yr jE
 obtain ⟨ja,af,az⟩:=opc_ HW6.out.open_
 have jE:=bd7_ HE6
 have xl : w6.cell? ⟨g,i * 7 + 2,none⟩ = some (.int .i64 x2):=HW6.out.o.c.cellAt HRowI (j:=2) (by decide)
 have yr : w6.cell? ⟨g,j * 7 + 3,none⟩ = some (.int .i64 y3):=HW6.out.o.c.cellAt HRowJ (j:=3) (by decide)
 go_simp
 refine hK.out _ _ (q78_ ja (q7_ jE ⟨xl,yr⟩)) (fun hH => ?_)
 clear hK K
 refine tk_ ?_
 cases t12 : decide (x2 < e.Amt + e.Fee)
 rotate_left
 ·
  have m7:=of_decide_eq_true t12
  refine tk_ ?_
  refine ss_ (fun K hK => ?_)
  go_simp
  refine (zqy _ _ B X b L (some ⟨g,0,none⟩) A2 A3 A4 p1 p2 p3 p4 12 (by decide) HW6).mono ?_
  rintro e' w7 ⟨rfl,hh,ho⟩
  have HW7:=hd_ (HW6.out.trans hh)
  have HE7:=hd_ (ho _ _ HXE HE6)
  clear hh ho
  clear ja af az xl yr jE
  obtain ⟨ja,af,az⟩:=opc_ HW7.out.open_
  have jE:=bd7_ HE7
  have xl : w7.cell? ⟨g,i * 7 + 2,none⟩ = some (.int .i64 x2):=HW7.out.o.c.cellAt HRowI (j:=2) (by decide)
  have yr : w7.cell? ⟨g,j * 7 + 3,none⟩ = some (.int .i64 y3):=HW7.out.o.c.cellAt HRowJ (j:=3) (by decide)
  go_simp
  refine hK.out _ _ (q78_ ja (q7_ jE ⟨xl,yr⟩)) (fun hH => ?_)
  clear hK K
  refine tk_ ?_
  refine Sq.done (NoPanic.normal ?_)
  go_wp2_with fail
  go_end0
  rw [zme H9 H6 H14 HS HCi (by simp only;omega)]
  exact Acts.no (by decide) ⟨_,_,_,_,_,_,_,_,rfl,HW7.out⟩
 have m7:=of_decide_eq_false t12
 refine tk_ ?_
 refine ss_ (fun K hK => ?_)
 go_simp
 refine (zqp _ _ B X b L (some ⟨g,0,none⟩) A2 A3 A4 p1 p2 p3 p4 12 HW6).mono ?_
 rintro e' wz ⟨rfl,rfl⟩
 go_simp
 refine hK.out _ _ (q78_ ja (q7_ jE ⟨xl,yr⟩)) (fun hH => ?_)
 clear hK K
 refine tk_ ?_
 refine ss_ (fun K hK => ?_)
 go_simp
 refine (zjk b.t b.n b.w b.cs b.hs b.os _ _ _ _ _ _ e.To _ (by omega) HW6.out.o.rd).mono ?_
 rintro e' w7 ⟨rfl,hb⟩
 rw [HIXj.out]
 have HW7:=hd_ (HW6.out.below hb)
 have HE7:=hb_ hb HE6
 clear hb
 clear ja af az xl yr jE
 obtain ⟨ja,af,az⟩:=opc_ HW7.out.open_
 have jE:=bd7_ HE7
 have xl : w7.cell? ⟨g,i * 7 + 2,none⟩ = some (.int .i64 x2):=HW7.out.o.c.cellAt HRowI (j:=2) (by decide)
 have yr : w7.cell? ⟨g,j * 7 + 3,none⟩ = some (.int .i64 y3):=HW7.out.o.c.cellAt HRowJ (j:=3) (by decide)
 go_simp
 refine hK.out _ _ (q78_ ja (q7_ jE ⟨xl,yr⟩)) (fun hH => ?_)
 clear hK K
 refine tk_ ?_
 cases t11 : decide (y3 < e.Amt)
 rotate_left
 ·
  have m8:=of_decide_eq_true t11
  refine tk_ ?_
  refine ss_ (fun K hK => ?_)
  go_simp
  refine (zqy _ _ B X b L (some ⟨g,0,none⟩) A2 A3 A4 p1 p2 p3 p4 11 (by decide) HW7).mono ?_
  rintro e' w8 ⟨rfl,hh,ho⟩
  have HW8:=hd_ (HW7.out.trans hh)
  have HE8:=hd_ (ho _ _ HXE HE7)
  clear hh ho
  clear ja af az xl yr jE
  obtain ⟨ja,af,az⟩:=opc_ HW8.out.open_
  have jE:=bd7_ HE8
  have xl : w8.cell? ⟨g,i * 7 + 2,none⟩ = some (.int .i64 x2):=HW8.out.o.c.cellAt HRowI (j:=2) (by decide)
  have yr : w8.cell? ⟨g,j * 7 + 3,none⟩ = some (.int .i64 y3):=HW8.out.o.c.cellAt HRowJ (j:=3) (by decide)
  go_simp
  refine hK.out _ _ (q78_ ja (q7_ jE ⟨xl,yr⟩)) (fun hH => ?_)
  clear hK K
  refine tk_ ?_
  refine Sq.done (NoPanic.normal ?_)
  go_wp2_with fail
  go_end0
  rw [zmd H9 H6 H14 HS HCi (by simp only;omega) HCj (by simp only;omega)]
  exact Acts.no (by decide) ⟨_,_,_,_,_,_,_,_,rfl,HW8.out⟩
 have m8:=of_decide_eq_false t11
 have HO:=hd_ (zmg (b:=b) (e:=e) H9 H6 H14 HS HCi (by simp only;omega) HCj (by simp only;omega))
 refine tk_ ?_
 refine ss_ (fun K hK => ?_)
 go_simp
 refine (zqp _ _ B X b L (some ⟨g,0,none⟩) A2 A3 A4 p1 p2 p3 p4 11 HW7).mono ?_
 rintro e' wz ⟨rfl,rfl⟩
 go_simp
 refine hK.out _ _ (q78_ ja (q7_ jE ⟨xl,yr⟩)) (fun hH => ?_)
 clear hK K
 refine tk_ ?_
 refine Sq.done (NoPanic.normal ?_)
 clear t12 t11
 clear ja af az xl yr jE
 obtain ⟨ja,af,az⟩:=opc_ HW7.out.open_
 have jE:=bd7_ HE7
 go_wp2_with fail
 refine zqs (fun w' => kqiiissss w' X b.t b.n b.w (some ⟨g,0,none⟩) b.cs.length p1 A2 b.hs.length p2 A3 b.os.length p3 A4 L.length p4 (kqE_ w' E e)) [yF 0 96,yF 1 97,yF 2 98,yF 3 99,yF 4 100,yF 5 101,yF 6 102,yF 7 103,yF 8 104,yF 9 105,yF 10 106,yF 11 107,yF 12 108,yF 13 109,yF 14 110,yF 15 111,yF 16 112,yT 17 113,yT 18 114,yF 19 115,yF 20 116,yF 21 117] rfl (by kernel_rfl) (by kernel_rfl) (by kernel_rfl) (by kernel_rfl) (by kernel_rfl) (by kernel_rfl) (q78_ ja jE) (fun hH => ?_)
 obtain ⟨w8,hwd⟩ : ∃ wd,w7.drew = wd:=⟨_,rfl⟩
 have HW8:=wkd_ hwd HW7
 have HE8:=hr_ hwd HE7
 clear ja af az jE
 rw [hwd] at hH ⊢
 clear hwd
 obtain ⟨ja,af,az⟩:=opc_ HW8.out.open_
 have jE:=bd7_ HE8
 refine tk_ ?_
 refine ss_ (fun K hK => ?_)
 go_simp
 refine zxu (fun w9 hw => ?_)
 have HW9:=wka_ hw HW8
 have HE9:=ha_ hw HE8
 have HB : Hid (w9.heap[w8.heap.size]? = some (.cells #[.int .i64 e.Key,.int .i64 e.Ch,.int .i64 e.To,.int .i64 e.Amt,.int .i64 e.Fee] 93 (0,0))):=hd_ (by rw [hw];exact zqi rfl)
 clear hw
 clear ja af az jE
 obtain ⟨ja,af,az⟩:=opc_ HW9.out.open_
 have jE:=bd7_ HE9
 go_simp
 refine hK.out _ _ (q78_ ja jE) (fun hH => ?_)
 clear hK K
 refine tk_ ?_
 refine ss_ (fun K hK => ?_)
 refine zje (ops:=#[]) (E:=True) rfl (zks rfl _ _ _ rfl B 93 i0 _ 5 40 Tryz.underlying37 HI0 HI1 HI2 HI3 rfl (by decide) (.slice A3 b.os.length p3) _ (by rfl) HW9.out.o.o w8.heap.size 1 [.int .i64 e.Key,.int .i64 e.Ch,.int .i64 e.To,.int .i64 e.Amt,.int .i64 e.Fee] 93 (by rfl) HB rfl (by simp [Value.oneCell']) (by rw [List.length_map];omega) (by decide) HW9.out.ble ?_)
 intro g2 cap2 w10 how2 hgr2 hat2 hlt2
 have HA:=hd_ (HW9.out.appO (by decide) (by decide) (by decide) (by decide) (c:=⟨e.Key,e.Ch,e.To,e.Amt,e.Fee⟩) how2 hgr2)
 have HE10 : Hid (Hx w10 E (evC e) 64):=hd_ (zqe hgr2 (HW9.out.o.o.ne_ HE9 (by decide)) HE9)
 clear how2 hgr2 hat2 HB
 rw [List.length_map]
 clear ja af az jE
 obtain ⟨_,ja,af,az⟩:=opd_ (own8 HA.out.1)
 have jE:=bd7_ HE10
 go_simp
 refine hK.out _ _ (q78_ ja jE) (fun hH => ?_)
 clear hK K
 refine tk_ ?_
 refine Sq.done ?_
 intro KK hKK
 go_simp
 refine hKK _ _ (NoPanic.normal ?_)
 refine nm_ ?_
 intro w11 hw
 have HW11 : Hid (Wk 108 w w11 B X ⟨b.t,b.n,b.w,b.cs,b.hs,(b.os ++ [⟨e.Key,e.Ch,e.To,e.Amt,e.Fee⟩])⟩ L 0 (some ⟨g,0,none⟩) A2 (some ⟨g2,0,none⟩) A4 p1 p2 cap2 p4):=hd_ (by rw [hw];exact HA.out.2)
 have HE11:=hf_ hw HXE HE10
 clear hw
 clear ja af az jE
 obtain ⟨ja,af,az⟩:=opc_ HW11.out.open_
 have jE:=bd7_ HE11
 clear HA
 go_wp2_with fail
 refine (zjh _ _ B X ⟨b.t,b.n,b.w,b.cs,b.hs,(b.os ++ [⟨e.Key,e.Ch,e.To,e.Amt,e.Fee⟩])⟩ L 0 (some ⟨g,0,none⟩) A2 (some ⟨g2,0,none⟩) A4 p1 p2 cap2 p4 e.Ch (-(e.Amt + e.Fee)) 0 (by (try simp only);omega) (Hmi.out) (by have:=HBD.out.at_ Hmi.out;(try simp only);omega) (by omega) (by omega) HW11.out).mono ?_
 rintro e' w12 ⟨rfl,hh,ho⟩
 have HE12:=hd_ (ho g rfl _ _ (fun e9 => HW11.out.o.c.ne_ HE11 (by decide) (by rw [e9];rfl)) HE11)
 obtain ⟨cs1,hc9⟩ : ∃ v,moveC b.cs e.Ch (-(e.Amt + e.Fee)) 0 = v:=⟨_,rfl⟩
 rw [hc9] at hh
 have Hcs1:=hd_ hc9
 have HW12:=hd_ (HW11.out.trans hh)
 clear hh ho hc9
 clear ja af az jE
 obtain ⟨ja,af,az⟩:=opc_ HW12.out.open_
 have jE:=bd7_ HE12
 have Hix1 : Hid (∀ ch,chanIx cs1 ch = chanIx b.cs ch):=hd_ (by rw [← Hcs1.out];exact fun ch => zxn _ _ _ _ ch)
 have hl1 : cs1.length = b.cs.length:=by rw [← Hcs1.out];exact zxg _ _ _ _
 have HBD1 : Hid (Bd (1125899906842624 + 2251799813685248) cs1):=hd_ (by rw [← Hcs1.out];exact HBD.out.move _ _ _ (by omega) (by omega))
 have HL1:=hd_ hl1
 clear hl1
 go_wp2_with fail
 refine (zjh _ _ B X ⟨b.t,b.n,b.w,cs1,b.hs,(b.os ++ [⟨e.Key,e.Ch,e.To,e.Amt,e.Fee⟩])⟩ L 0 (some ⟨g,0,none⟩) A2 (some ⟨g2,0,none⟩) A4 p1 p2 cap2 p4 e.To 0 (-e.Amt) (by have:=HL1.out;(try simp only);omega) (by (try simp only);rw [Hix1.out];exact Hmo.out) (by have:=HBD1.out.at_ (ch:=e.To) (by rw [Hix1.out];exact Hmo.out);(try simp only);omega) (by omega) (by omega) HW12.out).mono ?_
 rintro e' w13 ⟨rfl,hh,ho⟩
 have HE13:=hd_ (ho g rfl _ _ (fun e9 => HW12.out.o.c.ne_ HE12 (by decide) (by rw [e9];rfl)) HE12)
 obtain ⟨cs2,hc9⟩ : ∃ v,moveC cs1 e.To 0 (-e.Amt) = v:=⟨_,rfl⟩
 rw [hc9] at hh
 have Hcs2:=hd_ hc9
 have HW13:=hd_ (HW12.out.trans hh)
 clear hh ho hc9
 clear ja af az jE
 obtain ⟨ja,af,az⟩:=opc_ HW13.out.open_
 have jE:=bd7_ HE13
 go_wp2_with fail
 refine (zxo _ _ B X ⟨b.t,b.n,b.w,cs2,b.hs,(b.os ++ [⟨e.Key,e.Ch,e.To,e.Amt,e.Fee⟩])⟩ L 0 (some ⟨g,0,none⟩) A2 (some ⟨g2,0,none⟩) A4 p1 p2 cap2 p4 6 e.Ch (-(e.Amt + e.Fee)) (by rw [HL.out];decide) HW13.out).mono ?_
 rintro e' w14 ⟨⟨Cw140,Cw141,Cw142,Cw143,rw140,rw141,rw142,rw143,rfl,hh⟩,ho⟩
 have HE14:=hd_ (ho _ _ HXE HE13)
 obtain ⟨M0,hL9⟩ : ∃ v,lineTo L 6 e.Ch (-(e.Amt + e.Fee)) = v:=⟨_,rfl⟩
 rw [hL9] at hh
 have hlM0 : M0.length ≤ L.length + 1:=by rw [← hL9];exact zqu _ _ _ _
 have HM0:=hd_ hL9
 have HW14:=hd_ (HW13.out.trans hh)
 clear hh ho hL9
 clear ja af az jE
 obtain ⟨ja,af,az⟩:=opc_ HW14.out.open_
 have jE:=bd7_ HE14
 go_wp2_with fail
 refine (zxo _ _ B X ⟨b.t,b.n,b.w,cs2,b.hs,(b.os ++ [⟨e.Key,e.Ch,e.To,e.Amt,e.Fee⟩])⟩ M0 0 Cw140 Cw141 Cw142 Cw143 rw140 rw141 rw142 rw143 8 e.Ch (e.Amt + e.Fee) (by rw [HL.out] at hlM0;simp at hlM0;omega) HW14.out).mono ?_
 rintro e' w15 ⟨⟨Cw150,Cw151,Cw152,Cw153,rw150,rw151,rw152,rw153,rfl,hh⟩,ho⟩
 have HE15:=hd_ (ho _ _ HXE HE14)
 obtain ⟨M1,hL9⟩ : ∃ v,lineTo M0 8 e.Ch (e.Amt + e.Fee) = v:=⟨_,rfl⟩
 rw [hL9] at hh
 have hlM1 : M1.length ≤ M0.length + 1:=by rw [← hL9];exact zqu _ _ _ _
 have HM1:=hd_ hL9
 have HW15:=hd_ (HW14.out.trans hh)
 clear hh ho hL9
 clear ja af az jE
 obtain ⟨ja,af,az⟩:=opc_ HW15.out.open_
 have jE:=bd7_ HE15
 go_wp2_with fail
 go_end0
 rw [HO.out]
 have HZ : nz [⟨6,e.Ch,(-(e.Amt + e.Fee))⟩,⟨8,e.Ch,(e.Amt + e.Fee)⟩] = M1:=by rw [← HM1.out,← HM0.out,HL.out];exact (line2 (by decide)).symm
 rw [HZ,Hcs1.out,Hcs2.out]
 exact Acts.ok ⟨_,_,_,_,_,_,_,_,rfl,HW15.out⟩
end Go.Proofs.YtdbmkfmenfcbiaaGreat
