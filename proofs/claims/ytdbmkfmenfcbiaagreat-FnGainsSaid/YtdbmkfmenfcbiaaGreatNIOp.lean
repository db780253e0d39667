/- A channel is opened: the program's walk. -/
import Derived.Test.YtdbmkfmenfcbiaaGreatRows
import Derived.Test.YtdbmkfmenfcbiaaGreatNILu
import Derived.Test.YtdbmkfmenfcbiaaGreatNSOpen
import Derived.Test.YtdbmkfmenfcbiaaGreatNM2
import Derived.Deep.CutBlock
import Derived.Deep.Cut
namespace Go.Proofs.YtdbmkfmenfcbiaaGreat
open Go.RowKit Go.Deep
theorem ztl {α : Type} (p : α → Bool) : ∀ l : List α,(l.takeWhile p).length ≤ l.length∧l.takeWhile p = l.take (l.takeWhile p).length∧l.dropWhile p = l.drop (l.takeWhile p).length∧(∀ (j : Nat) (h : j < l.length),j < (l.takeWhile p).length → p l[j] = true)∧∀ h : (l.takeWhile p).length < l.length,p l[(l.takeWhile p).length] = false
 | [] => ⟨Nat.le_refl _,rfl,rfl,fun j h => by simp at h,fun h => by simp at h⟩
 | x :: l => by
  obtain ⟨h1,h2,h3,h4,h5⟩:=ztl p l
  cases hx : p x
  ·
   have e : (x :: l).takeWhile p = []:=by rw [List.takeWhile_cons,hx];rfl
   have e2 : (x :: l).dropWhile p = x :: l:=by rw [List.dropWhile_cons,hx];rfl
   rw [e,e2]
   exact ⟨Nat.zero_le _,rfl,rfl,fun j h hj => by simp at hj,fun _ => hx⟩
  have e : (x :: l).takeWhile p = x :: l.takeWhile p:=by rw [List.takeWhile_cons,hx];rfl
  have e2 : (x :: l).dropWhile p = l.dropWhile p:=by rw [List.dropWhile_cons,hx];rfl
  rw [e,e2]
  refine ⟨by simp only [List.length_cons];omega,by rw [List.length_cons,List.take_succ_cons,← h2],by rw [List.length_cons,List.drop_succ_cons,← h3],fun j h hj => ?_,fun h => ?_⟩
  ·
   cases j with
   | zero => exact hx
   | succ j => exact h4 j (by simpa using h) (by simpa using hj)
  exact h5 (by simpa using h)
theorem open_code {b : Bk} {e : Event} {cd : Int} (hs : e.Amt + e.Fee ≤ 1125899906842624) (h2 : chanIx b.cs e.Ch < 0) (h : cd = failF (failF 0 (decide ((20 : Int) ≤ (b.cs.length : Int))) 3) (decide (b.w < e.Amt)) 4) : (cd ≠ 0 → openB b e = bad cd)∧(cd = 0 → b.cs.length < 20∧e.Amt ≤ b.w):=by
 subst h
 by_cases h3 : (20 : Int) ≤ (b.cs.length : Int)
 ·
  rw [zpj hs (.inr (by omega))]
  simp [failF,h3]
 by_cases h4 : b.w < e.Amt
 ·
  rw [openB_4 hs h2 (by omega) h4]
  simp [failF,h3,h4]
 refine ⟨fun h => absurd ?_ h,fun _ => ⟨by omega,by omega⟩⟩
 simp [failF,h3,h4]
set_option maxRecDepth 100000 in
set_option maxHeartbeats 4000000 in
theorem i_open (w0 w : World) (B X : Nat) (b : Bk) (A1 A2 A3 A4 : Option Addr) (p1 p2 p3 p4 : Nat) (e : Event) (hcl : b.cs.length ≤ 20) (hbw : amtB b.w = true) (ha : amtB e.Amt = true) (hf : amtB e.Fee = true) (hs : e.Amt + e.Fee ≤ 1125899906842624) (h : Wk 136 w0 w B X b [] 0 A1 A2 A3 A4 p1 p2 p3 p4) :
  Calls Tryz.prog 89 #[.pointer (some ⟨X,0,none⟩),.agg #[.int .i64 e.Kind,.int .i64 e.Key,.int .i64 e.Ch,.int .i64 e.To,.int .i64 e.Amt,.int .i64 e.Fee,.bool e.Yes]] w (Acts 136 w B X (openB b e)):=by
 have H:=hd_ h.here
 clear h
 obtain ⟨fe1,fe2⟩:=zja.1 hf
 obtain ⟨ae1,ae2⟩:=zja.1 ha
 obtain ⟨be1,be2⟩:=zja.1 hbw
 have HS:=hd_ hs
 clear hf ha hbw
 obtain ⟨i0,hi,hz0,hz1,hz2⟩:=info_parts zjx
 have HI0:=hd_ hi
 have HI1:=hd_ hz0
 have HI2:=hd_ hz1
 have HI3:=hd_ hz2
 clear hi hz0 hz1 hz2
 obtain ⟨a,af,az⟩:=opc_ H.out.open_
 go_enter Tryz.func89,Tryz.ntmps89
 go_wp2_with fail
 have HW_w:=H
 clear a af az
 refine nm_ ?_
 intro w1 hw
 obtain ⟨EB,hB9⟩ : ∃ v9,v9 = w.heap.size:=⟨_,rfl⟩
 try rw [← hB9]
 have HW1:=wka_ hw HW_w
 have HE1 : Hid (Hx w1 EB (evC e) 64):=hd_ (by rw [hw,hB9];exact zqi rfl)
 have HXE : Hid (EB ≠ X):=hd_ (by have:=HW_w.out.lt;omega)
 clear hw hB9
 obtain ⟨a,af,az⟩:=opc_ HW1.out.open_
 have jE:=bd7_ HE1
 obtain ⟨ix,hix⟩ : ∃ v,chanIx b.cs e.Ch = v:=⟨_,rfl⟩
 have HIX:=hd_ hix
 clear hix
 cases t1 : decide (ix ≥ 0)
 rotate_left
 ·
  refine zql (fun w' => kqiiissss w' X b.t b.n b.w A1 b.cs.length p1 A2 b.hs.length p2 A3 b.os.length p3 A4 ([].length) p4 (kqE_ w' EB e)) [yF 0 6,yF 1 7,yF 2 8,yF 3 9,yF 4 10,yF 5 11,yF 6 12,yT 7 13,yF 8 14,yF 9 15,yH 10 16 15,yH 11 17 15,yH 12 18 15,yH 13 19 15,yH 14 20 15,yH 15 21 15,yH 16 22 15,yF 17 23,yT 18 24] (by kernel_rfl) (by kernel_rfl) (by kernel_rfl) (q78_ a jE) (fun hH => ?_)
  obtain ⟨w2,hwd⟩ : ∃ wd,w1.drew = wd:=⟨_,rfl⟩
  have HW2:=wkd_ hwd HW1
  have HE2:=hr_ hwd HE1
  clear a af az jE
  rw [hwd] at hH ⊢
  clear hwd
  obtain ⟨a,af,az⟩:=opc_ HW2.out.open_
  have jE:=bd7_ HE2
  refine tk_ ?_
  refine ss_ (fun K hK => ?_)
  go_simp
  refine (zkc b.t b.n b.w b.cs b.hs b.os _ _ _ _ _ _ e.Ch _ (by omega) HW2.out.o.rd).mono ?_
  rintro e' w3 ⟨rfl,hb⟩
  rw [HIX.out]
  have HW3:=hd_ (HW2.out.below hb)
  have HE3:=hb_ hb HE2
  clear hb
  go_simp
  refine hK.out _ _ (q78_ (opc_ HW3.out.open_).1 (bd7_ HE3)) (fun hH => ?_)
  clear hK K
  refine tk_ ?_
  refine ss_ (fun K hK => ?_)
  go_simp
  refine (zjf _ _ B X b [] 0 A1 A2 A3 A4 p1 p2 p3 p4 true 3 HW3).mono ?_
  rintro e' w4 ⟨rfl,hh,ho⟩
  have HW4:=hd_ (HW3.out.trans hh)
  have HE4:=hd_ (ho _ _ HXE HE3)
  clear hh ho
  clear a af az jE
  obtain ⟨a,af,az⟩:=opc_ HW4.out.open_
  have jE:=bd7_ HE4
  go_simp
  refine hK.out _ _ (q78_ a jE) (fun hH => ?_)
  clear hK K
  refine tk_ ?_
  refine Sq.done (NoPanic.normal ?_)
  go_wp2_with fail
  refine zql (fun w' => kqiiissss w' X b.t b.n b.w A1 b.cs.length p1 A2 b.hs.length p2 A3 b.os.length p3 A4 ([].length) p4 (kqE_ w' EB e)) [yF 0 25,yF 1 26,yF 2 27,yF 3 28,yF 4 29,yF 5 30,yF 6 31,yF 7 32,yF 8 33,yT 9 34] (by kernel_rfl) (by kernel_rfl) (by kernel_rfl) (q78_ a jE) (fun hH => ?_)
  obtain ⟨w5,hwd⟩ : ∃ wd,w4.drew = wd:=⟨_,rfl⟩
  have HW5:=wkd_ hwd HW4
  have HE5:=hr_ hwd HE4
  clear a af az jE
  rw [hwd] at hH ⊢
  clear hwd
  obtain ⟨a,af,az⟩:=opc_ HW5.out.open_
  have jE:=bd7_ HE5
  refine tk_ ?_
  refine ss_ (fun K hK => ?_)
  go_simp
  refine (zjf _ _ B X b [] (failF 0 true 3) A1 A2 A3 A4 p1 p2 p3 p4 (decide (b.w < e.Amt)) 4 HW5).mono ?_
  rintro e' w6 ⟨rfl,hh,ho⟩
  have HW6:=hd_ (HW5.out.trans hh)
  have HE6:=hd_ (ho _ _ HXE HE5)
  clear hh ho
  clear a af az jE
  obtain ⟨a,af,az⟩:=opc_ HW6.out.open_
  have jE:=bd7_ HE6
  go_simp
  refine hK.out _ _ (q78_ a jE) (fun hH => ?_)
  clear hK K
  refine tk_ ?_
  refine Sq.done (NoPanic.normal ?_)
  obtain ⟨cd,hcd⟩ : ∃ v,v = (failF (failF 0 true 3) (decide (b.w < e.Amt)) 4):=⟨_,rfl⟩
  rw [← hcd] at HW6
  have HCcd:=hd_ hcd
  clear hcd
  clear a af az jE
  obtain ⟨a,af,az⟩:=opc_ HW6.out.open_
  have jE:=bd7_ HE6
  have t1x:=of_decide_eq_true t1
  have HO:=hd_ (zpj (b:=b) (e:=e) HS (.inl (by rw [HIX.out];exact t1x)))
  have hc3 : cd = 3:=by rw [HCcd.out];simp [failF]
  subst hc3
  go_wp2_with fail
  go_end0
  rw [HO.out]
  exact Acts.no (by decide) ⟨_,_,_,_,_,_,_,_,rfl,HW6.out⟩
 refine zql (fun w' => kqiiissss w' X b.t b.n b.w A1 b.cs.length p1 A2 b.hs.length p2 A3 b.os.length p3 A4 ([].length) p4 (kqE_ w' EB e)) [yF 0 6,yF 1 7,yF 2 8,yF 3 9,yF 4 10,yF 5 11,yF 6 12,yT 7 13,yF 8 14,yF 9 15,yH 10 16 15,yH 11 17 15,yH 12 18 15,yH 13 19 15,yH 14 20 15,yH 15 21 15,yH 16 22 15,yF 17 23,yT 18 24] (by kernel_rfl) (by kernel_rfl) (by kernel_rfl) (q78_ a jE) (fun hH => ?_)
 obtain ⟨w2,hwd⟩ : ∃ wd,w1.drew = wd:=⟨_,rfl⟩
 have HW2:=wkd_ hwd HW1
 have HE2:=hr_ hwd HE1
 clear a af az jE
 rw [hwd] at hH ⊢
 clear hwd
 obtain ⟨a,af,az⟩:=opc_ HW2.out.open_
 have jE:=bd7_ HE2
 refine tk_ ?_
 refine ss_ (fun K hK => ?_)
 go_simp
 refine (zkc b.t b.n b.w b.cs b.hs b.os _ _ _ _ _ _ e.Ch _ (by omega) HW2.out.o.rd).mono ?_
 rintro e' w3 ⟨rfl,hb⟩
 rw [HIX.out]
 have HW3:=hd_ (HW2.out.below hb)
 have HE3:=hb_ hb HE2
 clear hb
 go_simp
 refine hK.out _ _ (q78_ (opc_ HW3.out.open_).1 (bd7_ HE3)) (fun hH => ?_)
 clear hK K
 refine tk_ ?_
 refine ss_ (fun K hK => ?_)
 go_simp
 refine (zjf _ _ B X b [] 0 A1 A2 A3 A4 p1 p2 p3 p4 (decide ((20 : Int) ≤ (b.cs.length : Int))) 3 HW3).mono ?_
 rintro e' w4 ⟨rfl,hh,ho⟩
 have HW4:=hd_ (HW3.out.trans hh)
 have HE4:=hd_ (ho _ _ HXE HE3)
 clear hh ho
 clear a af az jE
 obtain ⟨a,af,az⟩:=opc_ HW4.out.open_
 have jE:=bd7_ HE4
 go_simp
 refine hK.out _ _ (q78_ a jE) (fun hH => ?_)
 clear hK K
 refine tk_ ?_
 refine Sq.done (NoPanic.normal ?_)
 go_wp2_with fail
 refine zql (fun w' => kqiiissss w' X b.t b.n b.w A1 b.cs.length p1 A2 b.hs.length p2 A3 b.os.length p3 A4 ([].length) p4 (kqE_ w' EB e)) [yF 0 25,yF 1 26,yF 2 27,yF 3 28,yF 4 29,yF 5 30,yF 6 31,yF 7 32,yF 8 33,yT 9 34] (by kernel_rfl) (by kernel_rfl) (by kernel_rfl) (q78_ a jE) (fun hH => ?_)
 obtain ⟨w5,hwd⟩ : ∃ wd,w4.drew = wd:=⟨_,rfl⟩
 have HW5:=wkd_ hwd HW4
 have HE5:=hr_ hwd HE4
 clear a af az jE
 rw [hwd] at hH ⊢
 clear hwd
 obtain ⟨a,af,az⟩:=opc_ HW5.out.open_
 have jE:=bd7_ HE5
 refine tk_ ?_
 refine ss_ (fun K hK => ?_)
 go_simp
 refine (zjf _ _ B X b [] (failF 0 (decide ((20 : Int) ≤ (b.cs.length : Int))) 3) A1 A2 A3 A4 p1 p2 p3 p4 (decide (b.w < e.Amt)) 4 HW5).mono ?_
 rintro e' w6 ⟨rfl,hh,ho⟩
 have HW6:=hd_ (HW5.out.trans hh)
 have HE6:=hd_ (ho _ _ HXE HE5)
 clear hh ho
 clear a af az jE
 obtain ⟨a,af,az⟩:=opc_ HW6.out.open_
 have jE:=bd7_ HE6
 go_simp
 refine hK.out _ _ (q78_ a jE) (fun hH => ?_)
 clear hK K
 refine tk_ ?_
 refine Sq.done (NoPanic.normal ?_)
 obtain ⟨cd,hcd⟩ : ∃ v,v = (failF (failF 0 (decide ((20 : Int) ≤ (b.cs.length : Int))) 3) (decide (b.w < e.Amt)) 4):=⟨_,rfl⟩
 rw [← hcd] at HW6
 have HCcd:=hd_ hcd
 clear hcd
 clear a af az jE
 obtain ⟨a,af,az⟩:=opc_ HW6.out.open_
 have jE:=bd7_ HE6
 have t1x:=of_decide_eq_false t1
 obtain ⟨hcA,hcB⟩:=open_code HS (by rw [HIX.out];omega) HCcd
 have HCA:=hd_ hcA
 have HCB:=hd_ hcB
 clear hcA hcB
 cases tc : (cd != 0)
 rotate_left
 ·
  have hne : cd ≠ 0:=by simpa using tc
  go_wp2_with fail
  go_end0
  rw [HCA.out hne]
  exact Acts.no hne ⟨_,_,_,_,_,_,_,_,rfl,HW6.out⟩
 have hcd0 : cd = 0:=by simpa using tc
 obtain ⟨c20,cw⟩:=HCB.out hcd0
 have HO:=hd_ (openB_ok (b:=b) (e:=e) HS (by rw [HIX.out];omega) c20 cw)
 obtain ⟨k,f1,HI,f4,f5⟩ : ∃ k,k ≤ b.cs.length∧Hid (insC (⟨e.Ch,e.Amt + e.Fee,e.Amt,e.Fee,0,0,0⟩ : Chan) b.cs = b.cs.take k ++ (⟨e.Ch,e.Amt + e.Fee,e.Amt,e.Fee,0,0,0⟩ : Chan) :: b.cs.drop k)∧(∀ (j : Nat) (h : j < b.cs.length),j < k → decide (b.cs[j].Id < e.Ch) = true)∧∀ h : k < b.cs.length,decide (b.cs[k].Id < e.Ch) = false:=by
  obtain ⟨f1,f2,f3,f4,f5⟩:=ztl (fun x : Chan => decide (x.Id < e.Ch)) b.cs
  exact ⟨_,f1,hd_ (by unfold insC;simp only;rw [← f3];congr 1),f4,f5⟩
 have F4:=hd_ f4
 have F5:=hd_ f5
 clear f4 f5 t1 t1x
 go_upto_region 4 with fail
 go_upto_block 0 with (fail)
 clear a af az jE
 go_cut [4] from 40 to 63 (fun iv wx => iv = .int .i64 k∧Hid (Wk 136 w wx B X b [] cd A1 A2 A3 A4 p1 p2 p3 p4)∧Hid (Hx wx EB (evC e) 64))
 case first =>
  go_wp2_with fail
  go_loopw [4] (fun iv wr => ∃ j : Nat,j ≤ k∧iv = .int .i64 j∧Hid (Wk 136 w wr B X b [] cd A1 A2 A3 A4 p1 p2 p3 p4)∧Hid (Hx wr EB (evC e) 64)) (fun iv _ => k - (intOf iv).toNat)
  case atStart => exact ⟨0,Nat.zero_le _,rfl,HW6,HE6⟩
  case round =>
   clear HW6 HE6
   obtain ⟨j,hj,rfl,HW_wr,HE_wr⟩:=hrel
   by_cases hlt : j < b.cs.length
   rotate_left
   ·
    have jd : decide ((j : Int) < (b.cs.length : Int)) = false:=decide_eq_false (by omega)
    obtain ⟨a,af,az⟩:=opc_ HW_wr.out.open_
    have jE:=bd7_ HE_wr
    go_wp2_with fail
    refine zql (fun w' => kqiiissss w' X b.t b.n b.w A1 b.cs.length p1 A2 b.hs.length p2 A3 b.os.length p3 A4 ([].length) p4 (kqE_ w' EB e)) [yF 0 40,yF 1 41,yF 2 42,yF 3 43,yF 4 44,yF 5 45,yF 6 46,yF 7 47,yF 8 48,yG 9 49 48,yG 10 50 48,yG 11 51 48,yG 12 52 48,yG 13 53 48,yG 14 54 48,yG 15 55 48,yG 16 56 48,yG 17 57 48,yG 18 58 48,yG 19 59 48,yG 20 60 48,yF 21 61] (by kernel_rfl) (by kernel_rfl) (by kernel_rfl) (q78_ a jE) (fun hH => ?_)
    obtain ⟨w41,hwd⟩ : ∃ wd,wr.drew = wd:=⟨_,rfl⟩
    have HW41:=wkd_ hwd HW_wr
    have HE41:=hr_ hwd HE_wr
    clear a af az jE
    rw [hwd] at hH ⊢
    clear hwd
    obtain ⟨a,af,az⟩:=opc_ HW41.out.open_
    have jE:=bd7_ HE41
    refine tk_ ?_
    refine Sq.done (NoPanic.normal ?_)
    go_wp2_with fail
    go_meet
    case rel => exact ⟨by rw [show j = k by omega],HW41,HE41⟩
   obtain ⟨g,hA,hBg⟩:=HW_wr.out.o.c.headW (by rw [List.length_map];(try simp only);omega)
   subst hA
   have HLT:=hd_ hlt
   have j0 : (0 : Int) ≤ (j : Int):=by omega
   have j1 : (j : Int) < (b.cs.length : Int):=by omega
   have jd : decide ((j : Int) < (b.cs.length : Int)) = true:=decide_eq_true j1
   obtain ⟨c,hc⟩ : ∃ c,b.cs[j]'hlt = c:=⟨_,rfl⟩
   have hr : (b.cs.map Chan.cells)[j]? = some c.cells:=by rw [List.getElem?_map,List.getElem?_eq_getElem hlt,hc];rfl
   obtain ⟨y0,y1,y2,y3,y4,y5,y6⟩:=c
   have HRowy:=hd_ hr
   have HCIy:=hd_ hc
   clear hr hc
   obtain ⟨a,af,az⟩:=opc_ HW_wr.out.open_
   have jE:=bd7_ HE_wr
   have yc:=HW_wr.out.o.c.cellAt HRowy (j:=0) (by decide)
   simp only [Chan.cells,List.getElem?_cons_zero,Nat.add_zero] at yc
   by_cases hjk : j < k
   ·
    have ht : decide (y0 < e.Ch) = true:=by have:=F4.out j hlt hjk;rw [HCIy.out] at this;exact this
    go_wp2_with fail
    refine zql (fun w' => kqiiissss w' X b.t b.n b.w (some ⟨g,0,none⟩) b.cs.length p1 A2 b.hs.length p2 A3 b.os.length p3 A4 ([].length) p4 (kqE w' EB e (kqio_ w' g (j * 7) y0))) [yF 0 40,yF 1 41,yF 2 42,yF 3 43,yF 4 44,yF 5 45,yF 6 46,yF 7 47,yF 8 48,yG 9 49 48,yG 10 50 48,yG 11 51 48,yG 12 52 48,yG 13 53 48,yG 14 54 48,yG 15 55 48,yG 16 56 48,yG 17 57 48,yG 18 58 48,yG 19 59 48,yG 20 60 48,yF 21 61] (by kernel_rfl) (by kernel_rfl) (by kernel_rfl) (q78_ a (q7_ jE yc)) (fun hH => ?_)
    obtain ⟨w41,hwd⟩ : ∃ wd,wr.drew = wd:=⟨_,rfl⟩
    have HW41:=wkd_ hwd HW_wr
    have HE41:=hr_ hwd HE_wr
    clear a af az jE
    rw [hwd] at hH ⊢
    clear hwd
    obtain ⟨a,af,az⟩:=opc_ HW41.out.open_
    have jE:=bd7_ HE41
    refine tk_ ?_
    refine Sq.done (NoPanic.normal ?_)
    go_wp2_with fail
    go_roundw
    case rel => exact ⟨j + 1,by omega,by go_num,HW41,HE41⟩
    case measure => simp [intOf];omega
   have ht : decide (y0 < e.Ch) = false:=by
    obtain rfl : j = k:=by omega
    have:=F5.out hlt
    rw [HCIy.out] at this
    exact this
   go_wp2_with fail
   refine zql (fun w' => kqiiissss w' X b.t b.n b.w (some ⟨g,0,none⟩) b.cs.length p1 A2 b.hs.length p2 A3 b.os.length p3 A4 ([].length) p4 (kqE w' EB e (kqio_ w' g (j * 7) y0))) [yF 0 40,yF 1 41,yF 2 42,yF 3 43,yF 4 44,yF 5 45,yF 6 46,yF 7 47,yF 8 48,yG 9 49 48,yG 10 50 48,yG 11 51 48,yG 12 52 48,yG 13 53 48,yG 14 54 48,yG 15 55 48,yG 16 56 48,yG 17 57 48,yG 18 58 48,yG 19 59 48,yG 20 60 48,yF 21 61] (by kernel_rfl) (by kernel_rfl) (by kernel_rfl) (q78_ a (q7_ jE yc)) (fun hH => ?_)
   obtain ⟨w41,hwd⟩ : ∃ wd,wr.drew = wd:=⟨_,rfl⟩
   have HW41:=wkd_ hwd HW_wr
   have HE41:=hr_ hwd HE_wr
   clear a af az jE
   rw [hwd] at hH ⊢
   clear hwd
   obtain ⟨a,af,az⟩:=opc_ HW41.out.open_
   have jE:=bd7_ HE41
   refine tk_ ?_
   refine Sq.done (NoPanic.normal ?_)
   go_wp2_with fail
   go_meet
   case rel => exact ⟨by rw [show j = k by omega],HW41,HE41⟩
 case rest =>
  obtain ⟨rfl,HW_wc,HE_wc⟩:=hcut
  clear HW6 HE6 F4 F5
  obtain ⟨a,af,az⟩:=opc_ HW_wc.out.open_
  have jE:=bd7_ HE_wc
  have ws : IntKind.i64.wrap (e.Amt + e.Fee) = e.Amt + e.Fee:=IntWalk.i64_in _ ⟨by omega,by have:=HS.out;omega⟩
  go_wp2_with fail
  refine nm_ ?_
  intro w61 hw
  obtain ⟨CB,hB9⟩ : ∃ v9,v9 = wc.heap.size:=⟨_,rfl⟩
  try rw [← hB9]
  have HW61:=wka_ hw HW_wc
  have HE61:=ha_ hw HE_wc
  clear a af az jE
  have HC61 : Hid (Hx w61 CB (qaiiiiiii e.Ch (e.Amt + e.Fee) e.Amt e.Fee 0 0 0) 103):=hd_ (by rw [hw,hB9];exact zqi rfl)
  have HXC : Hid (CB ≠ X):=hd_ (by have:=HW_wc.out.lt;omega)
  clear hw hB9
  obtain ⟨a,af,az⟩:=opc_ HW61.out.open_
  have jE:=bd7_ HE61
  have C:=bd7_ HC61
  have cp0 : b.cs.length ≤ p1:=by obtain ⟨_,_,e9,_,h9,_⟩:=HW61.out.o.c.form;injection e9 with _ _ e9;rw [e9];simpa using h9
  have cp1 : k ≤ p1:=by omega
  obtain ⟨T9,hAT⟩ : ∃ v : Option Addr,tailA A1 p1 k 7 = v:=⟨_,rfl⟩
  have SLt:=fun W : World => sl_to (P:=Tryz.prog) (t:=35) (size:=7) (n:=b.cs.length) (cap:=p1) (k:=k) (A:=A1) (x:=(k : Int)) (by kernel_rfl) zhi rfl cp1 W
  have SL:=fun W : World => zws (P:=Tryz.prog) (t:=35) (size:=7) (n:=b.cs.length) (cap:=p1) (k:=k) (A:=A1) (x:=(k : Int)) (by kernel_rfl) zhi rfl f1 W
  rw [hAT] at SL
  have HAT:=hd_ hAT
  clear hAT
  have hlk : ((b.cs.map Chan.cells).take k).length = k:=by rw [List.length_take,List.length_map];omega
  have hld : ((b.cs.map Chan.cells).drop k).length = b.cs.length - k:=by rw [List.length_drop,List.length_map]
  refine ztr (fun w' => kqiiissss w' X b.t b.n b.w A1 b.cs.length p1 A2 b.hs.length p2 A3 b.os.length p3 A4 ([].length) p4 (kqE w' EB e (kqiiiiiii_ w' CB e.Ch (e.Amt + e.Fee) e.Amt e.Fee 0 0 0))) [yF 0 76,yF 1 77,yF 2 78,yF 3 79,yF 4 80,yF 5 81,yF 6 82,yF 7 83,yF 9 85,yF 12 88,yF 13 89,yF 14 90,yF 15 91,yF 16 92,yF 17 93,yF 18 94] [yT 8 84,yT 10 86,yT 11 87,yT 19 95,yF 20 96,yF 21 97,yF 22 98] [yT 10 86,yT 8 84,yT 11 87,yT 19 95,yF 20 96,yF 21 97,yF 22 98] rfl (by kernel_rfl) (by kernel_rfl) (by kernel_rfl) (by kernel_rfl) (by kernel_rfl) (by kernel_rfl) (q78_ a (q7_ jE C)) (fun hH => ?_)
  obtain ⟨w62,hwd⟩ : ∃ wd,w61.drew = wd:=⟨_,rfl⟩
  have HW62:=wkd_ hwd HW61
  have HE62:=hr_ hwd HE61
  have HC62:=hr_ hwd HC61
  clear a af az jE C
  rw [hwd] at hH ⊢
  clear hwd
  obtain ⟨a,af,az⟩:=opc_ HW62.out.open_
  have jE:=bd7_ HE62
  have C:=bd7_ HC62
  refine tk_ ?_
  have HRT : Hid (Rd w62 w62.heap.size 7 T9 ((b.cs.map Chan.cells).drop k)):=hd_ (by rw [← HAT.out];exact HW62.out.o.c.rd.from_ (cap:=p1) (by rw [List.length_map];exact cp0) k)
  refine Sq.done ⟨?_,?_⟩
  ·
   refine ss_ (fun K hK => ?_)
   refine zje (ops:=#[]) (E:=True) rfl (zji rfl _ _ _ rfl w62.heap.size 103 i0 _ 7 56 Tryz.underlying35 HI0 HI1 HI2 HI3 rfl (by decide) (none) (0) ([]) (0) (rfl) (by rfl) (Ow.nil_) (A1) (p1) ((b.cs.map Chan.cells).take k) (k) (hlk.symm) (by rfl) w62.heap.size (HW62.out.o.c.rd.take k |>.below (Below.refl w62.heap.size w62)) (by intro u hu;exact zkd b.cs u (by obtain ⟨r9,h9,h8⟩:=List.mem_flatten.1 hu;exact List.mem_flatten.2 ⟨r9,List.mem_of_mem_take h9,h8⟩)) (by rw [hlk];simp only [List.length_nil];omega) (by decide) (Below.refl w62.heap.size w62).size ?_)
   intro A5 cap5 x5 how5 hbb5 hgr5
   rw [Nat.zero_add,List.nil_append] at how5
   rw [Nat.zero_add]
   have HO5:=hd_ how5
   clear how5
   have hb_x5 : Below w62.heap.size w62 x5:=(Below.refl w62.heap.size w62).trans hbb5
   clear a af az jE C
   have HW_x5:=hd_ (HW62.out.below hb_x5)
   have HE_x5:=hd_ (zqr hb_x5 (gz_ HE62).1 HE62)
   have HC_x5:=hd_ (zqr hb_x5 (gz_ HC62).1 HC62)
   obtain ⟨a,af,az⟩:=opc_ HW_x5.out.open_
   have jE:=bd7_ HE_x5
   have C:=bd7_ HC_x5
   clear hbb5 hgr5
   go_simp
   refine hK.out _ _ (q78_ a (q7_ jE C)) (fun hH => ?_)
   clear hK K
   refine tk_ ?_
   refine ss_ (fun K hK => ?_)
   go_simp
   refine zxu (fun x4 hw => ?_)
   obtain ⟨NB,hNB⟩ : ∃ v,v = x5.heap.size:=⟨_,rfl⟩
   try rw [← hNB]
   have HB_x4 : Hid (Hx x4 NB (qaiiiiiii e.Ch (e.Amt + e.Fee) e.Amt e.Fee 0 0 0) 103):=hd_ (by rw [hw,hNB];exact zqi rfl)
   have HO5b:=hd_ (show Ow x4 _ _ _ _ _ by rw [hw];exact HO5.out.alloc _)
   clear HO5
   have HO5:=HO5b
   clear HO5b
   have hb_x4 : Below w62.heap.size w62 x4:=by rw [hw];exact (hb_x5).alloc (hb_x5).size _
   clear a af az jE C
   have HW_x4:=hd_ (HW62.out.below hb_x4)
   have HE_x4:=hd_ (zqr hb_x4 (gz_ HE62).1 HE62)
   have HC_x4:=hd_ (zqr hb_x4 (gz_ HC62).1 HC62)
   obtain ⟨a,af,az⟩:=opc_ HW_x4.out.open_
   have jE:=bd7_ HE_x4
   have C:=bd7_ HC_x4
   clear hw hNB
   go_simp
   refine hK.out _ _ (q78_ a (q7_ jE C)) (fun hH => ?_)
   clear hK K
   refine tk_ ?_
   refine ss_ (fun K hK => ?_)
   refine zje (ops:=#[]) (E:=True) rfl (zks rfl _ _ _ rfl w62.heap.size 103 i0 _ 7 56 Tryz.underlying35 HI0 HI1 HI2 HI3 rfl (by decide) (.slice A5 k cap5) _ (by rfl) HO5 NB 1 [.int .i64 e.Ch,.int .i64 (e.Amt + e.Fee),.int .i64 e.Amt,.int .i64 e.Fee,.int .i64 0,.int .i64 0,.int .i64 0] 103 (by rfl) HB_x4 rfl (by simp [Value.oneCell']) (by rw [hlk];omega) (by decide) (hb_x4).size ?_)
   intro g6 cap6 x6 how6 hgr6 hat6 hlt6
   rw [hlk] at how6
   rw [hlk]
   have HO6:=hd_ how6
   clear how6 hat6
   have hb_x6 : Below w62.heap.size w62 x6:=Below.grown (hb_x4) hgr6 (hb_x4).size (fun k9 e9 => (HO5.out.block k9 e9).1)
   clear a af az jE C
   have HW_x6:=hd_ (HW62.out.below hb_x6)
   have HE_x6:=hd_ (zqr hb_x6 (gz_ HE62).1 HE62)
   have HC_x6:=hd_ (zqr hb_x6 (gz_ HC62).1 HC62)
   obtain ⟨a,af,az⟩:=opc_ HW_x6.out.open_
   have jE:=bd7_ HE_x6
   have C:=bd7_ HC_x6
   clear hgr6 HO5
   go_simp
   refine hK.out _ _ (q78_ a (q7_ jE C)) (fun hH => ?_)
   clear hK K
   refine tk_ ?_
   refine ss_ (fun K hK => ?_)
   refine zje (ops:=#[]) (E:=True) rfl (zji rfl _ _ _ rfl w62.heap.size 103 i0 _ 7 56 Tryz.underlying35 HI0 HI1 HI2 HI3 rfl (by decide) (some ⟨g6,0,none⟩) (cap6) ((b.cs.map Chan.cells).take k ++ [[.int .i64 e.Ch,.int .i64 (e.Amt + e.Fee),.int .i64 e.Amt,.int .i64 e.Fee,.int .i64 0,.int .i64 0,.int .i64 0]]) (k + 1) (by rw [List.length_append,hlk];rfl) (by rfl) (HO6.out) (T9) (p1 - k) ((b.cs.map Chan.cells).drop k) (b.cs.length - k) (hld.symm) (by rfl) w62.heap.size (HRT.out.below (hb_x6)) (by intro u hu;exact zkd b.cs u (by obtain ⟨r9,h9,h8⟩:=List.mem_flatten.1 hu;exact List.mem_flatten.2 ⟨r9,List.mem_of_mem_drop h9,h8⟩)) (by rw [List.length_append,hlk,hld];simp only [List.length_cons,List.length_nil];omega) (by decide) (hb_x6).size ?_)
   intro A7 cap7 x7 how7 hbb7 hgr7
   obtain ⟨l9,hl9⟩ : ∃ l9,l9 = insC (⟨e.Ch,e.Amt + e.Fee,e.Amt,e.Fee,0,0,0⟩ : Chan) b.cs:=⟨_,rfl⟩
   have hl7 : l9 = b.cs.take k ++ (⟨e.Ch,e.Amt + e.Fee,e.Amt,e.Fee,0,0,0⟩ : Chan) :: b.cs.drop k:=hl9.trans HI
   have hl8 : k + 1 + (b.cs.length - k) = l9.length:=by rw [hl7,List.length_append,List.length_take,List.length_cons,List.length_drop];omega
   rw [hl8] at how7 ⊢
   have HOE : Hid (Ow x7 B 103 7 (.slice A7 l9.length cap7) (l9.map Chan.cells)):=hd_ (by have h9:=how7.more (B':=B) HW62.out.ble;have e9 : l9.map Chan.cells = (b.cs.map Chan.cells).take k ++ [[.int .i64 e.Ch,.int .i64 (e.Amt + e.Fee),.int .i64 e.Amt,.int .i64 e.Fee,.int .i64 0,.int .i64 0,.int .i64 0]] ++ (b.cs.map Chan.cells).drop k:=(by rw [hl7,List.map_append,List.map_cons,List.map_take,List.map_drop,List.append_assoc];rfl);rw [e9];exact h9)
   have HLE:=hd_ hl9
   have hb_x7 : Below w62.heap.size w62 x7:=(hb_x6).trans hbb7
   clear a af az jE C
   have HW_x7:=hd_ (HW62.out.below hb_x7)
   have HE_x7:=hd_ (zqr hb_x7 (gz_ HE62).1 HE62)
   have HC_x7:=hd_ (zqr hb_x7 (gz_ HC62).1 HC62)
   obtain ⟨a,af,az⟩:=opc_ HW_x7.out.open_
   have jE:=bd7_ HE_x7
   have C:=bd7_ HC_x7
   clear how7 hbb7 hgr7 HO6 hl7 hl8 hl9 hlk hld SL SLt cp0 cp1
   go_simp
   refine hK.out _ _ (q78_ a (q7_ jE C)) (fun hH => ?_)
   clear hK K
   refine tk_ ?_
   refine Sq.done ?_
   intro KK hKK
   go_simp
   refine hKK _ _ (NoPanic.normal ?_)
   refine nm_ ?_
   intro w63 hw
   have HW63 : Hid (Wk 136 w w63 B X ⟨b.t,b.n,b.w,l9,b.hs,b.os⟩ [] cd A7 A2 A3 A4 cap7 p2 p3 p4):=hd_ (by rw [hw];exact HW_x7.out.setC (by decide) (by decide) (by decide) (by decide) HOE)
   have HE63:=hf_ hw HXE HE_x7
   have HC63:=hf_ hw HXC HC_x7
   clear hw
   clear a af az jE C
   obtain ⟨a,af,az⟩:=opc_ HW63.out.open_
   have jE:=bd7_ HE63
   have C:=bd7_ HC63
   have hwz : IntKind.i64.wrap (b.w - e.Amt) = b.w - e.Amt:=IntWalk.i64_in _ (by omega)
   go_wp2_with fail
   refine zqs (fun w' => kqiiissss w' X b.t b.n b.w A7 l9.length cap7 A2 b.hs.length p2 A3 b.os.length p3 A4 ([].length) p4 (kqE w' EB e (kqiiiiiii_ w' CB e.Ch (e.Amt + e.Fee) e.Amt e.Fee 0 0 0))) [yF 0 99,yF 1 100,yF 2 101,yF 3 102,yF 4 103,yF 5 104,yF 6 105,yF 7 106,yF 8 107,yF 9 108,yF 10 109] rfl (by kernel_rfl) (by kernel_rfl) (by kernel_rfl) (by kernel_rfl) (by kernel_rfl) (by kernel_rfl) (q78_ a (q7_ jE C)) (fun hH => ?_)
   obtain ⟨w64,hwd⟩ : ∃ wd,w63.drew = wd:=⟨_,rfl⟩
   have HW64:=wkd_ hwd HW63
   have HE64:=hr_ hwd HE63
   have HC64:=hr_ hwd HC63
   clear a af az jE C
   rw [hwd] at hH ⊢
   clear hwd
   obtain ⟨a,af,az⟩:=opc_ HW64.out.open_
   have jE:=bd7_ HE64
   have C:=bd7_ HC64
   refine tk_ ?_
   refine Sq.done ?_
   intro KK hKK
   go_simp
   refine hKK _ _ (NoPanic.normal ?_)
   refine nm_ ?_
   intro w65 hw
   have HW65 : Hid (Wk 136 w w65 B X ⟨b.t,b.n,b.w - e.Amt,l9,b.hs,b.os⟩ [] cd A7 A2 A3 A4 cap7 p2 p3 p4):=hd_ (by rw [hw];exact HW64.out.setWallet (by decide) (by decide) (by decide) (by decide) _)
   have HE65:=hf_ hw HXE HE64
   have HC65:=hf_ hw HXC HC64
   clear hw
   clear a af az jE C
   obtain ⟨a,af,az⟩:=opc_ HW65.out.open_
   have jE:=bd7_ HE65
   have C:=bd7_ HC65
   go_wp2_with fail
   refine (zjg _ _ B X ⟨b.t,b.n,b.w - e.Amt,l9,b.hs,b.os⟩ [] cd A7 A2 A3 A4 cap7 p2 p3 p4 6 e.Ch e.Amt (by decide) (by (try simp only);omega) (fun y hy => by cases hy) (fun y hy => by cases hy) HW65).mono ?_
   rintro e' w66 ⟨⟨Cw660,Cw661,Cw662,Cw663,rw660,rw661,rw662,rw663,rfl,hh⟩,ho⟩
   have HE66:=hd_ (ho _ _ HXE HE65)
   have HC66:=hd_ (ho _ _ HXC HC65)
   obtain ⟨M0,hL9⟩ : ∃ v,lineTo [] 6 e.Ch e.Amt = v:=⟨_,rfl⟩
   rw [hL9] at hh
   have HMl0:=hd_ hL9
   have HW66:=hd_ (HW65.out.trans hh)
   clear hh ho hL9
   clear a af az jE C
   obtain ⟨a,af,az⟩:=opc_ HW66.out.open_
   have jE:=bd7_ HE66
   have C:=bd7_ HC66
   have HLM0 : Hid (M0.length ≤ 1):=hd_ (by rw [← HMl0.out];have h9:=zqu [] (6) (e.Ch) (e.Amt);have h8 : ([] : List Line).length ≤ 0:=Nat.le_refl _;omega)
   have HQ0 : Hid (∀ y ∈ M0,y = ⟨6,e.Ch,e.Amt⟩):=hd_ (fun y hy => by rw [← HMl0.out] at hy;rcases zxk (fun y hy => by cases hy) hy with h9 | h9;cases h9;exact h9)
   go_wp2_with fail
   refine (zjg _ _ B X ⟨b.t,b.n,b.w - e.Amt,l9,b.hs,b.os⟩ M0 cd Cw660 Cw661 Cw662 Cw663 rw660 rw661 rw662 rw663 1 0 (-e.Amt) (by have:=HLM0.out;omega) (by (try simp only);omega) (fun y hy => by rcases HQ0 y hy with rfl <;> (simp only;omega)) (fun y hy => by rcases HQ0 y hy with rfl <;> (simp only;omega)) HW66).mono ?_
   rintro e' w67 ⟨⟨Cw670,Cw671,Cw672,Cw673,rw670,rw671,rw672,rw673,rfl,hh⟩,ho⟩
   have HE67:=hd_ (ho _ _ HXE HE66)
   have HC67:=hd_ (ho _ _ HXC HC66)
   obtain ⟨M1,hL9⟩ : ∃ v,lineTo M0 1 0 (-e.Amt) = v:=⟨_,rfl⟩
   rw [hL9] at hh
   have HMl1:=hd_ hL9
   have HW67:=hd_ (HW66.out.trans hh)
   clear hh ho hL9
   clear a af az jE C
   obtain ⟨a,af,az⟩:=opc_ HW67.out.open_
   have jE:=bd7_ HE67
   have C:=bd7_ HC67
   have HLM1 : Hid (M1.length ≤ 2):=hd_ (by rw [← HMl1.out];have h9:=zqu M0 (1) (0) ((-e.Amt));have h8 : (M0).length ≤ 1:=HLM0.out;omega)
   have HQ1 : Hid (∀ y ∈ M1,y = ⟨6,e.Ch,e.Amt⟩ ∨ y = ⟨1,0,(-e.Amt)⟩):=hd_ (fun y hy => by rw [← HMl1.out] at hy;rcases zxk (fun y hy => by rcases HQ0 y hy with rfl <;> (simp only;omega)) hy with h9 | h9;exact HQ0 y h9 |> Or.inl;exact Or.inr h9)
   go_wp2_with fail
   go_end0
   rw [HO.out]
   have HZ : nz [⟨1,0,-e.Amt⟩,⟨6,e.Ch,e.Amt⟩] = M1:=by rw [← HMl1.out,← HMl0.out];exact (line2r (by decide)).symm
   rw [HZ,← HLE.out]
   rw [hcd0] at HW67
   exact Acts.ok ⟨_,_,_,_,_,_,_,_,rfl,HW67.out⟩
  refine ss_ (fun K hK => ?_)
  go_simp
  refine zxu (fun x4 hw => ?_)
  obtain ⟨NB,hNB⟩ : ∃ v,v = w62.heap.size:=⟨_,rfl⟩
  try rw [← hNB]
  have HB_x4 : Hid (Hx x4 NB (qaiiiiiii e.Ch (e.Amt + e.Fee) e.Amt e.Fee 0 0 0) 103):=hd_ (by rw [hw,hNB];exact zqi rfl)
  have hb_x4 : Below w62.heap.size w62 x4:=by rw [hw];exact (Below.refl w62.heap.size w62).alloc (Below.refl w62.heap.size w62).size _
  clear a af az jE C
  have HW_x4:=hd_ (HW62.out.below hb_x4)
  have HE_x4:=hd_ (zqr hb_x4 (gz_ HE62).1 HE62)
  have HC_x4:=hd_ (zqr hb_x4 (gz_ HC62).1 HC62)
  obtain ⟨a,af,az⟩:=opc_ HW_x4.out.open_
  have jE:=bd7_ HE_x4
  have C:=bd7_ HC_x4
  clear hw hNB
  go_simp
  refine hK.out _ _ (q78_ a (q7_ jE C)) (fun hH => ?_)
  clear hK K
  refine tk_ ?_
  refine ss_ (fun K hK => ?_)
  refine zje (ops:=#[]) (E:=True) rfl (zji rfl _ _ _ rfl w62.heap.size 103 i0 _ 7 56 Tryz.underlying35 HI0 HI1 HI2 HI3 rfl (by decide) (none) (0) ([]) (0) (rfl) (by rfl) (Ow.nil_) (A1) (p1) ((b.cs.map Chan.cells).take k) (k) (hlk.symm) (by rfl) w62.heap.size (HW62.out.o.c.rd.take k |>.below (hb_x4)) (by intro u hu;exact zkd b.cs u (by obtain ⟨r9,h9,h8⟩:=List.mem_flatten.1 hu;exact List.mem_flatten.2 ⟨r9,List.mem_of_mem_take h9,h8⟩)) (by rw [hlk];simp only [List.length_nil];omega) (by decide) (hb_x4).size ?_)
  intro A5 cap5 x5 how5 hbb5 hgr5
  rw [Nat.zero_add,List.nil_append] at how5
  rw [Nat.zero_add]
  have HO5:=hd_ how5
  clear how5
  have HB_x5:=hd_ (zqe hgr5 (fun h9 => by first | (simp [Value.ownBlock] at h9;done) | cases h9) HB_x4)
  have hb_x5 : Below w62.heap.size w62 x5:=(hb_x4).trans hbb5
  clear a af az jE C
  have HW_x5:=hd_ (HW62.out.below hb_x5)
  have HE_x5:=hd_ (zqr hb_x5 (gz_ HE62).1 HE62)
  have HC_x5:=hd_ (zqr hb_x5 (gz_ HC62).1 HC62)
  obtain ⟨a,af,az⟩:=opc_ HW_x5.out.open_
  have jE:=bd7_ HE_x5
  have C:=bd7_ HC_x5
  clear hbb5 hgr5
  go_simp
  refine hK.out _ _ (q78_ a (q7_ jE C)) (fun hH => ?_)
  clear hK K
  refine tk_ ?_
  refine ss_ (fun K hK => ?_)
  refine zje (ops:=#[]) (E:=True) rfl (zks rfl _ _ _ rfl w62.heap.size 103 i0 _ 7 56 Tryz.underlying35 HI0 HI1 HI2 HI3 rfl (by decide) (.slice A5 k cap5) _ (by rfl) HO5 NB 1 [.int .i64 e.Ch,.int .i64 (e.Amt + e.Fee),.int .i64 e.Amt,.int .i64 e.Fee,.int .i64 0,.int .i64 0,.int .i64 0] 103 (by rfl) HB_x5 rfl (by simp [Value.oneCell']) (by rw [hlk];omega) (by decide) (hb_x5).size ?_)
  intro g6 cap6 x6 how6 hgr6 hat6 hlt6
  rw [hlk] at how6
  rw [hlk]
  have HO6:=hd_ how6
  clear how6 hat6
  have hb_x6 : Below w62.heap.size w62 x6:=Below.grown (hb_x5) hgr6 (hb_x5).size (fun k9 e9 => (HO5.out.block k9 e9).1)
  clear a af az jE C
  have HW_x6:=hd_ (HW62.out.below hb_x6)
  have HE_x6:=hd_ (zqr hb_x6 (gz_ HE62).1 HE62)
  have HC_x6:=hd_ (zqr hb_x6 (gz_ HC62).1 HC62)
  obtain ⟨a,af,az⟩:=opc_ HW_x6.out.open_
  have jE:=bd7_ HE_x6
  have C:=bd7_ HC_x6
  clear hgr6 HO5
  go_simp
  refine hK.out _ _ (q78_ a (q7_ jE C)) (fun hH => ?_)
  clear hK K
  refine tk_ ?_
  refine ss_ (fun K hK => ?_)
  refine zje (ops:=#[]) (E:=True) rfl (zji rfl _ _ _ rfl w62.heap.size 103 i0 _ 7 56 Tryz.underlying35 HI0 HI1 HI2 HI3 rfl (by decide) (some ⟨g6,0,none⟩) (cap6) ((b.cs.map Chan.cells).take k ++ [[.int .i64 e.Ch,.int .i64 (e.Amt + e.Fee),.int .i64 e.Amt,.int .i64 e.Fee,.int .i64 0,.int .i64 0,.int .i64 0]]) (k + 1) (by rw [List.length_append,hlk];rfl) (by rfl) (HO6.out) (T9) (p1 - k) ((b.cs.map Chan.cells).drop k) (b.cs.length - k) (hld.symm) (by rfl) w62.heap.size (HRT.out.below (hb_x6)) (by intro u hu;exact zkd b.cs u (by obtain ⟨r9,h9,h8⟩:=List.mem_flatten.1 hu;exact List.mem_flatten.2 ⟨r9,List.mem_of_mem_drop h9,h8⟩)) (by rw [List.length_append,hlk,hld];simp only [List.length_cons,List.length_nil];omega) (by decide) (hb_x6).size ?_)
  intro A7 cap7 x7 how7 hbb7 hgr7
  obtain ⟨l9,hl9⟩ : ∃ l9,l9 = insC (⟨e.Ch,e.Amt + e.Fee,e.Amt,e.Fee,0,0,0⟩ : Chan) b.cs:=⟨_,rfl⟩
  have hl7 : l9 = b.cs.take k ++ (⟨e.Ch,e.Amt + e.Fee,e.Amt,e.Fee,0,0,0⟩ : Chan) :: b.cs.drop k:=hl9.trans HI
  have hl8 : k + 1 + (b.cs.length - k) = l9.length:=by rw [hl7,List.length_append,List.length_take,List.length_cons,List.length_drop];omega
  rw [hl8] at how7 ⊢
  have HOE : Hid (Ow x7 B 103 7 (.slice A7 l9.length cap7) (l9.map Chan.cells)):=hd_ (by have h9:=how7.more (B':=B) HW62.out.ble;have e9 : l9.map Chan.cells = (b.cs.map Chan.cells).take k ++ [[.int .i64 e.Ch,.int .i64 (e.Amt + e.Fee),.int .i64 e.Amt,.int .i64 e.Fee,.int .i64 0,.int .i64 0,.int .i64 0]] ++ (b.cs.map Chan.cells).drop k:=(by rw [hl7,List.map_append,List.map_cons,List.map_take,List.map_drop,List.append_assoc];rfl);rw [e9];exact h9)
  have HLE:=hd_ hl9
  have hb_x7 : Below w62.heap.size w62 x7:=(hb_x6).trans hbb7
  clear a af az jE C
  have HW_x7:=hd_ (HW62.out.below hb_x7)
  have HE_x7:=hd_ (zqr hb_x7 (gz_ HE62).1 HE62)
  have HC_x7:=hd_ (zqr hb_x7 (gz_ HC62).1 HC62)
  obtain ⟨a,af,az⟩:=opc_ HW_x7.out.open_
  have jE:=bd7_ HE_x7
  have C:=bd7_ HC_x7
  clear how7 hbb7 hgr7 HO6 hl7 hl8 hl9 hlk hld SL SLt cp0 cp1
  go_simp
  refine hK.out _ _ (q78_ a (q7_ jE C)) (fun hH => ?_)
  clear hK K
  refine tk_ ?_
  refine Sq.done ?_
  intro KK hKK
  go_simp
  refine hKK _ _ (NoPanic.normal ?_)
  refine nm_ ?_
  intro w63 hw
  have HW63 : Hid (Wk 136 w w63 B X ⟨b.t,b.n,b.w,l9,b.hs,b.os⟩ [] cd A7 A2 A3 A4 cap7 p2 p3 p4):=hd_ (by rw [hw];exact HW_x7.out.setC (by decide) (by decide) (by decide) (by decide) HOE)
  have HE63:=hf_ hw HXE HE_x7
  have HC63:=hf_ hw HXC HC_x7
  clear hw
  clear a af az jE C
  obtain ⟨a,af,az⟩:=opc_ HW63.out.open_
  have jE:=bd7_ HE63
  have C:=bd7_ HC63
  have hwz : IntKind.i64.wrap (b.w - e.Amt) = b.w - e.Amt:=IntWalk.i64_in _ (by omega)
  go_wp2_with fail
  refine zqs (fun w' => kqiiissss w' X b.t b.n b.w A7 l9.length cap7 A2 b.hs.length p2 A3 b.os.length p3 A4 ([].length) p4 (kqE w' EB e (kqiiiiiii_ w' CB e.Ch (e.Amt + e.Fee) e.Amt e.Fee 0 0 0))) [yF 0 99,yF 1 100,yF 2 101,yF 3 102,yF 4 103,yF 5 104,yF 6 105,yF 7 106,yF 8 107,yF 9 108,yF 10 109] rfl (by kernel_rfl) (by kernel_rfl) (by kernel_rfl) (by kernel_rfl) (by kernel_rfl) (by kernel_rfl) (q78_ a (q7_ jE C)) (fun hH => ?_)
  obtain ⟨w64,hwd⟩ : ∃ wd,w63.drew = wd:=⟨_,rfl⟩
  have HW64:=wkd_ hwd HW63
  have HE64:=hr_ hwd HE63
  have HC64:=hr_ hwd HC63
  clear a af az jE C
  rw [hwd] at hH ⊢
  clear hwd
  obtain ⟨a,af,az⟩:=opc_ HW64.out.open_
  have jE:=bd7_ HE64
  have C:=bd7_ HC64
  refine tk_ ?_
  refine Sq.done ?_
  intro KK hKK
  go_simp
  refine hKK _ _ (NoPanic.normal ?_)
  refine nm_ ?_
  intro w65 hw
  have HW65 : Hid (Wk 136 w w65 B X ⟨b.t,b.n,b.w - e.Amt,l9,b.hs,b.os⟩ [] cd A7 A2 A3 A4 cap7 p2 p3 p4):=hd_ (by rw [hw];exact HW64.out.setWallet (by decide) (by decide) (by decide) (by decide) _)
  have HE65:=hf_ hw HXE HE64
  have HC65:=hf_ hw HXC HC64
  clear hw
  clear a af az jE C
  obtain ⟨a,af,az⟩:=opc_ HW65.out.open_
  have jE:=bd7_ HE65
  have C:=bd7_ HC65
  go_wp2_with fail
  refine (zjg _ _ B X ⟨b.t,b.n,b.w - e.Amt,l9,b.hs,b.os⟩ [] cd A7 A2 A3 A4 cap7 p2 p3 p4 6 e.Ch e.Amt (by decide) (by (try simp only);omega) (fun y hy => by cases hy) (fun y hy => by cases hy) HW65).mono ?_
  rintro e' w66 ⟨⟨Cw660,Cw661,Cw662,Cw663,rw660,rw661,rw662,rw663,rfl,hh⟩,ho⟩
  have HE66:=hd_ (ho _ _ HXE HE65)
  have HC66:=hd_ (ho _ _ HXC HC65)
  obtain ⟨M0,hL9⟩ : ∃ v,lineTo [] 6 e.Ch e.Amt = v:=⟨_,rfl⟩
  rw [hL9] at hh
  have HMl0:=hd_ hL9
  have HW66:=hd_ (HW65.out.trans hh)
  clear hh ho hL9
  clear a af az jE C
  obtain ⟨a,af,az⟩:=opc_ HW66.out.open_
  have jE:=bd7_ HE66
  have C:=bd7_ HC66
  have HLM0 : Hid (M0.length ≤ 1):=hd_ (by rw [← HMl0.out];have h9:=zqu [] (6) (e.Ch) (e.Amt);have h8 : ([] : List Line).length ≤ 0:=Nat.le_refl _;omega)
  have HQ0 : Hid (∀ y ∈ M0,y = ⟨6,e.Ch,e.Amt⟩):=hd_ (fun y hy => by rw [← HMl0.out] at hy;rcases zxk (fun y hy => by cases hy) hy with h9 | h9;cases h9;exact h9)
  go_wp2_with fail
  refine (zjg _ _ B X ⟨b.t,b.n,b.w - e.Amt,l9,b.hs,b.os⟩ M0 cd Cw660 Cw661 Cw662 Cw663 rw660 rw661 rw662 rw663 1 0 (-e.Amt) (by have:=HLM0.out;omega) (by (try simp only);omega) (fun y hy => by rcases HQ0 y hy with rfl <;> (simp only;omega)) (fun y hy => by rcases HQ0 y hy with rfl <;> (simp only;omega)) HW66).mono ?_
  rintro e' w67 ⟨⟨Cw670,Cw671,Cw672,Cw673,rw670,rw671,rw672,rw673,rfl,hh⟩,ho⟩
  have HE67:=hd_ (ho _ _ HXE HE66)
  have HC67:=hd_ (ho _ _ HXC HC66)
  obtain ⟨M1,hL9⟩ : ∃ v,lineTo M0 1 0 (-e.Amt) = v:=⟨_,rfl⟩
  rw [hL9] at hh
  have HMl1:=hd_ hL9
  have HW67:=hd_ (HW66.out.trans hh)
  clear hh ho hL9
  clear a af az jE C
  obtain ⟨a,af,az⟩:=opc_ HW67.out.open_
  have jE:=bd7_ HE67
  have C:=bd7_ HC67
  have HLM1 : Hid (M1.length ≤ 2):=hd_ (by rw [← HMl1.out];have h9:=zqu M0 (1) (0) ((-e.Amt));have h8 : (M0).length ≤ 1:=HLM0.out;omega)
  have HQ1 : Hid (∀ y ∈ M1,y = ⟨6,e.Ch,e.Amt⟩ ∨ y = ⟨1,0,(-e.Amt)⟩):=hd_ (fun y hy => by rw [← HMl1.out] at hy;rcases zxk (fun y hy => by rcases HQ0 y hy with rfl <;> (simp only;omega)) hy with h9 | h9;exact HQ0 y h9 |> Or.inl;exact Or.inr h9)
  go_wp2_with fail
  go_end0
  rw [HO.out]
  have HZ : nz [⟨1,0,-e.Amt⟩,⟨6,e.Ch,e.Amt⟩] = M1:=by rw [← HMl1.out,← HMl0.out];exact (line2r (by decide)).symm
  rw [HZ,← HLE.out]
  rw [hcd0] at HW67
  exact Acts.ok ⟨_,_,_,_,_,_,_,_,rfl,HW67.out⟩
end Go.Proofs.YtdbmkfmenfcbiaaGreat
