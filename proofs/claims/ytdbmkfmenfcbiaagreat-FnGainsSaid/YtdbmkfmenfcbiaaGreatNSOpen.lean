/- A channel is opened: the reference's walk. -/
import Derived.Test.YtdbmkfmenfcbiaaGreatRows
import Derived.Test.YtdbmkfmenfcbiaaGreatNM3
import Derived.Test.YtdbmkfmenfcbiaaGreatNM1
import Derived.Test.YtdbmkfmenfcbiaaGreatNM2
namespace Go.Proofs.YtdbmkfmenfcbiaaGreat
open Go.RowKit Go.Deep
theorem openB_2 {b : Bk} {e : Event} (h : 1125899906842624 < e.Amt + e.Fee) : openB b e = bad 2:=by unfold openB;rw [if_pos h]
theorem zpj {b : Bk} {e : Event} (h : e.Amt + e.Fee ≤ 1125899906842624) (h2 : 0 ≤ chanIx b.cs e.Ch ∨ 20 ≤ b.cs.length) : openB b e = bad 3:=by unfold openB;rw [if_neg (by omega),if_pos h2]
theorem openB_4 {b : Bk} {e : Event} (h : e.Amt + e.Fee ≤ 1125899906842624) (h2 : chanIx b.cs e.Ch < 0) (h3 : b.cs.length < 20) (h4 : b.w < e.Amt) : openB b e = bad 4:=by unfold openB;rw [if_neg (by omega),if_neg (by omega),if_pos h4]
theorem openB_ok {b : Bk} {e : Event} (h : e.Amt + e.Fee ≤ 1125899906842624) (h2 : chanIx b.cs e.Ch < 0) (h3 : b.cs.length < 20) (h4 : e.Amt ≤ b.w) : openB b e = done ⟨b.t,b.n,b.w - e.Amt,insC ⟨e.Ch,e.Amt + e.Fee,e.Amt,e.Fee,0,0,0⟩ b.cs,b.hs,b.os⟩ (nz [⟨1,0,-e.Amt⟩,⟨6,e.Ch,e.Amt⟩]):=by unfold openB;rw [if_neg (by omega),if_neg (by omega),if_neg (by omega)]
set_option maxRecDepth 100000 in
set_option maxHeartbeats 4000000 in
theorem zsl (w0 w : World) (B X : Nat) (b : Bk) (A1 A2 A3 A4 : Option Addr) (p1 p2 p3 p4 : Nat) (e : Event) (ha : amtB e.Amt = true) (hf : amtB e.Fee = true) (h : Wk 108 w0 w B X b [] 0 A1 A2 A3 A4 p1 p2 p3 p4) (hs : amtB (e.Amt + e.Fee) = false) :
  Calls Tryz.prog 67 #[.pointer (some ⟨X,0,none⟩),.agg #[.int .i64 e.Kind,.int .i64 e.Key,.int .i64 e.Ch,.int .i64 e.To,.int .i64 e.Amt,.int .i64 e.Fee,.bool e.Yes]] w (Acts 108 w B X (openB b e)):=by
 have H:=hd_ h.here
 clear h
 obtain ⟨L,hL⟩ : ∃ L : List Line,L = []:=⟨_,rfl⟩
 rw [← hL] at H
 have HL:=hd_ hL
 clear hL
 obtain ⟨E,hE⟩ : ∃ E,E = w.heap.size:=⟨_,rfl⟩
 obtain ⟨⟨m1,m2⟩,m3,m4⟩:=And.intro (zja.1 ha) (zja.1 hf)
 go_enter Tryz.func67,Tryz.ntmps67
 go_wp2_with fail
 refine (zka _ _ _ (by rw [ha,hf,hs];rfl)).mono ?_
 rintro e' w' ⟨rfl,rfl⟩
 go_wp2_with fail
 rw [← hE]
 refine nm_ ?_
 intro w1 hw
 have HW1:=wka_ hw H
 have HE1 : Hid (Hx w1 E (evC e) 64):=hd_ (by rw [hw];exact (hE ▸ zqi rfl))
 clear hw
 obtain ⟨a,af,az⟩:=opc_ HW1.out.open_
 have jE:=bd7_ HE1
 have hEB : Hid (w.heap.size ≤ E):=hd_ (by omega)
 have HXE : Hid (E ≠ X):=hd_ (by have:=H.out.lt;omega)
 clear hE
 refine zql (fun w' => kqiiissss w' X b.t b.n b.w A1 b.cs.length p1 A2 b.hs.length p2 A3 b.os.length p3 A4 L.length p4 (kqE_ w' E e)) [yF 0 19,yF 1 20,yF 2 21,yT 3 22,yF 4 23,yH 5 24 23,yH 6 25 23,yH 7 26 23,yH 8 27 23,yH 9 28 23,yH 10 29 23,yH 11 30 23,(12,some 31,true,some (23,false)),yH 13 32 23,yH 14 33 23,yH 15 34 33,yH 16 35 33,yH 17 36 33,yH 18 37 33,yH 19 38 33,yH 20 39 33,yH 21 40 33,yH 22 41 23,(23,some 42,true,some (23,false)),yF 24 43,yF 25 44,yH 26 45 44,yH 27 46 44,yH 28 47 44,yH 29 48 44,yH 30 49 44,yH 31 50 44,yH 32 51 44,yH 33 52 44,yH 34 53 44,(35,some 54,true,some (44,false)),yF 36 55] (by kernel_rfl) (by kernel_rfl) (by kernel_rfl) (q78_ a jE) (fun hH => ?_)
 obtain ⟨w2,hwd⟩ : ∃ wd,w1.drew = wd:=⟨_,rfl⟩
 have HW2:=wkd_ hwd HW1
 have HE2:=hr_ hwd HE1
 clear a af az jE
 rw [hwd] at hH ⊢
 clear hwd
 obtain ⟨a,af,az⟩:=opc_ HW2.out.open_
 have jE:=bd7_ HE2
 refine tk_ ?_
 refine ss_ (fun K hK => ?_)
 go_simp
 refine (zqy _ _ B X b L A1 A2 A3 A4 p1 p2 p3 p4 2 (by decide) HW2).mono ?_
 rintro e' w3 ⟨rfl,hh,ho⟩
 have HW3:=hd_ (HW2.out.trans hh)
 have HE3:=hd_ (ho _ _ HXE HE2)
 clear hh ho
 clear a af az jE
 obtain ⟨a,af,az⟩:=opc_ HW3.out.open_
 have jE:=bd7_ HE3
 go_simp
 refine hK.out _ _ (q78_ a jE) (fun hH => ?_)
 clear hK K
 refine tk_ ?_
 refine Sq.done (NoPanic.normal ?_)
 go_wp2_with fail
 go_end0
 rw [openB_2 (by have:=mt zja.2 (by rw [hs];decide);omega)]
 exact Acts.no (by decide) ⟨_,_,_,_,_,_,_,_,rfl,HW3.out⟩
set_option maxRecDepth 100000 in
set_option maxHeartbeats 4000000 in
theorem zpo (w0 w : World) (B X : Nat) (b : Bk) (A1 A2 A3 A4 : Option Addr) (p1 p2 p3 p4 : Nat) (e : Event) (hcl : b.cs.length ≤ 20) (hbw : amtB b.w = true) (ha : amtB e.Amt = true) (hf : amtB e.Fee = true) (h : Wk 108 w0 w B X b [] 0 A1 A2 A3 A4 p1 p2 p3 p4) (hs : amtB (e.Amt + e.Fee) = true) :
  Calls Tryz.prog 67 #[.pointer (some ⟨X,0,none⟩),.agg #[.int .i64 e.Kind,.int .i64 e.Key,.int .i64 e.Ch,.int .i64 e.To,.int .i64 e.Amt,.int .i64 e.Fee,.bool e.Yes]] w (Acts 108 w B X (openB b e)):=by
 obtain ⟨m5,m6⟩:=zja.1 hbw
 obtain ⟨i0,hi,hz0,hz1,hz2⟩:=info_parts zjx
 have HI0:=hd_ hi
 have HI1:=hd_ hz0
 have HI2:=hd_ hz1
 have HI3:=hd_ hz2
 clear hi hz0 hz1 hz2
 have H:=hd_ h.here
 clear h
 obtain ⟨L,hL⟩ : ∃ L : List Line,L = []:=⟨_,rfl⟩
 rw [← hL] at H
 have HL:=hd_ hL
 clear hL
 obtain ⟨E,hE⟩ : ∃ E,E = w.heap.size:=⟨_,rfl⟩
 obtain ⟨⟨m1,m2⟩,m3,m4⟩:=And.intro (zja.1 ha) (zja.1 hf)
 go_enter Tryz.func67,Tryz.ntmps67
 go_wp2_with fail
 refine (zjv _ _ _ ha hf hs).mono ?_
 rintro e' w' ⟨rfl,rfl⟩
 go_wp2_with fail
 rw [← hE]
 refine nm_ ?_
 intro w1 hw
 have HW1:=wka_ hw H
 have HE1 : Hid (Hx w1 E (evC e) 64):=hd_ (by rw [hw];exact (hE ▸ zqi rfl))
 clear hw
 obtain ⟨a,af,az⟩:=opc_ HW1.out.open_
 have jE:=bd7_ HE1
 have hEB : Hid (w.heap.size ≤ E):=hd_ (by omega)
 have HXE : Hid (E ≠ X):=hd_ (by have:=H.out.lt;omega)
 clear hE
 have hs9:=zja.1 hs
 refine zql (fun w' => kqiiissss w' X b.t b.n b.w A1 b.cs.length p1 A2 b.hs.length p2 A3 b.os.length p3 A4 L.length p4 (kqE_ w' E e)) [yF 0 19,yF 1 20,yF 2 21,yT 3 22,yF 4 23,yH 5 24 23,yH 6 25 23,yH 7 26 23,yH 8 27 23,yH 9 28 23,yH 10 29 23,yH 11 30 23,(12,some 31,true,some (23,false)),yH 13 32 23,yH 14 33 23,yH 15 34 33,yH 16 35 33,yH 17 36 33,yH 18 37 33,yH 19 38 33,yH 20 39 33,yH 21 40 33,yH 22 41 23,(23,some 42,true,some (23,false)),yF 24 43,yF 25 44,yH 26 45 44,yH 27 46 44,yH 28 47 44,yH 29 48 44,yH 30 49 44,yH 31 50 44,yH 32 51 44,yH 33 52 44,yH 34 53 44,(35,some 54,true,some (44,false)),yF 36 55] (by kernel_rfl) (by kernel_rfl) (by kernel_rfl) (q78_ a jE) (fun hH => ?_)
 obtain ⟨w2,hwd⟩ : ∃ wd,w1.drew = wd:=⟨_,rfl⟩
 have HW2:=wkd_ hwd HW1
 have HE2:=hr_ hwd HE1
 clear a af az jE
 rw [hwd] at hH ⊢
 clear hwd
 obtain ⟨a,af,az⟩:=opc_ HW2.out.open_
 have jE:=bd7_ HE2
 refine tk_ ?_
 refine ss_ (fun K hK => ?_)
 go_simp
 refine (zqp _ _ B X b L A1 A2 A3 A4 p1 p2 p3 p4 2 HW2).mono ?_
 rintro e' wz ⟨rfl,rfl⟩
 go_simp
 refine hK.out _ _ (q78_ a jE) (fun hH => ?_)
 clear hK K
 refine tk_ ?_
 cases t1 : decide (chanIx b.cs e.Ch ≥ 0)
 rotate_left
 ·
  have t1x:=of_decide_eq_true t1
  refine ss_ (fun K hK => ?_)
  go_simp
  refine (zjk b.t b.n b.w b.cs b.hs b.os _ _ _ _ _ _ e.Ch _ (by omega) HW2.out.o.rd).mono ?_
  rintro e' w3 ⟨rfl,hb⟩
  have HW3:=hd_ (HW2.out.below hb)
  have HE3:=hb_ hb HE2
  clear hb
  go_simp
  refine hK.out _ _ (q78_ (opc_ HW3.out.open_).1 (bd7_ HE3)) (fun hH => ?_)
  clear hK K
  refine tk_ ?_
  refine ss_ (fun K hK => ?_)
  go_simp
  refine (zqy _ _ B X b L A1 A2 A3 A4 p1 p2 p3 p4 3 (by decide) HW3).mono ?_
  rintro e' w4 ⟨rfl,hh,ho⟩
  have HW4:=hd_ (HW3.out.trans hh)
  have HE4:=hd_ (ho _ _ HXE HE3)
  clear hh ho
  clear a af az jE
  obtain ⟨a,af,az⟩:=opc_ HW4.out.open_
  have jE:=bd7_ HE4
  go_simp
  refine hK.out _ _ (q78_ a jE) (fun hH => ?_)
  clear hK K
  refine tk_ ?_
  refine Sq.done (NoPanic.normal ?_)
  go_wp2_with fail
  go_end0
  rw [zpj (by omega) (by omega)]
  exact Acts.no (by decide) ⟨_,_,_,_,_,_,_,_,rfl,HW4.out⟩
 cases t2 : ((b.cs.length : Int) == 20)
 rotate_left
 ·
  have t2x:=eq_of_beq t2
  refine ss_ (fun K hK => ?_)
  go_simp
  refine (zjk b.t b.n b.w b.cs b.hs b.os _ _ _ _ _ _ e.Ch _ (by omega) HW2.out.o.rd).mono ?_
  rintro e' w3 ⟨rfl,hb⟩
  have HW3:=hd_ (HW2.out.below hb)
  have HE3:=hb_ hb HE2
  clear hb
  go_simp
  refine hK.out _ _ (q78_ (opc_ HW3.out.open_).1 (bd7_ HE3)) (fun hH => ?_)
  clear hK K
  refine tk_ ?_
  refine ss_ (fun K hK => ?_)
  go_simp
  refine (zqy _ _ B X b L A1 A2 A3 A4 p1 p2 p3 p4 3 (by decide) HW3).mono ?_
  rintro e' w4 ⟨rfl,hh,ho⟩
  have HW4:=hd_ (HW3.out.trans hh)
  have HE4:=hd_ (ho _ _ HXE HE3)
  clear hh ho
  clear a af az jE
  obtain ⟨a,af,az⟩:=opc_ HW4.out.open_
  have jE:=bd7_ HE4
  go_simp
  refine hK.out _ _ (q78_ a jE) (fun hH => ?_)
  clear hK K
  refine tk_ ?_
  refine Sq.done (NoPanic.normal ?_)
  go_wp2_with fail
  go_end0
  rw [zpj (by omega) (by omega)]
  exact Acts.no (by decide) ⟨_,_,_,_,_,_,_,_,rfl,HW4.out⟩
 cases t3 : decide (b.w < e.Amt)
 rotate_left
 ·
  have t3x:=of_decide_eq_true t3
  refine ss_ (fun K hK => ?_)
  go_simp
  refine (zjk b.t b.n b.w b.cs b.hs b.os _ _ _ _ _ _ e.Ch _ (by omega) HW2.out.o.rd).mono ?_
  rintro e' w3 ⟨rfl,hb⟩
  have HW3:=hd_ (HW2.out.below hb)
  have HE3:=hb_ hb HE2
  clear hb
  clear a af az jE
  obtain ⟨a,af,az⟩:=opc_ HW3.out.open_
  have jE:=bd7_ HE3
  go_simp
  refine hK.out _ _ (q78_ a jE) (fun hH => ?_)
  clear hK K
  refine tk_ ?_
  refine ss_ (fun K hK => ?_)
  go_simp
  refine (zqp _ _ B X b L A1 A2 A3 A4 p1 p2 p3 p4 3 HW3).mono ?_
  rintro e' wz ⟨rfl,rfl⟩
  go_simp
  refine hK.out _ _ (q78_ a jE) (fun hH => ?_)
  clear hK K
  refine tk_ ?_
  refine ss_ (fun K hK => ?_)
  go_simp
  refine (zqy _ _ B X b L A1 A2 A3 A4 p1 p2 p3 p4 4 (by decide) HW3).mono ?_
  rintro e' w4 ⟨rfl,hh,ho⟩
  have HW4:=hd_ (HW3.out.trans hh)
  have HE4:=hd_ (ho _ _ HXE HE3)
  clear hh ho
  clear a af az jE
  obtain ⟨a,af,az⟩:=opc_ HW4.out.open_
  have jE:=bd7_ HE4
  go_simp
  refine hK.out _ _ (q78_ a jE) (fun hH => ?_)
  clear hK K
  refine tk_ ?_
  refine Sq.done (NoPanic.normal ?_)
  go_wp2_with fail
  go_end0
  rw [openB_4 (by omega) (by have:=of_decide_eq_false t1;omega) (by have:=beq_eq_false_iff_ne.1 t2;omega) t3x]
  exact Acts.no (by decide) ⟨_,_,_,_,_,_,_,_,rfl,HW4.out⟩
 refine ss_ (fun K hK => ?_)
 go_simp
 refine (zjk b.t b.n b.w b.cs b.hs b.os _ _ _ _ _ _ e.Ch _ (by omega) HW2.out.o.rd).mono ?_
 rintro e' w3 ⟨rfl,hb⟩
 have HW3:=hd_ (HW2.out.below hb)
 have HE3:=hb_ hb HE2
 clear hb
 clear a af az jE
 obtain ⟨a,af,az⟩:=opc_ HW3.out.open_
 have jE:=bd7_ HE3
 go_simp
 refine hK.out _ _ (q78_ a jE) (fun hH => ?_)
 clear hK K
 refine tk_ ?_
 refine ss_ (fun K hK => ?_)
 go_simp
 refine (zqp _ _ B X b L A1 A2 A3 A4 p1 p2 p3 p4 3 HW3).mono ?_
 rintro e' wz ⟨rfl,rfl⟩
 go_simp
 refine hK.out _ _ (q78_ a jE) (fun hH => ?_)
 clear hK K
 refine tk_ ?_
 refine ss_ (fun K hK => ?_)
 go_simp
 refine (zqp _ _ B X b L A1 A2 A3 A4 p1 p2 p3 p4 4 HW3).mono ?_
 rintro e' wz ⟨rfl,rfl⟩
 go_simp
 refine hK.out _ _ (q78_ a jE) (fun hH => ?_)
 clear hK K
 refine tk_ ?_
 refine Sq.done (NoPanic.normal ?_)
 have HO:=hd_ (openB_ok (b:=b) (e:=e) (by omega) (by have:=of_decide_eq_false t1;omega) (by have:=beq_eq_false_iff_ne.1 t2;omega) (by have:=of_decide_eq_false t3;omega))
 have t1x:=of_decide_eq_false t1
 have HX : Hid (∀ c ∈ b.cs,c.Id ≠ e.Ch):=hd_ (chanIx_neg (by omega))
 clear t1 t1x t2 t3 hs9
 have hEl:=(gz_ HE3).1
 go_wp2_with fail
 refine zkw (fun wl hw => ?_)
 obtain ⟨Q,hQ⟩ : ∃ Q,Q = w3.heap.size + 1:=⟨_,rfl⟩
 have HQ : Hid (Hx wl Q (qaiiiiiii e.Ch (e.Amt + e.Fee) e.Amt e.Fee 0 0 0) 103):=hd_ (by rw [hw,hQ];exact zqi (by simp))
 have HP : Hid (Ow wl w3.heap.size 103 7 (.slice (some ⟨w3.heap.size,0,none⟩) 0 0) []):=hd_ (by rw [hw];exact (Ow.empty_ rfl (Nat.le_refl _)).alloc _)
 have hBl : Below w3.heap.size w3 wl:=by rw [hw];exact bl_
 rw [← hQ]
 have HN0 : Hid ((Value.slice (some ⟨w3.heap.size,0,none⟩) 0 0).ownBlock ≠ some Q):=hd_ (by rw [hQ];simp [Value.ownBlock])
 have hQl : w3.heap.size ≤ Q:=by omega
 clear hw hQ a af az jE
 go_loopw [6,7,71] (fun vo vd i wr => ∃ (k : Nat) (d : Bool) (out : List Chan) (A' : Option Addr) (cap' : Nat),k ≤ b.cs.length∧i = .int .i64 k∧vd = .bool d∧vo = .slice A' out.length cap'∧Hid ((b.cs.take k).foldl (stepI (⟨e.Ch,e.Amt + e.Fee,e.Amt,e.Fee,0,0,0⟩ : Chan)) (false,[]) = (d,out))∧Hid (Ow wr w3.heap.size 103 7 (.slice A' out.length cap') (out.map Chan.cells))∧Hid ((Value.slice A' out.length cap').ownBlock ≠ some Q)∧wr.heap[Q]? = some (.cells #[.int .i64 e.Ch,.int .i64 (e.Amt + e.Fee),.int .i64 e.Amt,.int .i64 e.Fee,.int .i64 0,.int .i64 0,.int .i64 0] 103 (0,0))∧Below w3.heap.size w3 wr) (fun _ _ i _ => b.cs.length - (intOf i).toNat)
 case atStart => exact ⟨0,false,[],some ⟨w3.heap.size,0,none⟩,0,Nat.zero_le _,rfl,rfl,rfl,hd_ rfl,HP,HN0,HQ.out,hBl⟩
 case round =>
  obtain ⟨k,d,out,A',cap',hk,rfl,rfl,rfl,HF,HO1,HN,hq,hbw1⟩:=hrel
  have hbz:=hbw1.size
  have hol : out.length ≤ 40:=by
   have h1:=zso (⟨e.Ch,e.Amt + e.Fee,e.Amt,e.Fee,0,0,0⟩ : Chan) (b.cs.take k) (false,[])
   rw [HF.out,List.length_take] at h1
   simp only [List.length_nil] at h1
   omega
  have e2 : wr.cell? ⟨E,2,none⟩ = some (.int .i64 e.Ch):=zqc (zqr hbw1 hEl HE3) 2
  obtain ⟨q,-,qz⟩:=bc7_ hq
  have ez : E < wr.heap.size:=by omega
  have HQr:=hd_ hq
  clear hq
  by_cases hlt : k < b.cs.length
  ·
   obtain ⟨bb,off,hA1,hbB,c0,c1,c2,c3,c4,c5,c6⟩:=Chan.rd (HW3.out.o.rd.c.below hbw1) hlt
   subst hA1
   have Fx:=hd_ (zqq b.cs (stepI (⟨e.Ch,e.Amt + e.Fee,e.Amt,e.Fee,0,0,0⟩ : Chan)) (false,[]) hlt)
   have j0 : (0 : Int) ≤ (k : Int):=by omega
   have j1 : (k : Int) < (b.cs.length : Int):=by omega
   cases d
   rotate_left
   ·
    have KS:=hd_ (show stepI (⟨e.Ch,e.Amt + e.Fee,e.Amt,e.Fee,0,0,0⟩ : Chan) (true,out) b.cs[k] = (true,out ++ [b.cs[k]]) by simp only [stepI];rfl)
    go_wp2_with (at_builtin;refine Stop.go ?_)
    refine Stop.on ?_
    refine zqz rfl _ _ _ rfl w3.heap.size 103 i0 _ 7 56 Tryz.underlying35 HI0 HI1 HI2 HI3 rfl (by decide) (.slice A' out.length cap') _ (by rfl) ((HO1.out.alloc _).alloc _) (wr.heap.size + 1) 1 [.int .i64 b.cs[k].Id,.int .i64 b.cs[k].Size,.int .i64 b.cs[k].Local,.int .i64 b.cs[k].Remote,.int .i64 b.cs[k].Base,.int .i64 b.cs[k].Ppm,.int .i64 b.cs[k].Score] 103 (by rfl) (zqi (by first | rfl | (simp;done))) rfl (by simp [Value.oneCell']) (by rw [List.length_map];omega) (by decide) (by first | omega | (simp;done) | (simp;omega)) ?_
    intro g2 cap2 x2 how2 hgr2 hat2 hlt2
    have hnq2 : g2 ≠ Q:=by
     rcases hat2 with h9 | h9
     ·
      intro e9;subst e9;exact HN h9
     intro e9;subst e9;simp at h9;omega
    have hb2 : Below w3.heap.size w3 x2:=Below.grown (((hbw1.alloc (by omega) _).alloc (by simp;omega) _)) hgr2 (by simp;omega) (fun k9 e9 => (HO1.out.block k9 e9).1)
    have hq2:=zqe hgr2 (fun h9 => HN.out h9.symm) (zqd (by simp;omega) (zqd qz HQr))
    clear hat2 hgr2 HQr HN HO1
    rw [List.length_map] at how2 ⊢
    go_wp2_with fail
    go_roundw
    case rel => exact ⟨k + 1,true,out ++ [b.cs[k]],some ⟨g2,0,none⟩,cap2,by omega,by go_num,rfl,by rw [List.length_append];rfl,hd_ (by rw [Fx.out,HF.out,KS.out]),hd_ (by rw [List.map_append,List.length_append];exact how2),hd_ (by simpa [Value.ownBlock] using hnq2),hq2,hb2⟩
    case measure => simp [intOf];omega
   cases t1 : decide (b.cs[k].Id > e.Ch)
   ·
    have KS:=hd_ (show stepI (⟨e.Ch,e.Amt + e.Fee,e.Amt,e.Fee,0,0,0⟩ : Chan) (false,out) b.cs[k] = (false,out ++ [b.cs[k]]) by simp only [stepI,t1];rfl)
    go_wp2_with (at_builtin;refine Stop.go ?_)
    refine Stop.on ?_
    refine zqz rfl _ _ _ rfl w3.heap.size 103 i0 _ 7 56 Tryz.underlying35 HI0 HI1 HI2 HI3 rfl (by decide) (.slice A' out.length cap') _ (by rfl) ((HO1.out.alloc _).alloc _) (wr.heap.size + 1) 1 [.int .i64 b.cs[k].Id,.int .i64 b.cs[k].Size,.int .i64 b.cs[k].Local,.int .i64 b.cs[k].Remote,.int .i64 b.cs[k].Base,.int .i64 b.cs[k].Ppm,.int .i64 b.cs[k].Score] 103 (by rfl) (zqi (by first | rfl | (simp;done))) rfl (by simp [Value.oneCell']) (by rw [List.length_map];omega) (by decide) (by first | omega | (simp;done) | (simp;omega)) ?_
    intro g2 cap2 x2 how2 hgr2 hat2 hlt2
    have hnq2 : g2 ≠ Q:=by
     rcases hat2 with h9 | h9
     ·
      intro e9;subst e9;exact HN h9
     intro e9;subst e9;simp at h9;omega
    have hb2 : Below w3.heap.size w3 x2:=Below.grown (((hbw1.alloc (by omega) _).alloc (by simp;omega) _)) hgr2 (by simp;omega) (fun k9 e9 => (HO1.out.block k9 e9).1)
    have hq2:=zqe hgr2 (fun h9 => HN.out h9.symm) (zqd (by simp;omega) (zqd qz HQr))
    clear hat2 hgr2 HQr HN HO1
    rw [List.length_map] at how2 ⊢
    go_wp2_with fail
    go_roundw
    case rel => exact ⟨k + 1,false,out ++ [b.cs[k]],some ⟨g2,0,none⟩,cap2,by omega,by go_num,rfl,by rw [List.length_append];rfl,hd_ (by rw [Fx.out,HF.out,KS.out]),hd_ (by rw [List.map_append,List.length_append];exact how2),hd_ (by simpa [Value.ownBlock] using hnq2),hq2,hb2⟩
    case measure => simp [intOf];omega
   have KS:=hd_ (show stepI (⟨e.Ch,e.Amt + e.Fee,e.Amt,e.Fee,0,0,0⟩ : Chan) (false,out) b.cs[k] = (true,out ++ [(⟨e.Ch,e.Amt + e.Fee,e.Amt,e.Fee,0,0,0⟩ : Chan)] ++ [b.cs[k]]) by simp only [stepI,t1];rfl)
   go_wp2_with (at_builtin;refine Stop.go ?_)
   refine Stop.on ?_
   refine zqz rfl _ _ _ rfl w3.heap.size 103 i0 _ 7 56 Tryz.underlying35 HI0 HI1 HI2 HI3 rfl (by decide) (.slice A' out.length cap') _ (by rfl) ((HO1.out.alloc _).alloc _) (wr.heap.size + 1) 1 [.int .i64 e.Ch,.int .i64 (e.Amt + e.Fee),.int .i64 e.Amt,.int .i64 e.Fee,.int .i64 0,.int .i64 0,.int .i64 0] 103 (by rfl) (zqi (by first | rfl | (simp;done))) rfl (by simp [Value.oneCell']) (by rw [List.length_map];omega) (by decide) (by first | omega | (simp;done) | (simp;omega)) ?_
   intro g2 cap2 x2 how2 hgr2 hat2 hlt2
   have hnq2 : g2 ≠ Q:=by
    rcases hat2 with h9 | h9
    ·
     intro e9;subst e9;exact HN h9
    intro e9;subst e9;simp at h9;omega
   have hb2 : Below w3.heap.size w3 x2:=Below.grown (((hbw1.alloc (by omega) _).alloc (by simp;omega) _)) hgr2 (by simp;omega) (fun k9 e9 => (HO1.out.block k9 e9).1)
   have hq2:=zqe hgr2 (fun h9 => HN.out h9.symm) (zqd (by simp;omega) (zqd qz HQr))
   have hc2 : x2.heap[wr.heap.size]? = some (.cells #[.int .i64 b.cs[k].Id,.int .i64 b.cs[k].Size,.int .i64 b.cs[k].Local,.int .i64 b.cs[k].Remote,.int .i64 b.cs[k].Base,.int .i64 b.cs[k].Ppm,.int .i64 b.cs[k].Score] 103 (0,0)):=zqe hgr2 (fun h9 => by have h8:=(HO1.out.block wr.heap.size (by first | exact h9 | exact h9.symm)).2;omega) (zqd (by simp) (zqi rfl))
   clear hat2 hgr2 HQr HN HO1 q c0 c1 c2 c3 c4 c5 c6
   have c0 : x2.cell? ⟨wr.heap.size,0,none⟩ = some (.int .i64 b.cs[k].Id):=zqc hc2 0
   have c1 : x2.cell? ⟨wr.heap.size,1,none⟩ = some (.int .i64 b.cs[k].Size):=zqc hc2 1
   have c2 : x2.cell? ⟨wr.heap.size,2,none⟩ = some (.int .i64 b.cs[k].Local):=zqc hc2 2
   have c3 : x2.cell? ⟨wr.heap.size,3,none⟩ = some (.int .i64 b.cs[k].Remote):=zqc hc2 3
   have c4 : x2.cell? ⟨wr.heap.size,4,none⟩ = some (.int .i64 b.cs[k].Base):=zqc hc2 4
   have c5 : x2.cell? ⟨wr.heap.size,5,none⟩ = some (.int .i64 b.cs[k].Ppm):=zqc hc2 5
   have c6 : x2.cell? ⟨wr.heap.size,6,none⟩ = some (.int .i64 b.cs[k].Score):=zqc hc2 6
   have cz:=(gz_ hc2).1
   have qz2:=(gz_ hq2).1
   have hbz2:=hb2.size
   have e3 : (out.map Chan.cells).length + 1 = (out ++ [(⟨e.Ch,e.Amt + e.Fee,e.Amt,e.Fee,0,0,0⟩ : Chan)]).length:=by simp
   have HO2:=hd_ (show Ow x2 w3.heap.size 103 7 (.slice (some ⟨g2,0,none⟩) (out ++ [(⟨e.Ch,e.Amt + e.Fee,e.Amt,e.Fee,0,0,0⟩ : Chan)]).length cap2) ((out ++ [(⟨e.Ch,e.Amt + e.Fee,e.Amt,e.Fee,0,0,0⟩ : Chan)]).map Chan.cells) by rw [← e3,List.map_append];exact how2)
   rw [e3]
   clear how2 e3 hc2
   obtain ⟨out2,ho2⟩ : ∃ o9,out ++ [(⟨e.Ch,e.Amt + e.Fee,e.Amt,e.Fee,0,0,0⟩ : Chan)] = o9:=⟨_,rfl⟩
   rw [ho2] at HO2 KS ⊢
   have hol2 : out2.length ≤ 41:=by rw [← ho2];simp;omega
   clear ho2
   have HN2 : Hid ((Value.slice (some ⟨g2,0,none⟩) out2.length cap2).ownBlock ≠ some Q):=hd_ (by simpa [Value.ownBlock] using hnq2)
   have HQ2:=hd_ hq2
   clear hq2 hnq2
   go_wp2_with (at_builtin;refine Stop.go ?_)
   refine Stop.on ?_
   refine zqz rfl _ _ _ rfl w3.heap.size 103 i0 _ 7 56 Tryz.underlying35 HI0 HI1 HI2 HI3 rfl (by decide) (.slice (some ⟨g2,0,none⟩) out2.length cap2) _ (by rfl) (HO2.out.alloc _) x2.heap.size 1 [.int .i64 b.cs[k].Id,.int .i64 b.cs[k].Size,.int .i64 b.cs[k].Local,.int .i64 b.cs[k].Remote,.int .i64 b.cs[k].Base,.int .i64 b.cs[k].Ppm,.int .i64 b.cs[k].Score] 103 (by rfl) (zqi (by first | rfl | (simp;done))) rfl (by simp [Value.oneCell']) (by rw [List.length_map];omega) (by decide) (by first | omega | (simp;done) | (simp;omega)) ?_
   intro g3 cap3 x3 how3 hgr3 hat3 hlt3
   have hnq3 : g3 ≠ Q:=by
    rcases hat3 with h9 | h9
    ·
     intro e9;subst e9;exact HN2 h9
    intro e9;subst e9;simp at h9;omega
   have hb3 : Below w3.heap.size w3 x3:=Below.grown (hb2.alloc (by omega) _) hgr3 (by simp;omega) (fun k9 e9 => (HO2.out.block k9 e9).1)
   have hq3:=zqe hgr3 (fun h9 => HN2.out h9.symm) (zqd qz2 HQ2)
   clear hat3 hgr3 HQ2 HN2 HO2
   rw [List.length_map] at how3 ⊢
   go_wp2_with fail
   go_roundw
   case rel => exact ⟨k + 1,true,out2 ++ [b.cs[k]],some ⟨g3,0,none⟩,cap3,by omega,by go_num,rfl,by rw [List.length_append];rfl,hd_ (by rw [Fx.out,HF.out,KS.out]),hd_ (by rw [List.map_append,List.length_append];exact how3),hd_ (by simpa [Value.ownBlock] using hnq3),hq3,hb3⟩
   case measure => simp [intOf];omega
  obtain rfl : k = b.cs.length:=by omega
  have qf:=HF.out
  rw [List.take_length] at qf
  have HI:=hd_ (zgv (⟨e.Ch,e.Amt + e.Fee,e.Amt,e.Fee,0,0,0⟩ : Chan) b.cs [] HX.out)
  rw [qf] at HI
  have HWr:=hd_ (HW3.out.below hbw1)
  have HEr:=hd_ (zqr hbw1 hEl HE3)
  clear qf HF hk
  cases d
  ·
   go_wp2_with (at_builtin;refine Stop.go ?_)
   refine Stop.on ?_
   refine zqz rfl _ _ _ rfl w3.heap.size 103 i0 _ 7 56 Tryz.underlying35 HI0 HI1 HI2 HI3 rfl (by decide) (.slice A' out.length cap') _ (by rfl) (HO1.out.alloc _) wr.heap.size 1 [.int .i64 e.Ch,.int .i64 (e.Amt + e.Fee),.int .i64 e.Amt,.int .i64 e.Fee,.int .i64 0,.int .i64 0,.int .i64 0] 103 (by rfl) (zqi (by first | rfl | (simp;done))) rfl (by simp [Value.oneCell']) (by rw [List.length_map];omega) (by decide) (by first | omega | (simp;done) | (simp;omega)) ?_
   intro g4 cap4 x4 how4 hgr4 hat4 hlt4
   have hb4 : Below w3.heap.size w3 x4:=Below.grown (hbw1.alloc (by omega) _) hgr4 (by simp;omega) (fun k9 e9 => (HO1.out.block k9 e9).1)
   have e3 : (out.map Chan.cells).length + 1 = (out ++ [(⟨e.Ch,e.Amt + e.Fee,e.Amt,e.Fee,0,0,0⟩ : Chan)]).length:=by simp
   have HOo:=hd_ (show Ow x4 w3.heap.size 103 7 (.slice (some ⟨g4,0,none⟩) (out ++ [(⟨e.Ch,e.Amt + e.Fee,e.Amt,e.Fee,0,0,0⟩ : Chan)]).length cap4) ((out ++ [(⟨e.Ch,e.Amt + e.Fee,e.Amt,e.Fee,0,0,0⟩ : Chan)]).map Chan.cells) by rw [← e3,List.map_append];exact how4)
   rw [e3]
   clear how4 e3 HWr HEr hgr4 hat4 HQr HN HO1
   have HWr:=hd_ (HW3.out.below hb4)
   have HEr:=hd_ (zqr hb4 hEl HE3)
   have HI2 : Hid (out ++ [(⟨e.Ch,e.Amt + e.Fee,e.Amt,e.Fee,0,0,0⟩ : Chan)] = insC (⟨e.Ch,e.Amt + e.Fee,e.Amt,e.Fee,0,0,0⟩ : Chan) b.cs):=hd_ (by have h9:=HI.out;simpa [finI] using h9)
   clear HI
   obtain ⟨out4,ho4⟩ : ∃ o9,out ++ [(⟨e.Ch,e.Amt + e.Fee,e.Amt,e.Fee,0,0,0⟩ : Chan)] = o9:=⟨_,rfl⟩
   rw [ho4] at HOo HI2 ⊢
   clear ho4
   have HI:=HI2
   clear HI2 q
   have HW_x4:=HWr
   have HE_x4:=HEr
   clear HWr HEr
   obtain ⟨a,af,az⟩:=opc_ HW_x4.out.open_
   have jE:=bd7_ HE_x4
   go_wp2_with fail
   refine nm_ ?_
   intro w21 hw
   have HW21 : Hid (Wk 108 w w21 B X ⟨b.t,b.n,b.w,out4,b.hs,b.os⟩ L 0 (some ⟨g4,0,none⟩) A2 A3 A4 cap4 p2 p3 p4):=hd_ (by rw [hw];exact HW_x4.out.setC (by decide) (by decide) (by decide) (by decide) (HOo.out.more HW3.out.ble))
   have HE21:=hf_ hw HXE HE_x4
   clear hw
   clear a af az jE
   obtain ⟨a,af,az⟩:=opc_ HW21.out.open_
   have jE:=bd7_ HE21
   have hwz : IntKind.i64.wrap (b.w - e.Amt) = b.w - e.Amt:=IntWalk.i64_in _ (by omega)
   refine zqs (fun w' => kqiiissss w' X b.t b.n b.w (some ⟨g4,0,none⟩) out4.length cap4 A2 b.hs.length p2 A3 b.os.length p3 A4 L.length p4 (kqE_ w' E e)) [yF 0 104,yF 1 105,yF 2 106,yF 3 107,yF 4 108,yF 5 109,yF 6 110,yF 7 111,yF 8 112,yF 9 113,yF 10 114,yF 11 115] rfl (by kernel_rfl) (by kernel_rfl) (by kernel_rfl) (by kernel_rfl) (by kernel_rfl) (by kernel_rfl) (q78_ a jE) (fun hH => ?_)
   obtain ⟨w22,hwd⟩ : ∃ wd,w21.drew = wd:=⟨_,rfl⟩
   have HW22:=wkd_ hwd HW21
   have HE22:=hr_ hwd HE21
   clear a af az jE
   rw [hwd] at hH ⊢
   clear hwd
   obtain ⟨a,af,az⟩:=opc_ HW22.out.open_
   have jE:=bd7_ HE22
   refine tk_ ?_
   refine Sq.done ?_
   intro KK hKK
   go_simp
   refine hKK _ _ (NoPanic.normal ?_)
   refine nm_ ?_
   intro w23 hw
   have HW23 : Hid (Wk 108 w w23 B X ⟨b.t,b.n,b.w - e.Amt,out4,b.hs,b.os⟩ L 0 (some ⟨g4,0,none⟩) A2 A3 A4 cap4 p2 p3 p4):=hd_ (by rw [hw];exact HW22.out.setWallet (by decide) (by decide) (by decide) (by decide) _)
   have HE23:=hf_ hw HXE HE22
   clear hw
   clear a af az jE
   obtain ⟨a,af,az⟩:=opc_ HW23.out.open_
   have jE:=bd7_ HE23
   go_wp2_with fail
   refine (zxo _ _ B X ⟨b.t,b.n,b.w - e.Amt,out4,b.hs,b.os⟩ L 0 (some ⟨g4,0,none⟩) A2 A3 A4 cap4 p2 p3 p4 1 0 (-e.Amt) (by rw [HL.out];decide) HW23).mono ?_
   rintro e' w24 ⟨⟨Cw240,Cw241,Cw242,Cw243,rw240,rw241,rw242,rw243,rfl,hh⟩,ho⟩
   have HE24:=hd_ (ho _ _ HXE HE23)
   obtain ⟨L1,hL9⟩ : ∃ v,lineTo L 1 0 (-e.Amt) = v:=⟨_,rfl⟩
   rw [hL9] at hh
   have hlL1 : L1.length ≤ L.length + 1:=by rw [← hL9];exact zqu _ _ _ _
   have HL1:=hd_ hL9
   have HW24:=hd_ (HW23.out.trans hh)
   clear hh ho hL9
   clear a af az jE
   obtain ⟨a,af,az⟩:=opc_ HW24.out.open_
   have jE:=bd7_ HE24
   go_wp2_with fail
   refine (zxo _ _ B X ⟨b.t,b.n,b.w - e.Amt,out4,b.hs,b.os⟩ L1 0 Cw240 Cw241 Cw242 Cw243 rw240 rw241 rw242 rw243 6 e.Ch e.Amt (by rw [HL.out] at hlL1;simp at hlL1;omega) HW24).mono ?_
   rintro e' w25 ⟨⟨Cw250,Cw251,Cw252,Cw253,rw250,rw251,rw252,rw253,rfl,hh⟩,ho⟩
   have HE25:=hd_ (ho _ _ HXE HE24)
   obtain ⟨L2,hL9⟩ : ∃ v,lineTo L1 6 e.Ch e.Amt = v:=⟨_,rfl⟩
   rw [hL9] at hh
   have hlL2 : L2.length ≤ L1.length + 1:=by rw [← hL9];exact zqu _ _ _ _
   have HL2:=hd_ hL9
   have HW25:=hd_ (HW24.out.trans hh)
   clear hh ho hL9
   clear a af az jE
   obtain ⟨a,af,az⟩:=opc_ HW25.out.open_
   have jE:=bd7_ HE25
   go_wp2_with fail
   go_end0
   rw [HO.out]
   have HZ : out4 = insC (⟨e.Ch,e.Amt + e.Fee,e.Amt,e.Fee,0,0,0⟩ : Chan) b.cs∧L2 = nz [⟨1,0,-e.Amt⟩,⟨6,e.Ch,e.Amt⟩]:=⟨HI.out,by rw [← HL2.out,← HL1.out,HL.out];exact line2 (by decide)⟩
   rw [← HZ.1,← HZ.2]
   exact Acts.ok ⟨_,_,_,_,_,_,_,_,rfl,HW25.out⟩
  have HOo:=HO1
  have HI2 : Hid (out = insC (⟨e.Ch,e.Amt + e.Fee,e.Amt,e.Fee,0,0,0⟩ : Chan) b.cs):=hd_ (by have h9:=HI.out;simpa [finI] using h9)
  clear HI
  have HI:=HI2
  clear HI2
  have HW_wr:=HWr
  have HE_wr:=HEr
  clear HWr HEr
  obtain ⟨a,af,az⟩:=opc_ HW_wr.out.open_
  have jE:=bd7_ HE_wr
  go_wp2_with fail
  refine nm_ ?_
  intro w21 hw
  have HW21 : Hid (Wk 108 w w21 B X ⟨b.t,b.n,b.w,out,b.hs,b.os⟩ L 0 A' A2 A3 A4 cap' p2 p3 p4):=hd_ (by rw [hw];exact HW_wr.out.setC (by decide) (by decide) (by decide) (by decide) (HOo.out.more HW3.out.ble))
  have HE21:=hf_ hw HXE HE_wr
  clear hw
  clear a af az jE
  obtain ⟨a,af,az⟩:=opc_ HW21.out.open_
  have jE:=bd7_ HE21
  have hwz : IntKind.i64.wrap (b.w - e.Amt) = b.w - e.Amt:=IntWalk.i64_in _ (by omega)
  refine zqs (fun w' => kqiiissss w' X b.t b.n b.w A' out.length cap' A2 b.hs.length p2 A3 b.os.length p3 A4 L.length p4 (kqE_ w' E e)) [yF 0 104,yF 1 105,yF 2 106,yF 3 107,yF 4 108,yF 5 109,yF 6 110,yF 7 111,yF 8 112,yF 9 113,yF 10 114,yF 11 115] rfl (by kernel_rfl) (by kernel_rfl) (by kernel_rfl) (by kernel_rfl) (by kernel_rfl) (by kernel_rfl) (q78_ a jE) (fun hH => ?_)
  obtain ⟨w22,hwd⟩ : ∃ wd,w21.drew = wd:=⟨_,rfl⟩
  have HW22:=wkd_ hwd HW21
  have HE22:=hr_ hwd HE21
  clear a af az jE
  rw [hwd] at hH ⊢
  clear hwd
  obtain ⟨a,af,az⟩:=opc_ HW22.out.open_
  have jE:=bd7_ HE22
  refine tk_ ?_
  refine Sq.done ?_
  intro KK hKK
  go_simp
  refine hKK _ _ (NoPanic.normal ?_)
  refine nm_ ?_
  intro w23 hw
  have HW23 : Hid (Wk 108 w w23 B X ⟨b.t,b.n,b.w - e.Amt,out,b.hs,b.os⟩ L 0 A' A2 A3 A4 cap' p2 p3 p4):=hd_ (by rw [hw];exact HW22.out.setWallet (by decide) (by decide) (by decide) (by decide) _)
  have HE23:=hf_ hw HXE HE22
  clear hw
  clear a af az jE
  obtain ⟨a,af,az⟩:=opc_ HW23.out.open_
  have jE:=bd7_ HE23
  go_wp2_with fail
  refine (zxo _ _ B X ⟨b.t,b.n,b.w - e.Amt,out,b.hs,b.os⟩ L 0 A' A2 A3 A4 cap' p2 p3 p4 1 0 (-e.Amt) (by rw [HL.out];decide) HW23).mono ?_
  rintro e' w24 ⟨⟨Cw240,Cw241,Cw242,Cw243,rw240,rw241,rw242,rw243,rfl,hh⟩,ho⟩
  have HE24:=hd_ (ho _ _ HXE HE23)
  obtain ⟨L1,hL9⟩ : ∃ v,lineTo L 1 0 (-e.Amt) = v:=⟨_,rfl⟩
  rw [hL9] at hh
  have hlL1 : L1.length ≤ L.length + 1:=by rw [← hL9];exact zqu _ _ _ _
  have HL1:=hd_ hL9
  have HW24:=hd_ (HW23.out.trans hh)
  clear hh ho hL9
  clear a af az jE
  obtain ⟨a,af,az⟩:=opc_ HW24.out.open_
  have jE:=bd7_ HE24
  go_wp2_with fail
  refine (zxo _ _ B X ⟨b.t,b.n,b.w - e.Amt,out,b.hs,b.os⟩ L1 0 Cw240 Cw241 Cw242 Cw243 rw240 rw241 rw242 rw243 6 e.Ch e.Amt (by rw [HL.out] at hlL1;simp at hlL1;omega) HW24).mono ?_
  rintro e' w25 ⟨⟨Cw250,Cw251,Cw252,Cw253,rw250,rw251,rw252,rw253,rfl,hh⟩,ho⟩
  have HE25:=hd_ (ho _ _ HXE HE24)
  obtain ⟨L2,hL9⟩ : ∃ v,lineTo L1 6 e.Ch e.Amt = v:=⟨_,rfl⟩
  rw [hL9] at hh
  have hlL2 : L2.length ≤ L1.length + 1:=by rw [← hL9];exact zqu _ _ _ _
  have HL2:=hd_ hL9
  have HW25:=hd_ (HW24.out.trans hh)
  clear hh ho hL9
  clear a af az jE
  obtain ⟨a,af,az⟩:=opc_ HW25.out.open_
  have jE:=bd7_ HE25
  go_wp2_with fail
  go_end0
  rw [HO.out]
  have HZ : out = insC (⟨e.Ch,e.Amt + e.Fee,e.Amt,e.Fee,0,0,0⟩ : Chan) b.cs∧L2 = nz [⟨1,0,-e.Amt⟩,⟨6,e.Ch,e.Amt⟩]:=⟨HI.out,by rw [← HL2.out,← HL1.out,HL.out];exact line2 (by decide)⟩
  rw [← HZ.1,← HZ.2]
  exact Acts.ok ⟨_,_,_,_,_,_,_,_,rfl,HW25.out⟩
theorem s_l07Open (w0 w : World) (B X : Nat) (b : Bk) (A1 A2 A3 A4 : Option Addr) (p1 p2 p3 p4 : Nat) (e : Event) (hcl : b.cs.length ≤ 20) (hbw : amtB b.w = true) (ha : amtB e.Amt = true) (hf : amtB e.Fee = true) (h : Wk 108 w0 w B X b [] 0 A1 A2 A3 A4 p1 p2 p3 p4) :
  Calls Tryz.prog 67 #[.pointer (some ⟨X,0,none⟩),.agg #[.int .i64 e.Kind,.int .i64 e.Key,.int .i64 e.Ch,.int .i64 e.To,.int .i64 e.Amt,.int .i64 e.Fee,.bool e.Yes]] w (Acts 108 w B X (openB b e)):=by
 cases hs : amtB (e.Amt + e.Fee)
 ·
  exact zsl w0 w B X b A1 A2 A3 A4 p1 p2 p3 p4 e ha hf h hs
 exact zpo w0 w B X b A1 A2 A3 A4 p1 p2 p3 p4 e hcl hbw ha hf h hs
end Go.Proofs.YtdbmkfmenfcbiaaGreat
