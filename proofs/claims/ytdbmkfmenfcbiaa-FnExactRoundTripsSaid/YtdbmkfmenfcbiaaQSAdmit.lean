/- A payment is let through: the reference's walk. -/
import Derived.Test.YtdbmkfmenfcbiaaRows
import Derived.Test.YtdbmkfmenfcbiaaQM2
import Derived.Test.YtdbmkfmenfcbiaaQM1
namespace Go.Proofs.Ytdbmkfmenfcbiaa
open Go.RowKit Go.Deep
def admitS (b : Bk) (e : Event) (i o : Chan) : Out :=
 if hasB (keysOf b.hs b.os) e.Key = true then bad 9
 else if twoB b.cs e.Ch e.To = false then bad 6
 else if b.hs.length = 60 then bad 14
 else if (feeOk o.Base o.Ppm e.Amt && amtB (e.Amt + feeV o.Base o.Ppm e.Amt)) = false then bad 10
 else if i.Remote < e.Amt + feeV o.Base o.Ppm e.Amt then bad 11
 else if o.Local < e.Amt then bad 12
 else if roomF b.hs o o.Id e.Amt i.Score e.Yes = 0 then bad 13
 else done ⟨b.t,b.n,b.w,moveC (moveC b.cs e.Ch 0 (-(e.Amt + feeV o.Base o.Ppm e.Amt))) e.To (-e.Amt) 0,b.hs ++ [⟨e.Key,e.Ch,e.To,e.Amt + feeV o.Base o.Ppm e.Amt,e.Amt,roomF b.hs o o.Id e.Amt i.Score e.Yes == 2,0⟩],b.os⟩ (nz [⟨6,e.To,-e.Amt⟩,⟨8,e.To,e.Amt⟩])
section
variable {b : Bk} {e : Event} {i o : Chan}
theorem admitS_9 (h : hasB (keysOf b.hs b.os) e.Key = true) : admitS b e i o = bad 9:=by unfold admitS;rw [if_pos h]
theorem admitS_6 (h : hasB (keysOf b.hs b.os) e.Key = false) (h2 : twoB b.cs e.Ch e.To = false) : admitS b e i o = bad 6:=by unfold admitS;rw [if_neg (by rw [h];decide),if_pos h2]
theorem admitS_14 (h : hasB (keysOf b.hs b.os) e.Key = false) (h2 : twoB b.cs e.Ch e.To = true) (h3 : b.hs.length = 60) : admitS b e i o = bad 14:=by unfold admitS;rw [if_neg (by rw [h];decide),if_neg (by rw [h2];decide),if_pos h3]
theorem admitS_10 (h : hasB (keysOf b.hs b.os) e.Key = false) (h2 : twoB b.cs e.Ch e.To = true) (h3 : b.hs.length ≠ 60) (h4 : (feeOk o.Base o.Ppm e.Amt && amtB (e.Amt + feeV o.Base o.Ppm e.Amt)) = false) : admitS b e i o = bad 10:=by unfold admitS;rw [if_neg (by rw [h];decide),if_neg (by rw [h2];decide),if_neg h3,if_pos h4]
theorem admitS_11 (h : hasB (keysOf b.hs b.os) e.Key = false) (h2 : twoB b.cs e.Ch e.To = true) (h3 : b.hs.length ≠ 60) (h4 : (feeOk o.Base o.Ppm e.Amt && amtB (e.Amt + feeV o.Base o.Ppm e.Amt)) = true) (h5 : i.Remote < e.Amt + feeV o.Base o.Ppm e.Amt) : admitS b e i o = bad 11:=by
 unfold admitS;rw [if_neg (by rw [h];decide),if_neg (by rw [h2];decide),if_neg h3,if_neg (by rw [h4];decide),if_pos h5]
theorem admitS_12 (h : hasB (keysOf b.hs b.os) e.Key = false) (h2 : twoB b.cs e.Ch e.To = true) (h3 : b.hs.length ≠ 60) (h4 : (feeOk o.Base o.Ppm e.Amt && amtB (e.Amt + feeV o.Base o.Ppm e.Amt)) = true) (h5 : e.Amt + feeV o.Base o.Ppm e.Amt ≤ i.Remote) (h6 : o.Local < e.Amt) : admitS b e i o = bad 12:=by
 unfold admitS;rw [if_neg (by rw [h];decide),if_neg (by rw [h2];decide),if_neg h3,if_neg (by rw [h4];decide),if_neg (by omega),if_pos h6]
theorem admitS_13 (h : hasB (keysOf b.hs b.os) e.Key = false) (h2 : twoB b.cs e.Ch e.To = true) (h3 : b.hs.length ≠ 60) (h4 : (feeOk o.Base o.Ppm e.Amt && amtB (e.Amt + feeV o.Base o.Ppm e.Amt)) = true) (h5 : e.Amt + feeV o.Base o.Ppm e.Amt ≤ i.Remote) (h6 : e.Amt ≤ o.Local) (h7 : roomF b.hs o o.Id e.Amt i.Score e.Yes = 0) : admitS b e i o = bad 13:=by
 unfold admitS;rw [if_neg (by rw [h];decide),if_neg (by rw [h2];decide),if_neg h3,if_neg (by rw [h4];decide),if_neg (by omega),if_neg (by omega),if_pos h7]
theorem admitS_ok (h : hasB (keysOf b.hs b.os) e.Key = false) (h2 : twoB b.cs e.Ch e.To = true) (h3 : b.hs.length ≠ 60) (h4 : (feeOk o.Base o.Ppm e.Amt && amtB (e.Amt + feeV o.Base o.Ppm e.Amt)) = true) (h5 : e.Amt + feeV o.Base o.Ppm e.Amt ≤ i.Remote) (h6 : e.Amt ≤ o.Local) (h7 : roomF b.hs o o.Id e.Amt i.Score e.Yes ≠ 0) :
  admitS b e i o = done ⟨b.t,b.n,b.w,moveC (moveC b.cs e.Ch 0 (-(e.Amt + feeV o.Base o.Ppm e.Amt))) e.To (-e.Amt) 0,b.hs ++ [⟨e.Key,e.Ch,e.To,e.Amt + feeV o.Base o.Ppm e.Amt,e.Amt,roomF b.hs o o.Id e.Amt i.Score e.Yes == 2,0⟩],b.os⟩ (nz [⟨6,e.To,-e.Amt⟩,⟨8,e.To,e.Amt⟩]):=by
 unfold admitS;rw [if_neg (by rw [h];decide),if_neg (by rw [h2];decide),if_neg h3,if_neg (by rw [h4];decide),if_neg (by omega),if_neg (by omega),if_neg h7]
end
theorem amtB_feeV (base ppm n : Int) : amtB (feeV base ppm n) = true:=by
 unfold feeV
 split
 ·
  rename_i h
  simp only [feeOk,Bool.and_eq_true] at h
  exact h.2
 ·
  decide
theorem twoB_ix2 {cs : List Chan} {x y : Int} (h : twoB cs x y = true) : 0 ≤ chanIx cs x∧0 ≤ chanIx cs y:=by
 simp only [twoB,Bool.and_eq_true,decide_eq_true_eq] at h
 exact ⟨h.1.2,h.2⟩
set_option maxRecDepth 100000 in
set_option maxHeartbeats 16000000 in
theorem s_l07Admit (w0 w : World) (B X : Nat) (b : Bk) (A1 A2 A3 A4 : Option Addr) (p1 p2 p3 p4 : Nat) (e : Event) (hF : BookFacts b.t b.n b.w b.cs b.hs b.os) (ha : amtB e.Amt = true) (h : Wk 56 w0 w B X b [] 0 A1 A2 A3 A4 p1 p2 p3 p4) :
  Calls Try.prog 25 #[.pointer (some ⟨X,0,none⟩),.agg #[.int .i64 e.Kind,.int .i64 e.Key,.int .i64 e.Ch,.int .i64 e.To,.int .i64 e.Amt,.int .i64 e.Fee,.bool e.Yes]] w (Acts 56 w B X (admitS b e (chanOf b.cs e.Ch) (chanOf b.cs e.To))):=by
 have H:=hd_ h.here
 clear h
 obtain ⟨L,hL⟩ : ∃ L : List Line,L = []:=⟨_,rfl⟩
 rw [← hL] at H
 have HL:=hd_ hL
 clear hL
 obtain ⟨E,hE⟩ : ∃ E,E = w.heap.size:=⟨_,rfl⟩
 obtain ⟨m1,m2⟩:=zkg.1 ha
 have hcl:=hF.cl
 have h60:=hF.small.hl
 have h20:=hF.small.ol
 have HSM:=hd_ hF.small
 have HBD:=hd_ (zkj hF)
 have hkl : (keysOf b.hs b.os).length ≤ 80:=by unfold keysOf;rw [List.length_append,List.length_map,List.length_map];omega
 clear hF
 obtain ⟨i0,hi,hz0,hz1,hz2⟩:=info_parts zwc
 have HI0:=hd_ hi
 have HI1:=hd_ hz0
 have HI2:=hd_ hz1
 have HI3:=hd_ hz2
 clear hi hz0 hz1 hz2
 go_enter Try.func25,Try.ntmps25
 go_wp2_with fail
 rw [← hE]
 refine nm_ ?_
 intro w1 hw
 have HW_w1 : Hid (Wk 56 w w1 B X b L 0 A1 A2 A3 A4 p1 p2 p3 p4):=hd_ (by rw [hw];exact H.out.alloc _)
 have HE_w1 : Hid (w1.heap[E]? = some (.cells #[.int .i64 e.Kind,.int .i64 e.Key,.int .i64 e.Ch,.int .i64 e.To,.int .i64 e.Amt,.int .i64 e.Fee,.bool e.Yes] 37 (0,0))):=hd_ (by rw [hw];exact (hE ▸ zqm rfl))
 clear hw
 obtain ⟨a0,a1,a2,a3,a4,a5,a6,a7,af,az⟩:=HW_w1.out.open_
 obtain ⟨E0,E1,E2,E3,E4,E5,E6,-,-⟩:=box7_ HE_w1.out
 have hEB : Hid (w.heap.size ≤ E):=hd_ (by omega)
 have HXE : Hid (E ≠ X):=hd_ (by have:=H.out.lt;omega)
 clear hE
 refine zqk (fun w' => w'.cell? ⟨X,0,none⟩ = some (.int .i64 b.t)∧w'.cell? ⟨X,1,none⟩ = some (.int .i64 b.n)∧w'.cell? ⟨X,2,none⟩ = some (.int .i64 b.w)∧w'.cell? ⟨X,3,none⟩ = some (.slice A1 b.cs.length p1)∧w'.cell? ⟨X,4,none⟩ = some (.slice A2 b.hs.length p2)∧w'.cell? ⟨X,5,none⟩ = some (.slice A3 b.os.length p3)∧w'.cell? ⟨X,6,none⟩ = some (.slice A4 L.length p4)∧w'.cell? ⟨E,0,none⟩ = some (.int .i64 e.Kind)∧w'.cell? ⟨E,1,none⟩ = some (.int .i64 e.Key)∧w'.cell? ⟨E,2,none⟩ = some (.int .i64 e.Ch)∧w'.cell? ⟨E,3,none⟩ = some (.int .i64 e.To)∧w'.cell? ⟨E,4,none⟩ = some (.int .i64 e.Amt)∧w'.cell? ⟨E,5,none⟩ = some (.int .i64 e.Fee)∧w'.cell? ⟨E,6,none⟩ = some (.bool e.Yes)) [(0,some 11,false,none),(1,some 12,false,none),(2,some 13,false,none),(3,some 14,false,none),(4,some 15,false,none),(6,some 17,false,none),(7,some 18,false,none),(5,some 16,true,none),(8,some 19,true,none),(9,some 20,true,none),(10,some 21,false,none),(11,some 22,false,some (21,false)),(12,some 23,false,some (21,false)),(13,some 24,false,some (21,false)),(14,some 25,false,some (21,false)),(15,some 26,false,some (21,false)),(16,some 27,false,some (21,false)),(17,some 28,false,some (21,false)),(18,some 29,false,some (21,false)),(19,some 30,false,some (21,false)),(20,some 31,true,some (21,false)),(21,some 32,false,some (21,false)),(22,some 33,true,some (21,false)),(23,some 34,false,none),(24,some 35,false,none),(25,some 36,false,some (35,false)),(26,some 37,false,some (35,false)),(27,some 38,false,some (35,false)),(28,some 39,false,some (35,false)),(29,some 40,false,some (35,false)),(30,some 41,false,some (35,false)),(31,some 42,false,some (35,false)),(32,some 43,false,some (35,false)),(33,some 44,true,some (35,false)),(34,some 45,false,none)] (by kernel_rfl) (by kernel_rfl) (by kernel_rfl) ⟨a0,a1,a2,a3,a4,a5,a6,E0,E1,E2,E3,E4,E5,E6⟩ (fun hHeld => ?_)
 obtain ⟨w2,hwd⟩ : ∃ wd,w1.drew = wd:=⟨_,rfl⟩
 have HW_w2 : Hid (Wk 56 w w2 B X b L 0 A1 A2 A3 A4 p1 p2 p3 p4):=hd_ (by rw [← hwd];exact HW_w1.out.drew)
 have HE_w2 : Hid (w2.heap[E]? = some (.cells #[.int .i64 e.Kind,.int .i64 e.Key,.int .i64 e.Ch,.int .i64 e.To,.int .i64 e.Amt,.int .i64 e.Fee,.bool e.Yes] 37 (0,0))):=hd_ (by rw [← hwd];exact zqe HE_w1.out)
 clear a0 a1 a2 a3 a4 a5 a6 a7 af az E0 E1 E2 E3 E4 E5 E6
 rw [hwd] at hHeld ⊢
 clear hwd
 obtain ⟨a0,a1,a2,a3,a4,a5,a6,a7,af,az⟩:=HW_w2.out.open_
 obtain ⟨E0,E1,E2,E3,E4,E5,E6,-,-⟩:=box7_ HE_w2.out
 refine tk_ ?_
 refine Sq.step rfl (by rfl) (fun K hK => ?_)
 go_simp
 refine (s_l07Keys b.t b.n b.w b.cs b.hs b.os _ _ _ _ _ _ _ h60 h20 HW_w2.out.o.rd).mono ?_
 rintro e' w3 ⟨KA,kcap,rfl,how,hb⟩
 have HK:=hd_ how.rd
 clear how
 have HW_w3:=hd_ (HW_w2.out.below hb)
 have HE_w3:=hd_ (zqb hb (gz_ HE_w2.out).1 HE_w2.out)
 clear hb
 clear a0 a1 a2 a3 a4 a5 a6 a7 af az E0 E1 E2 E3 E4 E5 E6
 obtain ⟨a0,a1,a2,a3,a4,a5,a6,a7,af,az⟩:=HW_w3.out.open_
 obtain ⟨E0,E1,E2,E3,E4,E5,E6,-,-⟩:=box7_ HE_w3.out
 go_simp
 refine hK.out _ _ ⟨a0,a1,a2,a3,a4,a5,a6,E0,E1,E2,E3,E4,E5,E6⟩ (fun hHeld => ?_)
 clear hK K
 refine tk_ ?_
 cases t9 : hasB (keysOf b.hs b.os) e.Key
 ·
  have H9:=hd_ t9
  refine Sq.step rfl (by rfl) (fun K hK => ?_)
  go_simp
  refine (zhd (keysOf b.hs b.os) e.Key KA kcap _ (by omega) HK.out).mono ?_
  rintro e' wz ⟨rfl,rfl⟩
  go_simp
  refine hK.out _ _ ⟨a0,a1,a2,a3,a4,a5,a6,E0,E1,E2,E3,E4,E5,E6⟩ (fun hHeld => ?_)
  clear hK K
  refine tk_ ?_
  refine Sq.step rfl (by rfl) (fun K hK => ?_)
  go_simp
  refine (zqn _ _ B X b L A1 A2 A3 A4 p1 p2 p3 p4 9 HW_w3.out).mono ?_
  rintro e' wz ⟨rfl,rfl⟩
  go_simp
  refine hK.out _ _ ⟨a0,a1,a2,a3,a4,a5,a6,E0,E1,E2,E3,E4,E5,E6⟩ (fun hHeld => ?_)
  clear hK K
  refine tk_ ?_
  clear HK
  cases t6 : twoB b.cs e.Ch e.To
  ·
   have H6:=hd_ t6
   refine Sq.step rfl (by rfl) (fun K hK => ?_)
   go_simp
   refine (zke b.t b.n b.w b.cs b.hs b.os _ _ _ _ _ _ e.Ch e.To _ (by omega) HW_w3.out.o.rd).mono ?_
   rintro e' w4 ⟨rfl,hb⟩
   have HW_w4:=hd_ (HW_w3.out.below hb)
   have HE_w4:=hd_ (zqb hb (gz_ HE_w3.out).1 HE_w3.out)
   clear hb
   clear a0 a1 a2 a3 a4 a5 a6 a7 af az E0 E1 E2 E3 E4 E5 E6
   obtain ⟨a0,a1,a2,a3,a4,a5,a6,a7,af,az⟩:=HW_w4.out.open_
   obtain ⟨E0,E1,E2,E3,E4,E5,E6,-,-⟩:=box7_ HE_w4.out
   go_simp
   refine hK.out _ _ ⟨a0,a1,a2,a3,a4,a5,a6,E0,E1,E2,E3,E4,E5,E6⟩ (fun hHeld => ?_)
   clear hK K
   refine tk_ ?_
   refine Sq.step rfl (by rfl) (fun K hK => ?_)
   go_simp
   refine (zxh _ _ B X b L A1 A2 A3 A4 p1 p2 p3 p4 6 (by decide) HW_w4.out).mono ?_
   rintro e' w5 ⟨rfl,hh,ho⟩
   have HW_w5:=hd_ (HW_w4.out.trans hh)
   have HE_w5:=hd_ (ho _ _ HXE.out HE_w4.out)
   clear hh ho
   clear a0 a1 a2 a3 a4 a5 a6 a7 af az E0 E1 E2 E3 E4 E5 E6
   obtain ⟨a0,a1,a2,a3,a4,a5,a6,a7,af,az⟩:=HW_w5.out.open_
   obtain ⟨E0,E1,E2,E3,E4,E5,E6,-,-⟩:=box7_ HE_w5.out
   go_simp
   refine hK.out _ _ ⟨a0,a1,a2,a3,a4,a5,a6,E0,E1,E2,E3,E4,E5,E6⟩ (fun hHeld => ?_)
   clear hK K
   refine tk_ ?_
   refine Sq.done (NoPanic.normal ?_)
   go_wp2_with fail
   go_end0
   rw [admitS_6 H9.out H6.out]
   exact Acts.no (by decide) ⟨_,_,_,_,_,_,_,_,rfl,HW_w5.out⟩
  ·
   have H6:=hd_ t6
   obtain ⟨mi,mo⟩:=twoB_ix2 t6
   have Hmi:=hd_ mi
   have Hmo:=hd_ mo
   clear mi mo
   cases t14 : ((b.hs.length : Int) == 60)
   ·
    have H14 : Hid (b.hs.length ≠ 60):=hd_ (by have:=beq_eq_false_iff_ne.1 t14;omega)
    refine Sq.step rfl (by rfl) (fun K hK => ?_)
    go_simp
    refine (zke b.t b.n b.w b.cs b.hs b.os _ _ _ _ _ _ e.Ch e.To _ (by omega) HW_w3.out.o.rd).mono ?_
    rintro e' w4 ⟨rfl,hb⟩
    have HW_w4:=hd_ (HW_w3.out.below hb)
    have HE_w4:=hd_ (zqb hb (gz_ HE_w3.out).1 HE_w3.out)
    clear hb
    clear a0 a1 a2 a3 a4 a5 a6 a7 af az E0 E1 E2 E3 E4 E5 E6
    obtain ⟨a0,a1,a2,a3,a4,a5,a6,a7,af,az⟩:=HW_w4.out.open_
    obtain ⟨E0,E1,E2,E3,E4,E5,E6,-,-⟩:=box7_ HE_w4.out
    go_simp
    refine hK.out _ _ ⟨a0,a1,a2,a3,a4,a5,a6,E0,E1,E2,E3,E4,E5,E6⟩ (fun hHeld => ?_)
    clear hK K
    refine tk_ ?_
    refine Sq.step rfl (by rfl) (fun K hK => ?_)
    go_simp
    refine (zqn _ _ B X b L A1 A2 A3 A4 p1 p2 p3 p4 6 HW_w4.out).mono ?_
    rintro e' wz ⟨rfl,rfl⟩
    go_simp
    refine hK.out _ _ ⟨a0,a1,a2,a3,a4,a5,a6,E0,E1,E2,E3,E4,E5,E6⟩ (fun hHeld => ?_)
    clear hK K
    refine tk_ ?_
    refine Sq.step rfl (by rfl) (fun K hK => ?_)
    go_simp
    refine (zqn _ _ B X b L A1 A2 A3 A4 p1 p2 p3 p4 14 HW_w4.out).mono ?_
    rintro e' wz ⟨rfl,rfl⟩
    go_simp
    refine hK.out _ _ ⟨a0,a1,a2,a3,a4,a5,a6,E0,E1,E2,E3,E4,E5,E6⟩ (fun hHeld => ?_)
    clear hK K
    refine tk_ ?_
    refine Sq.done (NoPanic.normal ?_)
    clear t9 t6 t14
    obtain ⟨i,hi⟩:=Int.eq_ofNat_of_zero_le Hmi.out
    have hlti:=zjh hi
    obtain ⟨c,hc⟩ : ∃ c,chanOf b.cs e.Ch = c:=⟨_,rfl⟩
    have hci : b.cs[i] = c:=by rw [← hc];unfold chanOf;rw [hi,Int.toNat_natCast,List.getD_eq_getElem?_getD,List.getElem?_eq_getElem hlti];rfl
    have hr : (b.cs.map Chan.cells)[i]? = some c.cells:=by rw [List.getElem?_map,List.getElem?_eq_getElem hlti,hci];rfl
    obtain ⟨x0,x1,x2,x3,x4,x5,x6⟩:=c
    have HCi:=hd_ hc
    have HRowI:=hd_ hr
    have HIXi:=hd_ hi
    clear hci hr hc hi
    have ix0 : (0 : Int) ≤ (i : Int):=by omega
    have ix1 : (i : Int) < (b.cs.length : Int):=by omega
    obtain ⟨j,hj⟩:=Int.eq_ofNat_of_zero_le Hmo.out
    have hltj:=zjh hj
    obtain ⟨c,hc⟩ : ∃ c,chanOf b.cs e.To = c:=⟨_,rfl⟩
    have hci : b.cs[j] = c:=by rw [← hc];unfold chanOf;rw [hj,Int.toNat_natCast,List.getD_eq_getElem?_getD,List.getElem?_eq_getElem hltj];rfl
    have hr : (b.cs.map Chan.cells)[j]? = some c.cells:=by rw [List.getElem?_map,List.getElem?_eq_getElem hltj,hci];rfl
    obtain ⟨y0,y1,y2,y3,y4,y5,y6⟩:=c
    have HCj:=hd_ hc
    have HRowJ:=hd_ hr
    have HIXj:=hd_ hj
    clear hci hr hc hj
    have jx0 : (0 : Int) ≤ (j : Int):=by omega
    have jx1 : (j : Int) < (b.cs.length : Int):=by omega
    obtain ⟨g,hA,hBg⟩:=HW_w4.out.o.c.headW (by rw [List.length_map];omega)
    subst hA
    go_wp2_with fail
    clear a0 a1 a2 a3 a4 a5 a6 a7 af az E0 E1 E2 E3 E4 E5 E6
    refine meet (α:=Nat) (F:=fun CI w5 => Hid (Wk 56 w w5 B X b L 0 (some ⟨g,0,none⟩) A2 A3 A4 p1 p2 p3 p4)∧Hid (w5.heap[E]? = some (.cells #[.int .i64 e.Kind,.int .i64 e.Key,.int .i64 e.Ch,.int .i64 e.To,.int .i64 e.Amt,.int .i64 e.Fee,.bool e.Yes] 37 (0,0)))∧Hid (w5.heap[CI]? = some (.cells #[.int .i64 x0,.int .i64 x1,.int .i64 x2,.int .i64 x3,.int .i64 x4,.int .i64 x5,.int .i64 x6] 63 (0,0)))∧Hid (CI ≠ X)∧Hid (E ≠ CI)∧Hid (g ≠ CI)) (G:=?G2) (fun key => ?br2) ?rest2
    case br2 =>
     obtain ⟨a0,a1,a2,a3,a4,a5,a6,a7,af,az⟩:=HW_w4.out.open_
     obtain ⟨E0,E1,E2,E3,E4,E5,E6,-,-⟩:=box7_ HE_w4.out
     have z0 : w4.cell? ⟨g,i * 7,none⟩ = some (.int .i64 x0):=HW_w4.out.o.c.cellAt HRowI.out (j:=0) (by decide)
     have z1 : w4.cell? ⟨g,i * 7 + 1,none⟩ = some (.int .i64 x1):=HW_w4.out.o.c.cellAt HRowI.out (j:=1) (by decide)
     have z2 : w4.cell? ⟨g,i * 7 + 2,none⟩ = some (.int .i64 x2):=HW_w4.out.o.c.cellAt HRowI.out (j:=2) (by decide)
     have z3 : w4.cell? ⟨g,i * 7 + 3,none⟩ = some (.int .i64 x3):=HW_w4.out.o.c.cellAt HRowI.out (j:=3) (by decide)
     have z4 : w4.cell? ⟨g,i * 7 + 4,none⟩ = some (.int .i64 x4):=HW_w4.out.o.c.cellAt HRowI.out (j:=4) (by decide)
     have z5 : w4.cell? ⟨g,i * 7 + 5,none⟩ = some (.int .i64 x5):=HW_w4.out.o.c.cellAt HRowI.out (j:=5) (by decide)
     have z6 : w4.cell? ⟨g,i * 7 + 6,none⟩ = some (.int .i64 x6):=HW_w4.out.o.c.cellAt HRowI.out (j:=6) (by decide)
     refine wp_region_sq2 (fun w' => w'.cell? ⟨X,0,none⟩ = some (.int .i64 b.t)∧w'.cell? ⟨X,1,none⟩ = some (.int .i64 b.n)∧w'.cell? ⟨X,2,none⟩ = some (.int .i64 b.w)∧w'.cell? ⟨X,3,none⟩ = some (.slice (some ⟨g,0,none⟩) b.cs.length p1)∧w'.cell? ⟨X,4,none⟩ = some (.slice A2 b.hs.length p2)∧w'.cell? ⟨X,5,none⟩ = some (.slice A3 b.os.length p3)∧w'.cell? ⟨X,6,none⟩ = some (.slice A4 L.length p4)∧w'.cell? ⟨E,0,none⟩ = some (.int .i64 e.Kind)∧w'.cell? ⟨E,1,none⟩ = some (.int .i64 e.Key)∧w'.cell? ⟨E,2,none⟩ = some (.int .i64 e.Ch)∧w'.cell? ⟨E,3,none⟩ = some (.int .i64 e.To)∧w'.cell? ⟨E,4,none⟩ = some (.int .i64 e.Amt)∧w'.cell? ⟨E,5,none⟩ = some (.int .i64 e.Fee)∧w'.cell? ⟨E,6,none⟩ = some (.bool e.Yes)∧w'.cell? ⟨g,i * 7,none⟩ = some (.int .i64 x0)∧w'.cell? ⟨g,i * 7 + 1,none⟩ = some (.int .i64 x1)∧w'.cell? ⟨g,i * 7 + 2,none⟩ = some (.int .i64 x2)∧w'.cell? ⟨g,i * 7 + 3,none⟩ = some (.int .i64 x3)∧w'.cell? ⟨g,i * 7 + 4,none⟩ = some (.int .i64 x4)∧w'.cell? ⟨g,i * 7 + 5,none⟩ = some (.int .i64 x5)∧w'.cell? ⟨g,i * 7 + 6,none⟩ = some (.int .i64 x6)) [(0,some 46,false,none),(1,some 47,false,none),(2,some 48,false,none),(3,some 49,false,none),(4,some 50,false,none),(5,some 51,false,none),(6,some 52,false,none),(7,some 53,false,none),(8,some 54,false,none),(9,some 55,false,none),(10,some 56,false,none)] [(11,some 57,true,none),(12,some 58,false,none),(13,some 59,false,none),(14,some 4,true,none),(15,none,true,none)] [(14,some 4,true,none),(11,some 57,true,none),(12,some 58,false,none),(13,some 59,false,none),(15,none,true,none)] (by kernel_rfl) (by kernel_rfl) (by kernel_rfl) ⟨a0,a1,a2,a3,a4,a5,a6,E0,E1,E2,E3,E4,E5,E6,z0,z1,z2,z3,z4,z5,z6⟩ (fun hHeld => ?_)
     obtain ⟨w5,hwd⟩ : ∃ wd,w4.drew = wd:=⟨_,rfl⟩
     have HW_w5 : Hid (Wk 56 w w5 B X b L 0 (some ⟨g,0,none⟩) A2 A3 A4 p1 p2 p3 p4):=hd_ (by rw [← hwd];exact HW_w4.out.drew)
     have HE_w5 : Hid (w5.heap[E]? = some (.cells #[.int .i64 e.Kind,.int .i64 e.Key,.int .i64 e.Ch,.int .i64 e.To,.int .i64 e.Amt,.int .i64 e.Fee,.bool e.Yes] 37 (0,0))):=hd_ (by rw [← hwd];exact zqe HE_w4.out)
     clear a0 a1 a2 a3 a4 a5 a6 a7 af az z0 z1 z2 z3 z4 z5 z6 E0 E1 E2 E3 E4 E5 E6
     rw [hwd] at hHeld ⊢
     clear hwd
     obtain ⟨a0,a1,a2,a3,a4,a5,a6,a7,af,az⟩:=HW_w5.out.open_
     obtain ⟨E0,E1,E2,E3,E4,E5,E6,-,-⟩:=box7_ HE_w5.out
     have z0 : w5.cell? ⟨g,i * 7,none⟩ = some (.int .i64 x0):=HW_w5.out.o.c.cellAt HRowI.out (j:=0) (by decide)
     have z1 : w5.cell? ⟨g,i * 7 + 1,none⟩ = some (.int .i64 x1):=HW_w5.out.o.c.cellAt HRowI.out (j:=1) (by decide)
     have z2 : w5.cell? ⟨g,i * 7 + 2,none⟩ = some (.int .i64 x2):=HW_w5.out.o.c.cellAt HRowI.out (j:=2) (by decide)
     have z3 : w5.cell? ⟨g,i * 7 + 3,none⟩ = some (.int .i64 x3):=HW_w5.out.o.c.cellAt HRowI.out (j:=3) (by decide)
     have z4 : w5.cell? ⟨g,i * 7 + 4,none⟩ = some (.int .i64 x4):=HW_w5.out.o.c.cellAt HRowI.out (j:=4) (by decide)
     have z5 : w5.cell? ⟨g,i * 7 + 5,none⟩ = some (.int .i64 x5):=HW_w5.out.o.c.cellAt HRowI.out (j:=5) (by decide)
     have z6 : w5.cell? ⟨g,i * 7 + 6,none⟩ = some (.int .i64 x6):=HW_w5.out.o.c.cellAt HRowI.out (j:=6) (by decide)
     refine tk_ ?_
     refine Sq.done ⟨?_,?_⟩
     ·
      refine Sq.step rfl (by rfl) (fun K hK => ?_)
      go_simp
      refine (zva b.t b.n b.w b.cs b.hs b.os _ _ _ _ _ _ e.Ch _ (by omega) HW_w5.out.o.rd).mono ?_
      rintro e' w6 ⟨rfl,hb⟩
      rw [HIXi.out]
      have HW_w6:=hd_ (HW_w5.out.below hb)
      have HE_w6:=hd_ (zqb hb (gz_ HE_w5.out).1 HE_w5.out)
      clear hb
      clear a0 a1 a2 a3 a4 a5 a6 a7 af az z0 z1 z2 z3 z4 z5 z6 E0 E1 E2 E3 E4 E5 E6
      obtain ⟨a0,a1,a2,a3,a4,a5,a6,a7,af,az⟩:=HW_w6.out.open_
      obtain ⟨E0,E1,E2,E3,E4,E5,E6,-,-⟩:=box7_ HE_w6.out
      have z0 : w6.cell? ⟨g,i * 7,none⟩ = some (.int .i64 x0):=HW_w6.out.o.c.cellAt HRowI.out (j:=0) (by decide)
      have z1 : w6.cell? ⟨g,i * 7 + 1,none⟩ = some (.int .i64 x1):=HW_w6.out.o.c.cellAt HRowI.out (j:=1) (by decide)
      have z2 : w6.cell? ⟨g,i * 7 + 2,none⟩ = some (.int .i64 x2):=HW_w6.out.o.c.cellAt HRowI.out (j:=2) (by decide)
      have z3 : w6.cell? ⟨g,i * 7 + 3,none⟩ = some (.int .i64 x3):=HW_w6.out.o.c.cellAt HRowI.out (j:=3) (by decide)
      have z4 : w6.cell? ⟨g,i * 7 + 4,none⟩ = some (.int .i64 x4):=HW_w6.out.o.c.cellAt HRowI.out (j:=4) (by decide)
      have z5 : w6.cell? ⟨g,i * 7 + 5,none⟩ = some (.int .i64 x5):=HW_w6.out.o.c.cellAt HRowI.out (j:=5) (by decide)
      have z6 : w6.cell? ⟨g,i * 7 + 6,none⟩ = some (.int .i64 x6):=HW_w6.out.o.c.cellAt HRowI.out (j:=6) (by decide)
      go_simp
      refine hK.out _ _ ⟨a0,a1,a2,a3,a4,a5,a6,E0,E1,E2,E3,E4,E5,E6,z0,z1,z2,z3,z4,z5,z6⟩ (fun hHeld => ?_)
      clear hK K
      refine tk_ ?_
      refine Sq.step rfl (by rfl) (fun K hK => ?_)
      go_simp
      refine zkd (fun w7 hw => ?_)
      obtain ⟨CI,hC⟩ : ∃ C,C = w6.heap.size:=⟨_,rfl⟩
      rw [← hC]
      have HW_w7 : Hid (Wk 56 w w7 B X b L 0 (some ⟨g,0,none⟩) A2 A3 A4 p1 p2 p3 p4):=hd_ (by rw [hw];exact HW_w6.out.alloc _)
      have HE_w7 : Hid (w7.heap[E]? = some (.cells #[.int .i64 e.Kind,.int .i64 e.Key,.int .i64 e.Ch,.int .i64 e.To,.int .i64 e.Amt,.int .i64 e.Fee,.bool e.Yes] 37 (0,0))):=hd_ (by rw [hw];exact zqc (gz_ HE_w6.out).1 HE_w6.out)
      have HI_w7 : Hid (w7.heap[CI]? = some (.cells #[.int .i64 0,.int .i64 0,.int .i64 0,.int .i64 0,.int .i64 0,.int .i64 0,.int .i64 0] 63 (0,0))):=hd_ (by rw [hw,hC];exact zqm rfl)
      have HXI : Hid (CI ≠ X):=hd_ (by have:=HW_w6.out.lt;omega)
      have HNIE : Hid (E ≠ CI):=hd_ (by have:=(gz_ HE_w6.out).1;omega)
      have HGI : Hid (g ≠ CI):=hd_ (by have:=(HW_w6.out.o.c.block g (by simp [Value.ownBlock])).2;omega)
      have HBgeI : Hid (B ≤ CI):=hd_ (by rw [hC];exact HW_w6.out.ble)
      clear hw hC a0 a1 a2 a3 a4 a5 a6 a7 af az z0 z1 z2 z3 z4 z5 z6 E0 E1 E2 E3 E4 E5 E6
      obtain ⟨a0,a1,a2,a3,a4,a5,a6,a7,af,az⟩:=HW_w7.out.open_
      obtain ⟨E0,E1,E2,E3,E4,E5,E6,-,-⟩:=box7_ HE_w7.out
      obtain ⟨I0,I1,I2,I3,I4,I5,I6,-,-⟩:=box7_ HI_w7.out
      have z0 : w7.cell? ⟨g,i * 7,none⟩ = some (.int .i64 x0):=HW_w7.out.o.c.cellAt HRowI.out (j:=0) (by decide)
      have z1 : w7.cell? ⟨g,i * 7 + 1,none⟩ = some (.int .i64 x1):=HW_w7.out.o.c.cellAt HRowI.out (j:=1) (by decide)
      have z2 : w7.cell? ⟨g,i * 7 + 2,none⟩ = some (.int .i64 x2):=HW_w7.out.o.c.cellAt HRowI.out (j:=2) (by decide)
      have z3 : w7.cell? ⟨g,i * 7 + 3,none⟩ = some (.int .i64 x3):=HW_w7.out.o.c.cellAt HRowI.out (j:=3) (by decide)
      have z4 : w7.cell? ⟨g,i * 7 + 4,none⟩ = some (.int .i64 x4):=HW_w7.out.o.c.cellAt HRowI.out (j:=4) (by decide)
      have z5 : w7.cell? ⟨g,i * 7 + 5,none⟩ = some (.int .i64 x5):=HW_w7.out.o.c.cellAt HRowI.out (j:=5) (by decide)
      have z6 : w7.cell? ⟨g,i * 7 + 6,none⟩ = some (.int .i64 x6):=HW_w7.out.o.c.cellAt HRowI.out (j:=6) (by decide)
      go_simp
      refine hK.out _ _ ⟨a0,a1,a2,a3,a4,a5,a6,E0,E1,E2,E3,E4,E5,E6,z0,z1,z2,z3,z4,z5,z6⟩ (fun hHeld => ?_)
      clear hK K
      refine tk_ ?_
      have cf9:=zxb HI_w7.out
      refine Sq.step rfl (by rfl) (fun K hK => ?_)
      go_simp
      refine zkd (fun w8 hw => ?_)
      have hg9 : w7.grownBy w8 (some CI):=by rw [hw];exact zqg (zqg (zqg (zqg (zqg (zqg (zqg (World.grownBy.refl w7 (some CI)) _ _) _ _) _ _) _ _) _ _) _ _) _ _
      have HW_w8 : Hid (Wk 56 w w8 B X b L 0 (some ⟨g,0,none⟩) A2 A3 A4 p1 p2 p3 p4):=hd_ (HW_w7.out.ownBox HXI.out HGI.out HBgeI.out HI_w7.out hg9)
      have HE_w8 : Hid (w8.heap[E]? = some (.cells #[.int .i64 e.Kind,.int .i64 e.Key,.int .i64 e.Ch,.int .i64 e.To,.int .i64 e.Amt,.int .i64 e.Fee,.bool e.Yes] 37 (0,0))):=hd_ (zqj hg9 (fun e9 => HNIE.out (Option.some.inj e9)) HE_w7.out)
      have HI_w8 : Hid (w8.heap[CI]? = some (.cells #[.int .i64 x0,.int .i64 x1,.int .i64 x2,.int .i64 x3,.int .i64 x4,.int .i64 x5,.int .i64 x6] 63 (0,0))):=hd_ (by rw [hw];exact zqd (zqd (zqd (zqd (zqd (zqd (zqd (HI_w7.out))))))))
      clear hw hg9 cf9 a0 a1 a2 a3 a4 a5 a6 a7 af az z0 z1 z2 z3 z4 z5 z6 E0 E1 E2 E3 E4 E5 E6 I0 I1 I2 I3 I4 I5 I6
      obtain ⟨a0,a1,a2,a3,a4,a5,a6,a7,af,az⟩:=HW_w8.out.open_
      obtain ⟨E0,E1,E2,E3,E4,E5,E6,-,-⟩:=box7_ HE_w8.out
      obtain ⟨I0,I1,I2,I3,I4,I5,I6,-,-⟩:=box7_ HI_w8.out
      have z0 : w8.cell? ⟨g,i * 7,none⟩ = some (.int .i64 x0):=HW_w8.out.o.c.cellAt HRowI.out (j:=0) (by decide)
      have z1 : w8.cell? ⟨g,i * 7 + 1,none⟩ = some (.int .i64 x1):=HW_w8.out.o.c.cellAt HRowI.out (j:=1) (by decide)
      have z2 : w8.cell? ⟨g,i * 7 + 2,none⟩ = some (.int .i64 x2):=HW_w8.out.o.c.cellAt HRowI.out (j:=2) (by decide)
      have z3 : w8.cell? ⟨g,i * 7 + 3,none⟩ = some (.int .i64 x3):=HW_w8.out.o.c.cellAt HRowI.out (j:=3) (by decide)
      have z4 : w8.cell? ⟨g,i * 7 + 4,none⟩ = some (.int .i64 x4):=HW_w8.out.o.c.cellAt HRowI.out (j:=4) (by decide)
      have z5 : w8.cell? ⟨g,i * 7 + 5,none⟩ = some (.int .i64 x5):=HW_w8.out.o.c.cellAt HRowI.out (j:=5) (by decide)
      have z6 : w8.cell? ⟨g,i * 7 + 6,none⟩ = some (.int .i64 x6):=HW_w8.out.o.c.cellAt HRowI.out (j:=6) (by decide)
      go_simp
      refine hK.out _ _ ⟨a0,a1,a2,a3,a4,a5,a6,E0,E1,E2,E3,E4,E5,E6,z0,z1,z2,z3,z4,z5,z6⟩ (fun hHeld => ?_)
      clear hK K
      refine tk_ ?_
      refine Sq.done (NoPanic.normal ?_)
      exact key CI w8 ⟨HW_w8,HE_w8,HI_w8,HXI,HNIE,HGI⟩
     ·
      refine Sq.step rfl (by rfl) (fun K hK => ?_)
      go_simp
      refine zkd (fun w6 hw => ?_)
      obtain ⟨CI,hC⟩ : ∃ C,C = w5.heap.size:=⟨_,rfl⟩
      rw [← hC]
      have HW_w6 : Hid (Wk 56 w w6 B X b L 0 (some ⟨g,0,none⟩) A2 A3 A4 p1 p2 p3 p4):=hd_ (by rw [hw];exact HW_w5.out.alloc _)
      have HE_w6 : Hid (w6.heap[E]? = some (.cells #[.int .i64 e.Kind,.int .i64 e.Key,.int .i64 e.Ch,.int .i64 e.To,.int .i64 e.Amt,.int .i64 e.Fee,.bool e.Yes] 37 (0,0))):=hd_ (by rw [hw];exact zqc (gz_ HE_w5.out).1 HE_w5.out)
      have HI_w6 : Hid (w6.heap[CI]? = some (.cells #[.int .i64 0,.int .i64 0,.int .i64 0,.int .i64 0,.int .i64 0,.int .i64 0,.int .i64 0] 63 (0,0))):=hd_ (by rw [hw,hC];exact zqm rfl)
      have HXI : Hid (CI ≠ X):=hd_ (by have:=HW_w5.out.lt;omega)
      have HNIE : Hid (E ≠ CI):=hd_ (by have:=(gz_ HE_w5.out).1;omega)
      have HGI : Hid (g ≠ CI):=hd_ (by have:=(HW_w5.out.o.c.block g (by simp [Value.ownBlock])).2;omega)
      have HBgeI : Hid (B ≤ CI):=hd_ (by rw [hC];exact HW_w5.out.ble)
      clear hw hC a0 a1 a2 a3 a4 a5 a6 a7 af az z0 z1 z2 z3 z4 z5 z6 E0 E1 E2 E3 E4 E5 E6
      obtain ⟨a0,a1,a2,a3,a4,a5,a6,a7,af,az⟩:=HW_w6.out.open_
      obtain ⟨E0,E1,E2,E3,E4,E5,E6,-,-⟩:=box7_ HE_w6.out
      obtain ⟨I0,I1,I2,I3,I4,I5,I6,-,-⟩:=box7_ HI_w6.out
      have z0 : w6.cell? ⟨g,i * 7,none⟩ = some (.int .i64 x0):=HW_w6.out.o.c.cellAt HRowI.out (j:=0) (by decide)
      have z1 : w6.cell? ⟨g,i * 7 + 1,none⟩ = some (.int .i64 x1):=HW_w6.out.o.c.cellAt HRowI.out (j:=1) (by decide)
      have z2 : w6.cell? ⟨g,i * 7 + 2,none⟩ = some (.int .i64 x2):=HW_w6.out.o.c.cellAt HRowI.out (j:=2) (by decide)
      have z3 : w6.cell? ⟨g,i * 7 + 3,none⟩ = some (.int .i64 x3):=HW_w6.out.o.c.cellAt HRowI.out (j:=3) (by decide)
      have z4 : w6.cell? ⟨g,i * 7 + 4,none⟩ = some (.int .i64 x4):=HW_w6.out.o.c.cellAt HRowI.out (j:=4) (by decide)
      have z5 : w6.cell? ⟨g,i * 7 + 5,none⟩ = some (.int .i64 x5):=HW_w6.out.o.c.cellAt HRowI.out (j:=5) (by decide)
      have z6 : w6.cell? ⟨g,i * 7 + 6,none⟩ = some (.int .i64 x6):=HW_w6.out.o.c.cellAt HRowI.out (j:=6) (by decide)
      go_simp
      refine hK.out _ _ ⟨a0,a1,a2,a3,a4,a5,a6,E0,E1,E2,E3,E4,E5,E6,z0,z1,z2,z3,z4,z5,z6⟩ (fun hHeld => ?_)
      clear hK K
      refine tk_ ?_
      refine Sq.step rfl (by rfl) (fun K hK => ?_)
      go_simp
      refine (zva b.t b.n b.w b.cs b.hs b.os _ _ _ _ _ _ e.Ch _ (by omega) HW_w6.out.o.rd).mono ?_
      rintro e' w7 ⟨rfl,hb⟩
      rw [HIXi.out]
      have HW_w7:=hd_ (HW_w6.out.below hb)
      have HE_w7:=hd_ (zqb hb (gz_ HE_w6.out).1 HE_w6.out)
      have HI_w7:=hd_ (zqb hb (gz_ HI_w6.out).1 HI_w6.out)
      clear hb
      clear a0 a1 a2 a3 a4 a5 a6 a7 af az z0 z1 z2 z3 z4 z5 z6 E0 E1 E2 E3 E4 E5 E6 I0 I1 I2 I3 I4 I5 I6
      obtain ⟨a0,a1,a2,a3,a4,a5,a6,a7,af,az⟩:=HW_w7.out.open_
      obtain ⟨E0,E1,E2,E3,E4,E5,E6,-,-⟩:=box7_ HE_w7.out
      obtain ⟨I0,I1,I2,I3,I4,I5,I6,-,-⟩:=box7_ HI_w7.out
      have z0 : w7.cell? ⟨g,i * 7,none⟩ = some (.int .i64 x0):=HW_w7.out.o.c.cellAt HRowI.out (j:=0) (by decide)
      have z1 : w7.cell? ⟨g,i * 7 + 1,none⟩ = some (.int .i64 x1):=HW_w7.out.o.c.cellAt HRowI.out (j:=1) (by decide)
      have z2 : w7.cell? ⟨g,i * 7 + 2,none⟩ = some (.int .i64 x2):=HW_w7.out.o.c.cellAt HRowI.out (j:=2) (by decide)
      have z3 : w7.cell? ⟨g,i * 7 + 3,none⟩ = some (.int .i64 x3):=HW_w7.out.o.c.cellAt HRowI.out (j:=3) (by decide)
      have z4 : w7.cell? ⟨g,i * 7 + 4,none⟩ = some (.int .i64 x4):=HW_w7.out.o.c.cellAt HRowI.out (j:=4) (by decide)
      have z5 : w7.cell? ⟨g,i * 7 + 5,none⟩ = some (.int .i64 x5):=HW_w7.out.o.c.cellAt HRowI.out (j:=5) (by decide)
      have z6 : w7.cell? ⟨g,i * 7 + 6,none⟩ = some (.int .i64 x6):=HW_w7.out.o.c.cellAt HRowI.out (j:=6) (by decide)
      go_simp
      refine hK.out _ _ ⟨a0,a1,a2,a3,a4,a5,a6,E0,E1,E2,E3,E4,E5,E6,z0,z1,z2,z3,z4,z5,z6⟩ (fun hHeld => ?_)
      clear hK K
      refine tk_ ?_
      have cf9:=zxb HI_w7.out
      refine Sq.step rfl (by rfl) (fun K hK => ?_)
      go_simp
      refine zkd (fun w8 hw => ?_)
      have hg9 : w7.grownBy w8 (some CI):=by rw [hw];exact zqg (zqg (zqg (zqg (zqg (zqg (zqg (World.grownBy.refl w7 (some CI)) _ _) _ _) _ _) _ _) _ _) _ _) _ _
      have HW_w8 : Hid (Wk 56 w w8 B X b L 0 (some ⟨g,0,none⟩) A2 A3 A4 p1 p2 p3 p4):=hd_ (HW_w7.out.ownBox HXI.out HGI.out HBgeI.out HI_w7.out hg9)
      have HE_w8 : Hid (w8.heap[E]? = some (.cells #[.int .i64 e.Kind,.int .i64 e.Key,.int .i64 e.Ch,.int .i64 e.To,.int .i64 e.Amt,.int .i64 e.Fee,.bool e.Yes] 37 (0,0))):=hd_ (zqj hg9 (fun e9 => HNIE.out (Option.some.inj e9)) HE_w7.out)
      have HI_w8 : Hid (w8.heap[CI]? = some (.cells #[.int .i64 x0,.int .i64 x1,.int .i64 x2,.int .i64 x3,.int .i64 x4,.int .i64 x5,.int .i64 x6] 63 (0,0))):=hd_ (by rw [hw];exact zqd (zqd (zqd (zqd (zqd (zqd (zqd (HI_w7.out))))))))
      clear hw hg9 cf9 a0 a1 a2 a3 a4 a5 a6 a7 af az z0 z1 z2 z3 z4 z5 z6 E0 E1 E2 E3 E4 E5 E6 I0 I1 I2 I3 I4 I5 I6
      obtain ⟨a0,a1,a2,a3,a4,a5,a6,a7,af,az⟩:=HW_w8.out.open_
      obtain ⟨E0,E1,E2,E3,E4,E5,E6,-,-⟩:=box7_ HE_w8.out
      obtain ⟨I0,I1,I2,I3,I4,I5,I6,-,-⟩:=box7_ HI_w8.out
      have z0 : w8.cell? ⟨g,i * 7,none⟩ = some (.int .i64 x0):=HW_w8.out.o.c.cellAt HRowI.out (j:=0) (by decide)
      have z1 : w8.cell? ⟨g,i * 7 + 1,none⟩ = some (.int .i64 x1):=HW_w8.out.o.c.cellAt HRowI.out (j:=1) (by decide)
      have z2 : w8.cell? ⟨g,i * 7 + 2,none⟩ = some (.int .i64 x2):=HW_w8.out.o.c.cellAt HRowI.out (j:=2) (by decide)
      have z3 : w8.cell? ⟨g,i * 7 + 3,none⟩ = some (.int .i64 x3):=HW_w8.out.o.c.cellAt HRowI.out (j:=3) (by decide)
      have z4 : w8.cell? ⟨g,i * 7 + 4,none⟩ = some (.int .i64 x4):=HW_w8.out.o.c.cellAt HRowI.out (j:=4) (by decide)
      have z5 : w8.cell? ⟨g,i * 7 + 5,none⟩ = some (.int .i64 x5):=HW_w8.out.o.c.cellAt HRowI.out (j:=5) (by decide)
      have z6 : w8.cell? ⟨g,i * 7 + 6,none⟩ = some (.int .i64 x6):=HW_w8.out.o.c.cellAt HRowI.out (j:=6) (by decide)
      go_simp
      refine hK.out _ _ ⟨a0,a1,a2,a3,a4,a5,a6,E0,E1,E2,E3,E4,E5,E6,z0,z1,z2,z3,z4,z5,z6⟩ (fun hHeld => ?_)
      clear hK K
      refine tk_ ?_
      refine Sq.done (NoPanic.normal ?_)
      exact key CI w8 ⟨HW_w8,HE_w8,HI_w8,HXI,HNIE,HGI⟩
    case rest2 =>
     intro CI v2 hF
     obtain ⟨HW_v2,HE_v2,HI_v2,HXI,HNIE,HGI⟩:=hF
     obtain ⟨a0,a1,a2,a3,a4,a5,a6,a7,af,az⟩:=HW_v2.out.open_
     obtain ⟨E0,E1,E2,E3,E4,E5,E6,-,-⟩:=box7_ HE_v2.out
     obtain ⟨I0,I1,I2,I3,I4,I5,I6,-,-⟩:=box7_ HI_v2.out
     go_wp2_with fail
     clear a0 a1 a2 a3 a4 a5 a6 a7 af az E0 E1 E2 E3 E4 E5 E6 I0 I1 I2 I3 I4 I5 I6
     refine meet (α:=Nat) (F:=fun CJ w5 => Hid (Wk 56 w w5 B X b L 0 (some ⟨g,0,none⟩) A2 A3 A4 p1 p2 p3 p4)∧Hid (w5.heap[E]? = some (.cells #[.int .i64 e.Kind,.int .i64 e.Key,.int .i64 e.Ch,.int .i64 e.To,.int .i64 e.Amt,.int .i64 e.Fee,.bool e.Yes] 37 (0,0)))∧Hid (w5.heap[CI]? = some (.cells #[.int .i64 x0,.int .i64 x1,.int .i64 x2,.int .i64 x3,.int .i64 x4,.int .i64 x5,.int .i64 x6] 63 (0,0)))∧Hid (w5.heap[CJ]? = some (.cells #[.int .i64 y0,.int .i64 y1,.int .i64 y2,.int .i64 y3,.int .i64 y4,.int .i64 y5,.int .i64 y6] 63 (0,0)))∧Hid (CJ ≠ X)∧Hid (E ≠ CJ)∧Hid (CI ≠ CJ)∧Hid (g ≠ CJ)) (G:=?G3) (fun key => ?br3) ?rest3
     case br3 =>
      obtain ⟨a0,a1,a2,a3,a4,a5,a6,a7,af,az⟩:=HW_v2.out.open_
      obtain ⟨E0,E1,E2,E3,E4,E5,E6,-,-⟩:=box7_ HE_v2.out
      obtain ⟨I0,I1,I2,I3,I4,I5,I6,-,-⟩:=box7_ HI_v2.out
      have z0 : v2.cell? ⟨g,j * 7,none⟩ = some (.int .i64 y0):=HW_v2.out.o.c.cellAt HRowJ.out (j:=0) (by decide)
      have z1 : v2.cell? ⟨g,j * 7 + 1,none⟩ = some (.int .i64 y1):=HW_v2.out.o.c.cellAt HRowJ.out (j:=1) (by decide)
      have z2 : v2.cell? ⟨g,j * 7 + 2,none⟩ = some (.int .i64 y2):=HW_v2.out.o.c.cellAt HRowJ.out (j:=2) (by decide)
      have z3 : v2.cell? ⟨g,j * 7 + 3,none⟩ = some (.int .i64 y3):=HW_v2.out.o.c.cellAt HRowJ.out (j:=3) (by decide)
      have z4 : v2.cell? ⟨g,j * 7 + 4,none⟩ = some (.int .i64 y4):=HW_v2.out.o.c.cellAt HRowJ.out (j:=4) (by decide)
      have z5 : v2.cell? ⟨g,j * 7 + 5,none⟩ = some (.int .i64 y5):=HW_v2.out.o.c.cellAt HRowJ.out (j:=5) (by decide)
      have z6 : v2.cell? ⟨g,j * 7 + 6,none⟩ = some (.int .i64 y6):=HW_v2.out.o.c.cellAt HRowJ.out (j:=6) (by decide)
      refine wp_region_sq2 (fun w' => w'.cell? ⟨X,0,none⟩ = some (.int .i64 b.t)∧w'.cell? ⟨X,1,none⟩ = some (.int .i64 b.n)∧w'.cell? ⟨X,2,none⟩ = some (.int .i64 b.w)∧w'.cell? ⟨X,3,none⟩ = some (.slice (some ⟨g,0,none⟩) b.cs.length p1)∧w'.cell? ⟨X,4,none⟩ = some (.slice A2 b.hs.length p2)∧w'.cell? ⟨X,5,none⟩ = some (.slice A3 b.os.length p3)∧w'.cell? ⟨X,6,none⟩ = some (.slice A4 L.length p4)∧w'.cell? ⟨E,0,none⟩ = some (.int .i64 e.Kind)∧w'.cell? ⟨E,1,none⟩ = some (.int .i64 e.Key)∧w'.cell? ⟨E,2,none⟩ = some (.int .i64 e.Ch)∧w'.cell? ⟨E,3,none⟩ = some (.int .i64 e.To)∧w'.cell? ⟨E,4,none⟩ = some (.int .i64 e.Amt)∧w'.cell? ⟨E,5,none⟩ = some (.int .i64 e.Fee)∧w'.cell? ⟨E,6,none⟩ = some (.bool e.Yes)∧w'.cell? ⟨CI,0,none⟩ = some (.int .i64 x0)∧w'.cell? ⟨CI,1,none⟩ = some (.int .i64 x1)∧w'.cell? ⟨CI,2,none⟩ = some (.int .i64 x2)∧w'.cell? ⟨CI,3,none⟩ = some (.int .i64 x3)∧w'.cell? ⟨CI,4,none⟩ = some (.int .i64 x4)∧w'.cell? ⟨CI,5,none⟩ = some (.int .i64 x5)∧w'.cell? ⟨CI,6,none⟩ = some (.int .i64 x6)∧w'.cell? ⟨g,j * 7,none⟩ = some (.int .i64 y0)∧w'.cell? ⟨g,j * 7 + 1,none⟩ = some (.int .i64 y1)∧w'.cell? ⟨g,j * 7 + 2,none⟩ = some (.int .i64 y2)∧w'.cell? ⟨g,j * 7 + 3,none⟩ = some (.int .i64 y3)∧w'.cell? ⟨g,j * 7 + 4,none⟩ = some (.int .i64 y4)∧w'.cell? ⟨g,j * 7 + 5,none⟩ = some (.int .i64 y5)∧w'.cell? ⟨g,j * 7 + 6,none⟩ = some (.int .i64 y6)) [(0,some 60,false,none),(1,some 61,false,none),(2,some 62,false,none),(3,some 63,false,none),(4,some 64,false,none),(5,some 65,false,none),(6,some 66,false,none),(7,some 67,false,none),(8,some 68,false,none),(9,some 69,false,none),(10,some 70,false,none)] [(11,some 71,true,none),(12,some 72,false,none),(13,some 73,false,none),(14,some 5,true,none),(15,none,true,none)] [(14,some 5,true,none),(11,some 71,true,none),(12,some 72,false,none),(13,some 73,false,none),(15,none,true,none)] (by kernel_rfl) (by kernel_rfl) (by kernel_rfl) ⟨a0,a1,a2,a3,a4,a5,a6,E0,E1,E2,E3,E4,E5,E6,I0,I1,I2,I3,I4,I5,I6,z0,z1,z2,z3,z4,z5,z6⟩ (fun hHeld => ?_)
      obtain ⟨w5,hwd⟩ : ∃ wd,v2.drew = wd:=⟨_,rfl⟩
      have HW_w5 : Hid (Wk 56 w w5 B X b L 0 (some ⟨g,0,none⟩) A2 A3 A4 p1 p2 p3 p4):=hd_ (by rw [← hwd];exact HW_v2.out.drew)
      have HE_w5 : Hid (w5.heap[E]? = some (.cells #[.int .i64 e.Kind,.int .i64 e.Key,.int .i64 e.Ch,.int .i64 e.To,.int .i64 e.Amt,.int .i64 e.Fee,.bool e.Yes] 37 (0,0))):=hd_ (by rw [← hwd];exact zqe HE_v2.out)
      have HI_w5 : Hid (w5.heap[CI]? = some (.cells #[.int .i64 x0,.int .i64 x1,.int .i64 x2,.int .i64 x3,.int .i64 x4,.int .i64 x5,.int .i64 x6] 63 (0,0))):=hd_ (by rw [← hwd];exact zqe HI_v2.out)
      clear a0 a1 a2 a3 a4 a5 a6 a7 af az z0 z1 z2 z3 z4 z5 z6 E0 E1 E2 E3 E4 E5 E6 I0 I1 I2 I3 I4 I5 I6
      rw [hwd] at hHeld ⊢
      clear hwd
      obtain ⟨a0,a1,a2,a3,a4,a5,a6,a7,af,az⟩:=HW_w5.out.open_
      obtain ⟨E0,E1,E2,E3,E4,E5,E6,-,-⟩:=box7_ HE_w5.out
      obtain ⟨I0,I1,I2,I3,I4,I5,I6,-,-⟩:=box7_ HI_w5.out
      have z0 : w5.cell? ⟨g,j * 7,none⟩ = some (.int .i64 y0):=HW_w5.out.o.c.cellAt HRowJ.out (j:=0) (by decide)
      have z1 : w5.cell? ⟨g,j * 7 + 1,none⟩ = some (.int .i64 y1):=HW_w5.out.o.c.cellAt HRowJ.out (j:=1) (by decide)
      have z2 : w5.cell? ⟨g,j * 7 + 2,none⟩ = some (.int .i64 y2):=HW_w5.out.o.c.cellAt HRowJ.out (j:=2) (by decide)
      have z3 : w5.cell? ⟨g,j * 7 + 3,none⟩ = some (.int .i64 y3):=HW_w5.out.o.c.cellAt HRowJ.out (j:=3) (by decide)
      have z4 : w5.cell? ⟨g,j * 7 + 4,none⟩ = some (.int .i64 y4):=HW_w5.out.o.c.cellAt HRowJ.out (j:=4) (by decide)
      have z5 : w5.cell? ⟨g,j * 7 + 5,none⟩ = some (.int .i64 y5):=HW_w5.out.o.c.cellAt HRowJ.out (j:=5) (by decide)
      have z6 : w5.cell? ⟨g,j * 7 + 6,none⟩ = some (.int .i64 y6):=HW_w5.out.o.c.cellAt HRowJ.out (j:=6) (by decide)
      refine tk_ ?_
      refine Sq.done ⟨?_,?_⟩
      ·
       refine Sq.step rfl (by rfl) (fun K hK => ?_)
       go_simp
       refine (zva b.t b.n b.w b.cs b.hs b.os _ _ _ _ _ _ e.To _ (by omega) HW_w5.out.o.rd).mono ?_
       rintro e' w6 ⟨rfl,hb⟩
       rw [HIXj.out]
       have HW_w6:=hd_ (HW_w5.out.below hb)
       have HE_w6:=hd_ (zqb hb (gz_ HE_w5.out).1 HE_w5.out)
       have HI_w6:=hd_ (zqb hb (gz_ HI_w5.out).1 HI_w5.out)
       clear hb
       clear a0 a1 a2 a3 a4 a5 a6 a7 af az z0 z1 z2 z3 z4 z5 z6 E0 E1 E2 E3 E4 E5 E6 I0 I1 I2 I3 I4 I5 I6
       obtain ⟨a0,a1,a2,a3,a4,a5,a6,a7,af,az⟩:=HW_w6.out.open_
       obtain ⟨E0,E1,E2,E3,E4,E5,E6,-,-⟩:=box7_ HE_w6.out
       obtain ⟨I0,I1,I2,I3,I4,I5,I6,-,-⟩:=box7_ HI_w6.out
       have z0 : w6.cell? ⟨g,j * 7,none⟩ = some (.int .i64 y0):=HW_w6.out.o.c.cellAt HRowJ.out (j:=0) (by decide)
       have z1 : w6.cell? ⟨g,j * 7 + 1,none⟩ = some (.int .i64 y1):=HW_w6.out.o.c.cellAt HRowJ.out (j:=1) (by decide)
       have z2 : w6.cell? ⟨g,j * 7 + 2,none⟩ = some (.int .i64 y2):=HW_w6.out.o.c.cellAt HRowJ.out (j:=2) (by decide)
       have z3 : w6.cell? ⟨g,j * 7 + 3,none⟩ = some (.int .i64 y3):=HW_w6.out.o.c.cellAt HRowJ.out (j:=3) (by decide)
       have z4 : w6.cell? ⟨g,j * 7 + 4,none⟩ = some (.int .i64 y4):=HW_w6.out.o.c.cellAt HRowJ.out (j:=4) (by decide)
       have z5 : w6.cell? ⟨g,j * 7 + 5,none⟩ = some (.int .i64 y5):=HW_w6.out.o.c.cellAt HRowJ.out (j:=5) (by decide)
       have z6 : w6.cell? ⟨g,j * 7 + 6,none⟩ = some (.int .i64 y6):=HW_w6.out.o.c.cellAt HRowJ.out (j:=6) (by decide)
       go_simp
       refine hK.out _ _ ⟨a0,a1,a2,a3,a4,a5,a6,E0,E1,E2,E3,E4,E5,E6,I0,I1,I2,I3,I4,I5,I6,z0,z1,z2,z3,z4,z5,z6⟩ (fun hHeld => ?_)
       clear hK K
       refine tk_ ?_
       refine Sq.step rfl (by rfl) (fun K hK => ?_)
       go_simp
       refine zkd (fun w7 hw => ?_)
       obtain ⟨CJ,hC⟩ : ∃ C,C = w6.heap.size:=⟨_,rfl⟩
       rw [← hC]
       have HW_w7 : Hid (Wk 56 w w7 B X b L 0 (some ⟨g,0,none⟩) A2 A3 A4 p1 p2 p3 p4):=hd_ (by rw [hw];exact HW_w6.out.alloc _)
       have HE_w7 : Hid (w7.heap[E]? = some (.cells #[.int .i64 e.Kind,.int .i64 e.Key,.int .i64 e.Ch,.int .i64 e.To,.int .i64 e.Amt,.int .i64 e.Fee,.bool e.Yes] 37 (0,0))):=hd_ (by rw [hw];exact zqc (gz_ HE_w6.out).1 HE_w6.out)
       have HI_w7 : Hid (w7.heap[CI]? = some (.cells #[.int .i64 x0,.int .i64 x1,.int .i64 x2,.int .i64 x3,.int .i64 x4,.int .i64 x5,.int .i64 x6] 63 (0,0))):=hd_ (by rw [hw];exact zqc (gz_ HI_w6.out).1 HI_w6.out)
       have HJ_w7 : Hid (w7.heap[CJ]? = some (.cells #[.int .i64 0,.int .i64 0,.int .i64 0,.int .i64 0,.int .i64 0,.int .i64 0,.int .i64 0] 63 (0,0))):=hd_ (by rw [hw,hC];exact zqm rfl)
       have HXJ : Hid (CJ ≠ X):=hd_ (by have:=HW_w6.out.lt;omega)
       have HNJE : Hid (E ≠ CJ):=hd_ (by have:=(gz_ HE_w6.out).1;omega)
       have HNJI : Hid (CI ≠ CJ):=hd_ (by have:=(gz_ HI_w6.out).1;omega)
       have HGJ : Hid (g ≠ CJ):=hd_ (by have:=(HW_w6.out.o.c.block g (by simp [Value.ownBlock])).2;omega)
       have HBgeJ : Hid (B ≤ CJ):=hd_ (by rw [hC];exact HW_w6.out.ble)
       clear hw hC a0 a1 a2 a3 a4 a5 a6 a7 af az z0 z1 z2 z3 z4 z5 z6 E0 E1 E2 E3 E4 E5 E6 I0 I1 I2 I3 I4 I5 I6
       obtain ⟨a0,a1,a2,a3,a4,a5,a6,a7,af,az⟩:=HW_w7.out.open_
       obtain ⟨E0,E1,E2,E3,E4,E5,E6,-,-⟩:=box7_ HE_w7.out
       obtain ⟨I0,I1,I2,I3,I4,I5,I6,-,-⟩:=box7_ HI_w7.out
       obtain ⟨J0,J1,J2,J3,J4,J5,J6,-,-⟩:=box7_ HJ_w7.out
       have z0 : w7.cell? ⟨g,j * 7,none⟩ = some (.int .i64 y0):=HW_w7.out.o.c.cellAt HRowJ.out (j:=0) (by decide)
       have z1 : w7.cell? ⟨g,j * 7 + 1,none⟩ = some (.int .i64 y1):=HW_w7.out.o.c.cellAt HRowJ.out (j:=1) (by decide)
       have z2 : w7.cell? ⟨g,j * 7 + 2,none⟩ = some (.int .i64 y2):=HW_w7.out.o.c.cellAt HRowJ.out (j:=2) (by decide)
       have z3 : w7.cell? ⟨g,j * 7 + 3,none⟩ = some (.int .i64 y3):=HW_w7.out.o.c.cellAt HRowJ.out (j:=3) (by decide)
       have z4 : w7.cell? ⟨g,j * 7 + 4,none⟩ = some (.int .i64 y4):=HW_w7.out.o.c.cellAt HRowJ.out (j:=4) (by decide)
       have z5 : w7.cell? ⟨g,j * 7 + 5,none⟩ = some (.int .i64 y5):=HW_w7.out.o.c.cellAt HRowJ.out (j:=5) (by decide)
       have z6 : w7.cell? ⟨g,j * 7 + 6,none⟩ = some (.int .i64 y6):=HW_w7.out.o.c.cellAt HRowJ.out (j:=6) (by decide)
       go_simp
       refine hK.out _ _ ⟨a0,a1,a2,a3,a4,a5,a6,E0,E1,E2,E3,E4,E5,E6,I0,I1,I2,I3,I4,I5,I6,z0,z1,z2,z3,z4,z5,z6⟩ (fun hHeld => ?_)
       clear hK K
       refine tk_ ?_
       have cf9:=zxb HJ_w7.out
       refine Sq.step rfl (by rfl) (fun K hK => ?_)
       go_simp
       refine zkd (fun w8 hw => ?_)
       have hg9 : w7.grownBy w8 (some CJ):=by rw [hw];exact zqg (zqg (zqg (zqg (zqg (zqg (zqg (World.grownBy.refl w7 (some CJ)) _ _) _ _) _ _) _ _) _ _) _ _) _ _
       have HW_w8 : Hid (Wk 56 w w8 B X b L 0 (some ⟨g,0,none⟩) A2 A3 A4 p1 p2 p3 p4):=hd_ (HW_w7.out.ownBox HXJ.out HGJ.out HBgeJ.out HJ_w7.out hg9)
       have HE_w8 : Hid (w8.heap[E]? = some (.cells #[.int .i64 e.Kind,.int .i64 e.Key,.int .i64 e.Ch,.int .i64 e.To,.int .i64 e.Amt,.int .i64 e.Fee,.bool e.Yes] 37 (0,0))):=hd_ (zqj hg9 (fun e9 => HNJE.out (Option.some.inj e9)) HE_w7.out)
       have HI_w8 : Hid (w8.heap[CI]? = some (.cells #[.int .i64 x0,.int .i64 x1,.int .i64 x2,.int .i64 x3,.int .i64 x4,.int .i64 x5,.int .i64 x6] 63 (0,0))):=hd_ (zqj hg9 (fun e9 => HNJI.out (Option.some.inj e9)) HI_w7.out)
       have HJ_w8 : Hid (w8.heap[CJ]? = some (.cells #[.int .i64 y0,.int .i64 y1,.int .i64 y2,.int .i64 y3,.int .i64 y4,.int .i64 y5,.int .i64 y6] 63 (0,0))):=hd_ (by rw [hw];exact zqd (zqd (zqd (zqd (zqd (zqd (zqd (HJ_w7.out))))))))
       clear hw hg9 cf9 a0 a1 a2 a3 a4 a5 a6 a7 af az z0 z1 z2 z3 z4 z5 z6 E0 E1 E2 E3 E4 E5 E6 I0 I1 I2 I3 I4 I5 I6 J0 J1 J2 J3 J4 J5 J6
       obtain ⟨a0,a1,a2,a3,a4,a5,a6,a7,af,az⟩:=HW_w8.out.open_
       obtain ⟨E0,E1,E2,E3,E4,E5,E6,-,-⟩:=box7_ HE_w8.out
       obtain ⟨I0,I1,I2,I3,I4,I5,I6,-,-⟩:=box7_ HI_w8.out
       obtain ⟨J0,J1,J2,J3,J4,J5,J6,-,-⟩:=box7_ HJ_w8.out
       have z0 : w8.cell? ⟨g,j * 7,none⟩ = some (.int .i64 y0):=HW_w8.out.o.c.cellAt HRowJ.out (j:=0) (by decide)
       have z1 : w8.cell? ⟨g,j * 7 + 1,none⟩ = some (.int .i64 y1):=HW_w8.out.o.c.cellAt HRowJ.out (j:=1) (by decide)
       have z2 : w8.cell? ⟨g,j * 7 + 2,none⟩ = some (.int .i64 y2):=HW_w8.out.o.c.cellAt HRowJ.out (j:=2) (by decide)
       have z3 : w8.cell? ⟨g,j * 7 + 3,none⟩ = some (.int .i64 y3):=HW_w8.out.o.c.cellAt HRowJ.out (j:=3) (by decide)
       have z4 : w8.cell? ⟨g,j * 7 + 4,none⟩ = some (.int .i64 y4):=HW_w8.out.o.c.cellAt HRowJ.out (j:=4) (by decide)
       have z5 : w8.cell? ⟨g,j * 7 + 5,none⟩ = some (.int .i64 y5):=HW_w8.out.o.c.cellAt HRowJ.out (j:=5) (by decide)
       have z6 : w8.cell? ⟨g,j * 7 + 6,none⟩ = some (.int .i64 y6):=HW_w8.out.o.c.cellAt HRowJ.out (j:=6) (by decide)
       go_simp
       refine hK.out _ _ ⟨a0,a1,a2,a3,a4,a5,a6,E0,E1,E2,E3,E4,E5,E6,I0,I1,I2,I3,I4,I5,I6,z0,z1,z2,z3,z4,z5,z6⟩ (fun hHeld => ?_)
       clear hK K
       refine tk_ ?_
       refine Sq.done (NoPanic.normal ?_)
       exact key CJ w8 ⟨HW_w8,HE_w8,HI_w8,HJ_w8,HXJ,HNJE,HNJI,HGJ⟩
      ·
       refine Sq.step rfl (by rfl) (fun K hK => ?_)
       go_simp
       refine zkd (fun w6 hw => ?_)
       obtain ⟨CJ,hC⟩ : ∃ C,C = w5.heap.size:=⟨_,rfl⟩
       rw [← hC]
       have HW_w6 : Hid (Wk 56 w w6 B X b L 0 (some ⟨g,0,none⟩) A2 A3 A4 p1 p2 p3 p4):=hd_ (by rw [hw];exact HW_w5.out.alloc _)
       have HE_w6 : Hid (w6.heap[E]? = some (.cells #[.int .i64 e.Kind,.int .i64 e.Key,.int .i64 e.Ch,.int .i64 e.To,.int .i64 e.Amt,.int .i64 e.Fee,.bool e.Yes] 37 (0,0))):=hd_ (by rw [hw];exact zqc (gz_ HE_w5.out).1 HE_w5.out)
       have HI_w6 : Hid (w6.heap[CI]? = some (.cells #[.int .i64 x0,.int .i64 x1,.int .i64 x2,.int .i64 x3,.int .i64 x4,.int .i64 x5,.int .i64 x6] 63 (0,0))):=hd_ (by rw [hw];exact zqc (gz_ HI_w5.out).1 HI_w5.out)
       have HJ_w6 : Hid (w6.heap[CJ]? = some (.cells #[.int .i64 0,.int .i64 0,.int .i64 0,.int .i64 0,.int .i64 0,.int .i64 0,.int .i64 0] 63 (0,0))):=hd_ (by rw [hw,hC];exact zqm rfl)
       have HXJ : Hid (CJ ≠ X):=hd_ (by have:=HW_w5.out.lt;omega)
       have HNJE : Hid (E ≠ CJ):=hd_ (by have:=(gz_ HE_w5.out).1;omega)
       have HNJI : Hid (CI ≠ CJ):=hd_ (by have:=(gz_ HI_w5.out).1;omega)
       have HGJ : Hid (g ≠ CJ):=hd_ (by have:=(HW_w5.out.o.c.block g (by simp [Value.ownBlock])).2;omega)
       have HBgeJ : Hid (B ≤ CJ):=hd_ (by rw [hC];exact HW_w5.out.ble)
       clear hw hC a0 a1 a2 a3 a4 a5 a6 a7 af az z0 z1 z2 z3 z4 z5 z6 E0 E1 E2 E3 E4 E5 E6 I0 I1 I2 I3 I4 I5 I6
       obtain ⟨a0,a1,a2,a3,a4,a5,a6,a7,af,az⟩:=HW_w6.out.open_
       obtain ⟨E0,E1,E2,E3,E4,E5,E6,-,-⟩:=box7_ HE_w6.out
       obtain ⟨I0,I1,I2,I3,I4,I5,I6,-,-⟩:=box7_ HI_w6.out
       obtain ⟨J0,J1,J2,J3,J4,J5,J6,-,-⟩:=box7_ HJ_w6.out
       have z0 : w6.cell? ⟨g,j * 7,none⟩ = some (.int .i64 y0):=HW_w6.out.o.c.cellAt HRowJ.out (j:=0) (by decide)
       have z1 : w6.cell? ⟨g,j * 7 + 1,none⟩ = some (.int .i64 y1):=HW_w6.out.o.c.cellAt HRowJ.out (j:=1) (by decide)
       have z2 : w6.cell? ⟨g,j * 7 + 2,none⟩ = some (.int .i64 y2):=HW_w6.out.o.c.cellAt HRowJ.out (j:=2) (by decide)
       have z3 : w6.cell? ⟨g,j * 7 + 3,none⟩ = some (.int .i64 y3):=HW_w6.out.o.c.cellAt HRowJ.out (j:=3) (by decide)
       have z4 : w6.cell? ⟨g,j * 7 + 4,none⟩ = some (.int .i64 y4):=HW_w6.out.o.c.cellAt HRowJ.out (j:=4) (by decide)
       have z5 : w6.cell? ⟨g,j * 7 + 5,none⟩ = some (.int .i64 y5):=HW_w6.out.o.c.cellAt HRowJ.out (j:=5) (by decide)
       have z6 : w6.cell? ⟨g,j * 7 + 6,none⟩ = some (.int .i64 y6):=HW_w6.out.o.c.cellAt HRowJ.out (j:=6) (by decide)
       go_simp
       refine hK.out _ _ ⟨a0,a1,a2,a3,a4,a5,a6,E0,E1,E2,E3,E4,E5,E6,I0,I1,I2,I3,I4,I5,I6,z0,z1,z2,z3,z4,z5,z6⟩ (fun hHeld => ?_)
       clear hK K
       refine tk_ ?_
       refine Sq.step rfl (by rfl) (fun K hK => ?_)
       go_simp
       refine (zva b.t b.n b.w b.cs b.hs b.os _ _ _ _ _ _ e.To _ (by omega) HW_w6.out.o.rd).mono ?_
       rintro e' w7 ⟨rfl,hb⟩
       rw [HIXj.out]
       have HW_w7:=hd_ (HW_w6.out.below hb)
       have HE_w7:=hd_ (zqb hb (gz_ HE_w6.out).1 HE_w6.out)
       have HI_w7:=hd_ (zqb hb (gz_ HI_w6.out).1 HI_w6.out)
       have HJ_w7:=hd_ (zqb hb (gz_ HJ_w6.out).1 HJ_w6.out)
       clear hb
       clear a0 a1 a2 a3 a4 a5 a6 a7 af az z0 z1 z2 z3 z4 z5 z6 E0 E1 E2 E3 E4 E5 E6 I0 I1 I2 I3 I4 I5 I6 J0 J1 J2 J3 J4 J5 J6
       obtain ⟨a0,a1,a2,a3,a4,a5,a6,a7,af,az⟩:=HW_w7.out.open_
       obtain ⟨E0,E1,E2,E3,E4,E5,E6,-,-⟩:=box7_ HE_w7.out
       obtain ⟨I0,I1,I2,I3,I4,I5,I6,-,-⟩:=box7_ HI_w7.out
       obtain ⟨J0,J1,J2,J3,J4,J5,J6,-,-⟩:=box7_ HJ_w7.out
       have z0 : w7.cell? ⟨g,j * 7,none⟩ = some (.int .i64 y0):=HW_w7.out.o.c.cellAt HRowJ.out (j:=0) (by decide)
       have z1 : w7.cell? ⟨g,j * 7 + 1,none⟩ = some (.int .i64 y1):=HW_w7.out.o.c.cellAt HRowJ.out (j:=1) (by decide)
       have z2 : w7.cell? ⟨g,j * 7 + 2,none⟩ = some (.int .i64 y2):=HW_w7.out.o.c.cellAt HRowJ.out (j:=2) (by decide)
       have z3 : w7.cell? ⟨g,j * 7 + 3,none⟩ = some (.int .i64 y3):=HW_w7.out.o.c.cellAt HRowJ.out (j:=3) (by decide)
       have z4 : w7.cell? ⟨g,j * 7 + 4,none⟩ = some (.int .i64 y4):=HW_w7.out.o.c.cellAt HRowJ.out (j:=4) (by decide)
       have z5 : w7.cell? ⟨g,j * 7 + 5,none⟩ = some (.int .i64 y5):=HW_w7.out.o.c.cellAt HRowJ.out (j:=5) (by decide)
       have z6 : w7.cell? ⟨g,j * 7 + 6,none⟩ = some (.int .i64 y6):=HW_w7.out.o.c.cellAt HRowJ.out (j:=6) (by decide)
       go_simp
       refine hK.out _ _ ⟨a0,a1,a2,a3,a4,a5,a6,E0,E1,E2,E3,E4,E5,E6,I0,I1,I2,I3,I4,I5,I6,z0,z1,z2,z3,z4,z5,z6⟩ (fun hHeld => ?_)
       clear hK K
       refine tk_ ?_
       have cf9:=zxb HJ_w7.out
       refine Sq.step rfl (by rfl) (fun K hK => ?_)
       go_simp
       refine zkd (fun w8 hw => ?_)
       have hg9 : w7.grownBy w8 (some CJ):=by rw [hw];exact zqg (zqg (zqg (zqg (zqg (zqg (zqg (World.grownBy.refl w7 (some CJ)) _ _) _ _) _ _) _ _) _ _) _ _) _ _
       have HW_w8 : Hid (Wk 56 w w8 B X b L 0 (some ⟨g,0,none⟩) A2 A3 A4 p1 p2 p3 p4):=hd_ (HW_w7.out.ownBox HXJ.out HGJ.out HBgeJ.out HJ_w7.out hg9)
       have HE_w8 : Hid (w8.heap[E]? = some (.cells #[.int .i64 e.Kind,.int .i64 e.Key,.int .i64 e.Ch,.int .i64 e.To,.int .i64 e.Amt,.int .i64 e.Fee,.bool e.Yes] 37 (0,0))):=hd_ (zqj hg9 (fun e9 => HNJE.out (Option.some.inj e9)) HE_w7.out)
       have HI_w8 : Hid (w8.heap[CI]? = some (.cells #[.int .i64 x0,.int .i64 x1,.int .i64 x2,.int .i64 x3,.int .i64 x4,.int .i64 x5,.int .i64 x6] 63 (0,0))):=hd_ (zqj hg9 (fun e9 => HNJI.out (Option.some.inj e9)) HI_w7.out)
       have HJ_w8 : Hid (w8.heap[CJ]? = some (.cells #[.int .i64 y0,.int .i64 y1,.int .i64 y2,.int .i64 y3,.int .i64 y4,.int .i64 y5,.int .i64 y6] 63 (0,0))):=hd_ (by rw [hw];exact zqd (zqd (zqd (zqd (zqd (zqd (zqd (HJ_w7.out))))))))
       clear hw hg9 cf9 a0 a1 a2 a3 a4 a5 a6 a7 af az z0 z1 z2 z3 z4 z5 z6 E0 E1 E2 E3 E4 E5 E6 I0 I1 I2 I3 I4 I5 I6 J0 J1 J2 J3 J4 J5 J6
       obtain ⟨a0,a1,a2,a3,a4,a5,a6,a7,af,az⟩:=HW_w8.out.open_
       obtain ⟨E0,E1,E2,E3,E4,E5,E6,-,-⟩:=box7_ HE_w8.out
       obtain ⟨I0,I1,I2,I3,I4,I5,I6,-,-⟩:=box7_ HI_w8.out
       obtain ⟨J0,J1,J2,J3,J4,J5,J6,-,-⟩:=box7_ HJ_w8.out
       have z0 : w8.cell? ⟨g,j * 7,none⟩ = some (.int .i64 y0):=HW_w8.out.o.c.cellAt HRowJ.out (j:=0) (by decide)
       have z1 : w8.cell? ⟨g,j * 7 + 1,none⟩ = some (.int .i64 y1):=HW_w8.out.o.c.cellAt HRowJ.out (j:=1) (by decide)
       have z2 : w8.cell? ⟨g,j * 7 + 2,none⟩ = some (.int .i64 y2):=HW_w8.out.o.c.cellAt HRowJ.out (j:=2) (by decide)
       have z3 : w8.cell? ⟨g,j * 7 + 3,none⟩ = some (.int .i64 y3):=HW_w8.out.o.c.cellAt HRowJ.out (j:=3) (by decide)
       have z4 : w8.cell? ⟨g,j * 7 + 4,none⟩ = some (.int .i64 y4):=HW_w8.out.o.c.cellAt HRowJ.out (j:=4) (by decide)
       have z5 : w8.cell? ⟨g,j * 7 + 5,none⟩ = some (.int .i64 y5):=HW_w8.out.o.c.cellAt HRowJ.out (j:=5) (by decide)
       have z6 : w8.cell? ⟨g,j * 7 + 6,none⟩ = some (.int .i64 y6):=HW_w8.out.o.c.cellAt HRowJ.out (j:=6) (by decide)
       go_simp
       refine hK.out _ _ ⟨a0,a1,a2,a3,a4,a5,a6,E0,E1,E2,E3,E4,E5,E6,I0,I1,I2,I3,I4,I5,I6,z0,z1,z2,z3,z4,z5,z6⟩ (fun hHeld => ?_)
       clear hK K
       refine tk_ ?_
       refine Sq.done (NoPanic.normal ?_)
       exact key CJ w8 ⟨HW_w8,HE_w8,HI_w8,HJ_w8,HXJ,HNJE,HNJI,HGJ⟩
     case rest3 =>
      intro CJ v3 hF
      obtain ⟨HW_v3,HE_v3,HI_v3,HJ_v3,HXJ,HNJE,HNJI,HGJ⟩:=hF
      obtain ⟨a0,a1,a2,a3,a4,a5,a6,a7,af,az⟩:=HW_v3.out.open_
      obtain ⟨E0,E1,E2,E3,E4,E5,E6,-,-⟩:=box7_ HE_v3.out
      obtain ⟨I0,I1,I2,I3,I4,I5,I6,-,-⟩:=box7_ HI_v3.out
      obtain ⟨J0,J1,J2,J3,J4,J5,J6,-,-⟩:=box7_ HJ_v3.out
      go_wp2_with fail
      refine (s_FeeUp y4 y5 e.Amt _).mono ?_
      rintro e' wz ⟨rfl,rfl⟩
      have hfa:=amtB_feeV y4 y5 e.Amt
      obtain ⟨fee,hfe⟩ : ∃ f,feeV y4 y5 e.Amt = f:=⟨_,rfl⟩
      rw [hfe] at hfa ⊢
      have HFE:=hd_ hfe
      clear hfe
      obtain ⟨m5,m6⟩:=zkg.1 hfa
      have HFA:=hd_ hfa
      clear hfa
      cases tf : amtB (e.Amt + fee)
      ·
       have HTF:=hd_ tf
       go_wp2_with fail
       refine (zwd _ _ _ (by rw [HTF.out,Bool.and_false])).mono ?_
       rintro e' wz ⟨rfl,rfl⟩
       clear tf
       cases tk : feeOk y4 y5 e.Amt
       ·
        go_wp2_with fail
        refine zqk (fun w' => w'.cell? ⟨X,0,none⟩ = some (.int .i64 b.t)∧w'.cell? ⟨X,1,none⟩ = some (.int .i64 b.n)∧w'.cell? ⟨X,2,none⟩ = some (.int .i64 b.w)∧w'.cell? ⟨X,3,none⟩ = some (.slice (some ⟨g,0,none⟩) b.cs.length p1)∧w'.cell? ⟨X,4,none⟩ = some (.slice A2 b.hs.length p2)∧w'.cell? ⟨X,5,none⟩ = some (.slice A3 b.os.length p3)∧w'.cell? ⟨X,6,none⟩ = some (.slice A4 L.length p4)∧w'.cell? ⟨E,0,none⟩ = some (.int .i64 e.Kind)∧w'.cell? ⟨E,1,none⟩ = some (.int .i64 e.Key)∧w'.cell? ⟨E,2,none⟩ = some (.int .i64 e.Ch)∧w'.cell? ⟨E,3,none⟩ = some (.int .i64 e.To)∧w'.cell? ⟨E,4,none⟩ = some (.int .i64 e.Amt)∧w'.cell? ⟨E,5,none⟩ = some (.int .i64 e.Fee)∧w'.cell? ⟨E,6,none⟩ = some (.bool e.Yes)∧w'.cell? ⟨CI,0,none⟩ = some (.int .i64 x0)∧w'.cell? ⟨CI,1,none⟩ = some (.int .i64 x1)∧w'.cell? ⟨CI,2,none⟩ = some (.int .i64 x2)∧w'.cell? ⟨CI,3,none⟩ = some (.int .i64 x3)∧w'.cell? ⟨CI,4,none⟩ = some (.int .i64 x4)∧w'.cell? ⟨CI,5,none⟩ = some (.int .i64 x5)∧w'.cell? ⟨CI,6,none⟩ = some (.int .i64 x6)∧w'.cell? ⟨CJ,0,none⟩ = some (.int .i64 y0)∧w'.cell? ⟨CJ,1,none⟩ = some (.int .i64 y1)∧w'.cell? ⟨CJ,2,none⟩ = some (.int .i64 y2)∧w'.cell? ⟨CJ,3,none⟩ = some (.int .i64 y3)∧w'.cell? ⟨CJ,4,none⟩ = some (.int .i64 y4)∧w'.cell? ⟨CJ,5,none⟩ = some (.int .i64 y5)∧w'.cell? ⟨CJ,6,none⟩ = some (.int .i64 y6)) [(0,some 91,false,none),(1,some 92,false,none),(2,some 93,false,none),(3,some 94,false,none),(4,some 95,false,none),(5,some 96,false,none),(6,some 97,false,none),(7,some 98,false,none),(8,some 99,false,none),(9,some 100,false,none),(10,some 101,true,none),(11,some 10,false,none)] (by kernel_rfl) (by kernel_rfl) (by kernel_rfl) ⟨a0,a1,a2,a3,a4,a5,a6,E0,E1,E2,E3,E4,E5,E6,I0,I1,I2,I3,I4,I5,I6,J0,J1,J2,J3,J4,J5,J6⟩ (fun hHeld => ?_)
        obtain ⟨w5,hwd⟩ : ∃ wd,v3.drew = wd:=⟨_,rfl⟩
        have HW_w5 : Hid (Wk 56 w w5 B X b L 0 (some ⟨g,0,none⟩) A2 A3 A4 p1 p2 p3 p4):=hd_ (by rw [← hwd];exact HW_v3.out.drew)
        have HE_w5 : Hid (w5.heap[E]? = some (.cells #[.int .i64 e.Kind,.int .i64 e.Key,.int .i64 e.Ch,.int .i64 e.To,.int .i64 e.Amt,.int .i64 e.Fee,.bool e.Yes] 37 (0,0))):=hd_ (by rw [← hwd];exact zqe HE_v3.out)
        have HI_w5 : Hid (w5.heap[CI]? = some (.cells #[.int .i64 x0,.int .i64 x1,.int .i64 x2,.int .i64 x3,.int .i64 x4,.int .i64 x5,.int .i64 x6] 63 (0,0))):=hd_ (by rw [← hwd];exact zqe HI_v3.out)
        have HJ_w5 : Hid (w5.heap[CJ]? = some (.cells #[.int .i64 y0,.int .i64 y1,.int .i64 y2,.int .i64 y3,.int .i64 y4,.int .i64 y5,.int .i64 y6] 63 (0,0))):=hd_ (by rw [← hwd];exact zqe HJ_v3.out)
        clear a0 a1 a2 a3 a4 a5 a6 a7 af az E0 E1 E2 E3 E4 E5 E6 I0 I1 I2 I3 I4 I5 I6 J0 J1 J2 J3 J4 J5 J6
        rw [hwd] at hHeld ⊢
        clear hwd
        obtain ⟨a0,a1,a2,a3,a4,a5,a6,a7,af,az⟩:=HW_w5.out.open_
        obtain ⟨E0,E1,E2,E3,E4,E5,E6,-,-⟩:=box7_ HE_w5.out
        obtain ⟨I0,I1,I2,I3,I4,I5,I6,-,-⟩:=box7_ HI_w5.out
        obtain ⟨J0,J1,J2,J3,J4,J5,J6,-,-⟩:=box7_ HJ_w5.out
        refine tk_ ?_
        refine Sq.step rfl (by rfl) (fun K hK => ?_)
        go_simp
        refine (s_l07Room b.t b.n b.w b.cs b.hs b.os _ _ _ _ _ _ ⟨x0,x1,x2,x3,x4,x5,x6⟩ ⟨y0,y1,y2,y3,y4,y5,y6⟩ e.Amt e.Yes _ HSM.out HW_w5.out.o.rd).mono ?_
        rintro e' w6 ⟨rfl,hb⟩
        obtain ⟨room,hrm⟩ : ∃ r,roomF b.hs ⟨y0,y1,y2,y3,y4,y5,y6⟩ y0 e.Amt x6 e.Yes = r:=⟨_,rfl⟩
        simp only
        rw [hrm]
        have HRM:=hd_ hrm
        clear hrm
        have HW_w6:=hd_ (HW_w5.out.below hb)
        have HE_w6:=hd_ (zqb hb (gz_ HE_w5.out).1 HE_w5.out)
        have HI_w6:=hd_ (zqb hb (gz_ HI_w5.out).1 HI_w5.out)
        have HJ_w6:=hd_ (zqb hb (gz_ HJ_w5.out).1 HJ_w5.out)
        clear hb
        clear a0 a1 a2 a3 a4 a5 a6 a7 af az E0 E1 E2 E3 E4 E5 E6 I0 I1 I2 I3 I4 I5 I6 J0 J1 J2 J3 J4 J5 J6
        obtain ⟨a0,a1,a2,a3,a4,a5,a6,a7,af,az⟩:=HW_w6.out.open_
        obtain ⟨E0,E1,E2,E3,E4,E5,E6,-,-⟩:=box7_ HE_w6.out
        obtain ⟨I0,I1,I2,I3,I4,I5,I6,-,-⟩:=box7_ HI_w6.out
        obtain ⟨J0,J1,J2,J3,J4,J5,J6,-,-⟩:=box7_ HJ_w6.out
        go_simp
        refine hK.out _ _ ⟨a0,a1,a2,a3,a4,a5,a6,E0,E1,E2,E3,E4,E5,E6,I0,I1,I2,I3,I4,I5,I6,J0,J1,J2,J3,J4,J5,J6⟩ (fun hHeld => ?_)
        clear hK K
        refine tk_ ?_
        refine Sq.done (NoPanic.normal ?_)
        go_wp2_with fail
        refine (zxh _ _ B X b L (some ⟨g,0,none⟩) A2 A3 A4 p1 p2 p3 p4 10 (by decide) HW_w6.out).mono ?_
        rintro e' w7 ⟨rfl,hh,ho⟩
        have HW_w7:=hd_ (HW_w6.out.trans hh)
        have HE_w7:=hd_ (ho _ _ HXE.out HE_w6.out)
        have HI_w7:=hd_ (ho _ _ HXI.out HI_w6.out)
        have HJ_w7:=hd_ (ho _ _ HXJ.out HJ_w6.out)
        clear hh ho
        clear a0 a1 a2 a3 a4 a5 a6 a7 af az E0 E1 E2 E3 E4 E5 E6 I0 I1 I2 I3 I4 I5 I6 J0 J1 J2 J3 J4 J5 J6
        obtain ⟨a0,a1,a2,a3,a4,a5,a6,a7,af,az⟩:=HW_w7.out.open_
        obtain ⟨E0,E1,E2,E3,E4,E5,E6,-,-⟩:=box7_ HE_w7.out
        obtain ⟨I0,I1,I2,I3,I4,I5,I6,-,-⟩:=box7_ HI_w7.out
        obtain ⟨J0,J1,J2,J3,J4,J5,J6,-,-⟩:=box7_ HJ_w7.out
        go_wp2_with fail
        go_end0
        rw [HCi.out,HCj.out,admitS_10 H9.out H6.out H14.out (by (try simp only);rw [HFE.out,HTF.out,Bool.and_false])]
        exact Acts.no (by decide) ⟨_,_,_,_,_,_,_,_,rfl,HW_w7.out⟩
       ·
        go_wp2_with fail
        refine zqk (fun w' => w'.cell? ⟨X,0,none⟩ = some (.int .i64 b.t)∧w'.cell? ⟨X,1,none⟩ = some (.int .i64 b.n)∧w'.cell? ⟨X,2,none⟩ = some (.int .i64 b.w)∧w'.cell? ⟨X,3,none⟩ = some (.slice (some ⟨g,0,none⟩) b.cs.length p1)∧w'.cell? ⟨X,4,none⟩ = some (.slice A2 b.hs.length p2)∧w'.cell? ⟨X,5,none⟩ = some (.slice A3 b.os.length p3)∧w'.cell? ⟨X,6,none⟩ = some (.slice A4 L.length p4)∧w'.cell? ⟨E,0,none⟩ = some (.int .i64 e.Kind)∧w'.cell? ⟨E,1,none⟩ = some (.int .i64 e.Key)∧w'.cell? ⟨E,2,none⟩ = some (.int .i64 e.Ch)∧w'.cell? ⟨E,3,none⟩ = some (.int .i64 e.To)∧w'.cell? ⟨E,4,none⟩ = some (.int .i64 e.Amt)∧w'.cell? ⟨E,5,none⟩ = some (.int .i64 e.Fee)∧w'.cell? ⟨E,6,none⟩ = some (.bool e.Yes)∧w'.cell? ⟨CI,0,none⟩ = some (.int .i64 x0)∧w'.cell? ⟨CI,1,none⟩ = some (.int .i64 x1)∧w'.cell? ⟨CI,2,none⟩ = some (.int .i64 x2)∧w'.cell? ⟨CI,3,none⟩ = some (.int .i64 x3)∧w'.cell? ⟨CI,4,none⟩ = some (.int .i64 x4)∧w'.cell? ⟨CI,5,none⟩ = some (.int .i64 x5)∧w'.cell? ⟨CI,6,none⟩ = some (.int .i64 x6)∧w'.cell? ⟨CJ,0,none⟩ = some (.int .i64 y0)∧w'.cell? ⟨CJ,1,none⟩ = some (.int .i64 y1)∧w'.cell? ⟨CJ,2,none⟩ = some (.int .i64 y2)∧w'.cell? ⟨CJ,3,none⟩ = some (.int .i64 y3)∧w'.cell? ⟨CJ,4,none⟩ = some (.int .i64 y4)∧w'.cell? ⟨CJ,5,none⟩ = some (.int .i64 y5)∧w'.cell? ⟨CJ,6,none⟩ = some (.int .i64 y6)) [(0,some 91,false,none),(1,some 92,false,none),(2,some 93,false,none),(3,some 94,false,none),(4,some 95,false,none),(5,some 96,false,none),(6,some 97,false,none),(7,some 98,false,none),(8,some 99,false,none),(9,some 100,false,none),(10,some 101,true,none),(11,some 10,false,none)] (by kernel_rfl) (by kernel_rfl) (by kernel_rfl) ⟨a0,a1,a2,a3,a4,a5,a6,E0,E1,E2,E3,E4,E5,E6,I0,I1,I2,I3,I4,I5,I6,J0,J1,J2,J3,J4,J5,J6⟩ (fun hHeld => ?_)
        obtain ⟨w5,hwd⟩ : ∃ wd,v3.drew = wd:=⟨_,rfl⟩
        have HW_w5 : Hid (Wk 56 w w5 B X b L 0 (some ⟨g,0,none⟩) A2 A3 A4 p1 p2 p3 p4):=hd_ (by rw [← hwd];exact HW_v3.out.drew)
        have HE_w5 : Hid (w5.heap[E]? = some (.cells #[.int .i64 e.Kind,.int .i64 e.Key,.int .i64 e.Ch,.int .i64 e.To,.int .i64 e.Amt,.int .i64 e.Fee,.bool e.Yes] 37 (0,0))):=hd_ (by rw [← hwd];exact zqe HE_v3.out)
        have HI_w5 : Hid (w5.heap[CI]? = some (.cells #[.int .i64 x0,.int .i64 x1,.int .i64 x2,.int .i64 x3,.int .i64 x4,.int .i64 x5,.int .i64 x6] 63 (0,0))):=hd_ (by rw [← hwd];exact zqe HI_v3.out)
        have HJ_w5 : Hid (w5.heap[CJ]? = some (.cells #[.int .i64 y0,.int .i64 y1,.int .i64 y2,.int .i64 y3,.int .i64 y4,.int .i64 y5,.int .i64 y6] 63 (0,0))):=hd_ (by rw [← hwd];exact zqe HJ_v3.out)
        clear a0 a1 a2 a3 a4 a5 a6 a7 af az E0 E1 E2 E3 E4 E5 E6 I0 I1 I2 I3 I4 I5 I6 J0 J1 J2 J3 J4 J5 J6
        rw [hwd] at hHeld ⊢
        clear hwd
        obtain ⟨a0,a1,a2,a3,a4,a5,a6,a7,af,az⟩:=HW_w5.out.open_
        obtain ⟨E0,E1,E2,E3,E4,E5,E6,-,-⟩:=box7_ HE_w5.out
        obtain ⟨I0,I1,I2,I3,I4,I5,I6,-,-⟩:=box7_ HI_w5.out
        obtain ⟨J0,J1,J2,J3,J4,J5,J6,-,-⟩:=box7_ HJ_w5.out
        refine tk_ ?_
        refine Sq.step rfl (by rfl) (fun K hK => ?_)
        go_simp
        refine (s_l07Room b.t b.n b.w b.cs b.hs b.os _ _ _ _ _ _ ⟨x0,x1,x2,x3,x4,x5,x6⟩ ⟨y0,y1,y2,y3,y4,y5,y6⟩ e.Amt e.Yes _ HSM.out HW_w5.out.o.rd).mono ?_
        rintro e' w6 ⟨rfl,hb⟩
        obtain ⟨room,hrm⟩ : ∃ r,roomF b.hs ⟨y0,y1,y2,y3,y4,y5,y6⟩ y0 e.Amt x6 e.Yes = r:=⟨_,rfl⟩
        simp only
        rw [hrm]
        have HRM:=hd_ hrm
        clear hrm
        have HW_w6:=hd_ (HW_w5.out.below hb)
        have HE_w6:=hd_ (zqb hb (gz_ HE_w5.out).1 HE_w5.out)
        have HI_w6:=hd_ (zqb hb (gz_ HI_w5.out).1 HI_w5.out)
        have HJ_w6:=hd_ (zqb hb (gz_ HJ_w5.out).1 HJ_w5.out)
        clear hb
        clear a0 a1 a2 a3 a4 a5 a6 a7 af az E0 E1 E2 E3 E4 E5 E6 I0 I1 I2 I3 I4 I5 I6 J0 J1 J2 J3 J4 J5 J6
        obtain ⟨a0,a1,a2,a3,a4,a5,a6,a7,af,az⟩:=HW_w6.out.open_
        obtain ⟨E0,E1,E2,E3,E4,E5,E6,-,-⟩:=box7_ HE_w6.out
        obtain ⟨I0,I1,I2,I3,I4,I5,I6,-,-⟩:=box7_ HI_w6.out
        obtain ⟨J0,J1,J2,J3,J4,J5,J6,-,-⟩:=box7_ HJ_w6.out
        go_simp
        refine hK.out _ _ ⟨a0,a1,a2,a3,a4,a5,a6,E0,E1,E2,E3,E4,E5,E6,I0,I1,I2,I3,I4,I5,I6,J0,J1,J2,J3,J4,J5,J6⟩ (fun hHeld => ?_)
        clear hK K
        refine tk_ ?_
        refine Sq.done (NoPanic.normal ?_)
        go_wp2_with fail
        refine (zxh _ _ B X b L (some ⟨g,0,none⟩) A2 A3 A4 p1 p2 p3 p4 10 (by decide) HW_w6.out).mono ?_
        rintro e' w7 ⟨rfl,hh,ho⟩
        have HW_w7:=hd_ (HW_w6.out.trans hh)
        have HE_w7:=hd_ (ho _ _ HXE.out HE_w6.out)
        have HI_w7:=hd_ (ho _ _ HXI.out HI_w6.out)
        have HJ_w7:=hd_ (ho _ _ HXJ.out HJ_w6.out)
        clear hh ho
        clear a0 a1 a2 a3 a4 a5 a6 a7 af az E0 E1 E2 E3 E4 E5 E6 I0 I1 I2 I3 I4 I5 I6 J0 J1 J2 J3 J4 J5 J6
        obtain ⟨a0,a1,a2,a3,a4,a5,a6,a7,af,az⟩:=HW_w7.out.open_
        obtain ⟨E0,E1,E2,E3,E4,E5,E6,-,-⟩:=box7_ HE_w7.out
        obtain ⟨I0,I1,I2,I3,I4,I5,I6,-,-⟩:=box7_ HI_w7.out
        obtain ⟨J0,J1,J2,J3,J4,J5,J6,-,-⟩:=box7_ HJ_w7.out
        go_wp2_with fail
        go_end0
        rw [HCi.out,HCj.out,admitS_10 H9.out H6.out H14.out (by (try simp only);rw [HFE.out,HTF.out,Bool.and_false])]
        exact Acts.no (by decide) ⟨_,_,_,_,_,_,_,_,rfl,HW_w7.out⟩
      ·
       have HTF:=hd_ tf
       go_wp2_with fail
       refine (zvm _ _ _ ha HFA.out HTF.out).mono ?_
       rintro e' wz ⟨rfl,rfl⟩
       clear tf
       cases tk : feeOk y4 y5 e.Amt
       ·
        have HTK:=hd_ tk
        go_wp2_with fail
        refine zqk (fun w' => w'.cell? ⟨X,0,none⟩ = some (.int .i64 b.t)∧w'.cell? ⟨X,1,none⟩ = some (.int .i64 b.n)∧w'.cell? ⟨X,2,none⟩ = some (.int .i64 b.w)∧w'.cell? ⟨X,3,none⟩ = some (.slice (some ⟨g,0,none⟩) b.cs.length p1)∧w'.cell? ⟨X,4,none⟩ = some (.slice A2 b.hs.length p2)∧w'.cell? ⟨X,5,none⟩ = some (.slice A3 b.os.length p3)∧w'.cell? ⟨X,6,none⟩ = some (.slice A4 L.length p4)∧w'.cell? ⟨E,0,none⟩ = some (.int .i64 e.Kind)∧w'.cell? ⟨E,1,none⟩ = some (.int .i64 e.Key)∧w'.cell? ⟨E,2,none⟩ = some (.int .i64 e.Ch)∧w'.cell? ⟨E,3,none⟩ = some (.int .i64 e.To)∧w'.cell? ⟨E,4,none⟩ = some (.int .i64 e.Amt)∧w'.cell? ⟨E,5,none⟩ = some (.int .i64 e.Fee)∧w'.cell? ⟨E,6,none⟩ = some (.bool e.Yes)∧w'.cell? ⟨CI,0,none⟩ = some (.int .i64 x0)∧w'.cell? ⟨CI,1,none⟩ = some (.int .i64 x1)∧w'.cell? ⟨CI,2,none⟩ = some (.int .i64 x2)∧w'.cell? ⟨CI,3,none⟩ = some (.int .i64 x3)∧w'.cell? ⟨CI,4,none⟩ = some (.int .i64 x4)∧w'.cell? ⟨CI,5,none⟩ = some (.int .i64 x5)∧w'.cell? ⟨CI,6,none⟩ = some (.int .i64 x6)∧w'.cell? ⟨CJ,0,none⟩ = some (.int .i64 y0)∧w'.cell? ⟨CJ,1,none⟩ = some (.int .i64 y1)∧w'.cell? ⟨CJ,2,none⟩ = some (.int .i64 y2)∧w'.cell? ⟨CJ,3,none⟩ = some (.int .i64 y3)∧w'.cell? ⟨CJ,4,none⟩ = some (.int .i64 y4)∧w'.cell? ⟨CJ,5,none⟩ = some (.int .i64 y5)∧w'.cell? ⟨CJ,6,none⟩ = some (.int .i64 y6)) [(0,some 91,false,none),(1,some 92,false,none),(2,some 93,false,none),(3,some 94,false,none),(4,some 95,false,none),(5,some 96,false,none),(6,some 97,false,none),(7,some 98,false,none),(8,some 99,false,none),(9,some 100,false,none),(10,some 101,true,none),(11,some 10,false,none)] (by kernel_rfl) (by kernel_rfl) (by kernel_rfl) ⟨a0,a1,a2,a3,a4,a5,a6,E0,E1,E2,E3,E4,E5,E6,I0,I1,I2,I3,I4,I5,I6,J0,J1,J2,J3,J4,J5,J6⟩ (fun hHeld => ?_)
        obtain ⟨w5,hwd⟩ : ∃ wd,v3.drew = wd:=⟨_,rfl⟩
        have HW_w5 : Hid (Wk 56 w w5 B X b L 0 (some ⟨g,0,none⟩) A2 A3 A4 p1 p2 p3 p4):=hd_ (by rw [← hwd];exact HW_v3.out.drew)
        have HE_w5 : Hid (w5.heap[E]? = some (.cells #[.int .i64 e.Kind,.int .i64 e.Key,.int .i64 e.Ch,.int .i64 e.To,.int .i64 e.Amt,.int .i64 e.Fee,.bool e.Yes] 37 (0,0))):=hd_ (by rw [← hwd];exact zqe HE_v3.out)
        have HI_w5 : Hid (w5.heap[CI]? = some (.cells #[.int .i64 x0,.int .i64 x1,.int .i64 x2,.int .i64 x3,.int .i64 x4,.int .i64 x5,.int .i64 x6] 63 (0,0))):=hd_ (by rw [← hwd];exact zqe HI_v3.out)
        have HJ_w5 : Hid (w5.heap[CJ]? = some (.cells #[.int .i64 y0,.int .i64 y1,.int .i64 y2,.int .i64 y3,.int .i64 y4,.int .i64 y5,.int .i64 y6] 63 (0,0))):=hd_ (by rw [← hwd];exact zqe HJ_v3.out)
        clear a0 a1 a2 a3 a4 a5 a6 a7 af az E0 E1 E2 E3 E4 E5 E6 I0 I1 I2 I3 I4 I5 I6 J0 J1 J2 J3 J4 J5 J6
        rw [hwd] at hHeld ⊢
        clear hwd
        obtain ⟨a0,a1,a2,a3,a4,a5,a6,a7,af,az⟩:=HW_w5.out.open_
        obtain ⟨E0,E1,E2,E3,E4,E5,E6,-,-⟩:=box7_ HE_w5.out
        obtain ⟨I0,I1,I2,I3,I4,I5,I6,-,-⟩:=box7_ HI_w5.out
        obtain ⟨J0,J1,J2,J3,J4,J5,J6,-,-⟩:=box7_ HJ_w5.out
        refine tk_ ?_
        refine Sq.step rfl (by rfl) (fun K hK => ?_)
        go_simp
        refine (s_l07Room b.t b.n b.w b.cs b.hs b.os _ _ _ _ _ _ ⟨x0,x1,x2,x3,x4,x5,x6⟩ ⟨y0,y1,y2,y3,y4,y5,y6⟩ e.Amt e.Yes _ HSM.out HW_w5.out.o.rd).mono ?_
        rintro e' w6 ⟨rfl,hb⟩
        obtain ⟨room,hrm⟩ : ∃ r,roomF b.hs ⟨y0,y1,y2,y3,y4,y5,y6⟩ y0 e.Amt x6 e.Yes = r:=⟨_,rfl⟩
        simp only
        rw [hrm]
        have HRM:=hd_ hrm
        clear hrm
        have HW_w6:=hd_ (HW_w5.out.below hb)
        have HE_w6:=hd_ (zqb hb (gz_ HE_w5.out).1 HE_w5.out)
        have HI_w6:=hd_ (zqb hb (gz_ HI_w5.out).1 HI_w5.out)
        have HJ_w6:=hd_ (zqb hb (gz_ HJ_w5.out).1 HJ_w5.out)
        clear hb
        clear a0 a1 a2 a3 a4 a5 a6 a7 af az E0 E1 E2 E3 E4 E5 E6 I0 I1 I2 I3 I4 I5 I6 J0 J1 J2 J3 J4 J5 J6
        obtain ⟨a0,a1,a2,a3,a4,a5,a6,a7,af,az⟩:=HW_w6.out.open_
        obtain ⟨E0,E1,E2,E3,E4,E5,E6,-,-⟩:=box7_ HE_w6.out
        obtain ⟨I0,I1,I2,I3,I4,I5,I6,-,-⟩:=box7_ HI_w6.out
        obtain ⟨J0,J1,J2,J3,J4,J5,J6,-,-⟩:=box7_ HJ_w6.out
        go_simp
        refine hK.out _ _ ⟨a0,a1,a2,a3,a4,a5,a6,E0,E1,E2,E3,E4,E5,E6,I0,I1,I2,I3,I4,I5,I6,J0,J1,J2,J3,J4,J5,J6⟩ (fun hHeld => ?_)
        clear hK K
        refine tk_ ?_
        refine Sq.done (NoPanic.normal ?_)
        go_wp2_with fail
        refine (zxh _ _ B X b L (some ⟨g,0,none⟩) A2 A3 A4 p1 p2 p3 p4 10 (by decide) HW_w6.out).mono ?_
        rintro e' w7 ⟨rfl,hh,ho⟩
        have HW_w7:=hd_ (HW_w6.out.trans hh)
        have HE_w7:=hd_ (ho _ _ HXE.out HE_w6.out)
        have HI_w7:=hd_ (ho _ _ HXI.out HI_w6.out)
        have HJ_w7:=hd_ (ho _ _ HXJ.out HJ_w6.out)
        clear hh ho
        clear a0 a1 a2 a3 a4 a5 a6 a7 af az E0 E1 E2 E3 E4 E5 E6 I0 I1 I2 I3 I4 I5 I6 J0 J1 J2 J3 J4 J5 J6
        obtain ⟨a0,a1,a2,a3,a4,a5,a6,a7,af,az⟩:=HW_w7.out.open_
        obtain ⟨E0,E1,E2,E3,E4,E5,E6,-,-⟩:=box7_ HE_w7.out
        obtain ⟨I0,I1,I2,I3,I4,I5,I6,-,-⟩:=box7_ HI_w7.out
        obtain ⟨J0,J1,J2,J3,J4,J5,J6,-,-⟩:=box7_ HJ_w7.out
        go_wp2_with fail
        go_end0
        rw [HCi.out,HCj.out,admitS_10 H9.out H6.out H14.out (by (try simp only);rw [HTK.out,Bool.false_and])]
        exact Acts.no (by decide) ⟨_,_,_,_,_,_,_,_,rfl,HW_w7.out⟩
       ·
        have HTK:=hd_ tk
        have H4 : Hid ((feeOk y4 y5 e.Amt && amtB (e.Amt + feeV y4 y5 e.Amt)) = true):=hd_ (by rw [HTK.out,HFE.out,HTF.out];rfl)
        have hsum:=zkg.1 HTF.out
        obtain ⟨m7,m8⟩:=hsum
        go_wp2_with fail
        refine zqk (fun w' => w'.cell? ⟨X,0,none⟩ = some (.int .i64 b.t)∧w'.cell? ⟨X,1,none⟩ = some (.int .i64 b.n)∧w'.cell? ⟨X,2,none⟩ = some (.int .i64 b.w)∧w'.cell? ⟨X,3,none⟩ = some (.slice (some ⟨g,0,none⟩) b.cs.length p1)∧w'.cell? ⟨X,4,none⟩ = some (.slice A2 b.hs.length p2)∧w'.cell? ⟨X,5,none⟩ = some (.slice A3 b.os.length p3)∧w'.cell? ⟨X,6,none⟩ = some (.slice A4 L.length p4)∧w'.cell? ⟨E,0,none⟩ = some (.int .i64 e.Kind)∧w'.cell? ⟨E,1,none⟩ = some (.int .i64 e.Key)∧w'.cell? ⟨E,2,none⟩ = some (.int .i64 e.Ch)∧w'.cell? ⟨E,3,none⟩ = some (.int .i64 e.To)∧w'.cell? ⟨E,4,none⟩ = some (.int .i64 e.Amt)∧w'.cell? ⟨E,5,none⟩ = some (.int .i64 e.Fee)∧w'.cell? ⟨E,6,none⟩ = some (.bool e.Yes)∧w'.cell? ⟨CI,0,none⟩ = some (.int .i64 x0)∧w'.cell? ⟨CI,1,none⟩ = some (.int .i64 x1)∧w'.cell? ⟨CI,2,none⟩ = some (.int .i64 x2)∧w'.cell? ⟨CI,3,none⟩ = some (.int .i64 x3)∧w'.cell? ⟨CI,4,none⟩ = some (.int .i64 x4)∧w'.cell? ⟨CI,5,none⟩ = some (.int .i64 x5)∧w'.cell? ⟨CI,6,none⟩ = some (.int .i64 x6)∧w'.cell? ⟨CJ,0,none⟩ = some (.int .i64 y0)∧w'.cell? ⟨CJ,1,none⟩ = some (.int .i64 y1)∧w'.cell? ⟨CJ,2,none⟩ = some (.int .i64 y2)∧w'.cell? ⟨CJ,3,none⟩ = some (.int .i64 y3)∧w'.cell? ⟨CJ,4,none⟩ = some (.int .i64 y4)∧w'.cell? ⟨CJ,5,none⟩ = some (.int .i64 y5)∧w'.cell? ⟨CJ,6,none⟩ = some (.int .i64 y6)) [(0,some 91,false,none),(1,some 92,false,none),(2,some 93,false,none),(3,some 94,false,none),(4,some 95,false,none),(5,some 96,false,none),(6,some 97,false,none),(7,some 98,false,none),(8,some 99,false,none),(9,some 100,false,none),(10,some 101,true,none),(11,some 10,false,none)] (by kernel_rfl) (by kernel_rfl) (by kernel_rfl) ⟨a0,a1,a2,a3,a4,a5,a6,E0,E1,E2,E3,E4,E5,E6,I0,I1,I2,I3,I4,I5,I6,J0,J1,J2,J3,J4,J5,J6⟩ (fun hHeld => ?_)
        obtain ⟨w5,hwd⟩ : ∃ wd,v3.drew = wd:=⟨_,rfl⟩
        have HW_w5 : Hid (Wk 56 w w5 B X b L 0 (some ⟨g,0,none⟩) A2 A3 A4 p1 p2 p3 p4):=hd_ (by rw [← hwd];exact HW_v3.out.drew)
        have HE_w5 : Hid (w5.heap[E]? = some (.cells #[.int .i64 e.Kind,.int .i64 e.Key,.int .i64 e.Ch,.int .i64 e.To,.int .i64 e.Amt,.int .i64 e.Fee,.bool e.Yes] 37 (0,0))):=hd_ (by rw [← hwd];exact zqe HE_v3.out)
        have HI_w5 : Hid (w5.heap[CI]? = some (.cells #[.int .i64 x0,.int .i64 x1,.int .i64 x2,.int .i64 x3,.int .i64 x4,.int .i64 x5,.int .i64 x6] 63 (0,0))):=hd_ (by rw [← hwd];exact zqe HI_v3.out)
        have HJ_w5 : Hid (w5.heap[CJ]? = some (.cells #[.int .i64 y0,.int .i64 y1,.int .i64 y2,.int .i64 y3,.int .i64 y4,.int .i64 y5,.int .i64 y6] 63 (0,0))):=hd_ (by rw [← hwd];exact zqe HJ_v3.out)
        clear a0 a1 a2 a3 a4 a5 a6 a7 af az E0 E1 E2 E3 E4 E5 E6 I0 I1 I2 I3 I4 I5 I6 J0 J1 J2 J3 J4 J5 J6
        rw [hwd] at hHeld ⊢
        clear hwd
        obtain ⟨a0,a1,a2,a3,a4,a5,a6,a7,af,az⟩:=HW_w5.out.open_
        obtain ⟨E0,E1,E2,E3,E4,E5,E6,-,-⟩:=box7_ HE_w5.out
        obtain ⟨I0,I1,I2,I3,I4,I5,I6,-,-⟩:=box7_ HI_w5.out
        obtain ⟨J0,J1,J2,J3,J4,J5,J6,-,-⟩:=box7_ HJ_w5.out
        refine tk_ ?_
        refine Sq.step rfl (by rfl) (fun K hK => ?_)
        go_simp
        refine (s_l07Room b.t b.n b.w b.cs b.hs b.os _ _ _ _ _ _ ⟨x0,x1,x2,x3,x4,x5,x6⟩ ⟨y0,y1,y2,y3,y4,y5,y6⟩ e.Amt e.Yes _ HSM.out HW_w5.out.o.rd).mono ?_
        rintro e' w6 ⟨rfl,hb⟩
        obtain ⟨room,hrm⟩ : ∃ r,roomF b.hs ⟨y0,y1,y2,y3,y4,y5,y6⟩ y0 e.Amt x6 e.Yes = r:=⟨_,rfl⟩
        simp only
        rw [hrm]
        have HRM:=hd_ hrm
        clear hrm
        have HW_w6:=hd_ (HW_w5.out.below hb)
        have HE_w6:=hd_ (zqb hb (gz_ HE_w5.out).1 HE_w5.out)
        have HI_w6:=hd_ (zqb hb (gz_ HI_w5.out).1 HI_w5.out)
        have HJ_w6:=hd_ (zqb hb (gz_ HJ_w5.out).1 HJ_w5.out)
        clear hb
        clear a0 a1 a2 a3 a4 a5 a6 a7 af az E0 E1 E2 E3 E4 E5 E6 I0 I1 I2 I3 I4 I5 I6 J0 J1 J2 J3 J4 J5 J6
        obtain ⟨a0,a1,a2,a3,a4,a5,a6,a7,af,az⟩:=HW_w6.out.open_
        obtain ⟨E0,E1,E2,E3,E4,E5,E6,-,-⟩:=box7_ HE_w6.out
        obtain ⟨I0,I1,I2,I3,I4,I5,I6,-,-⟩:=box7_ HI_w6.out
        obtain ⟨J0,J1,J2,J3,J4,J5,J6,-,-⟩:=box7_ HJ_w6.out
        go_simp
        refine hK.out _ _ ⟨a0,a1,a2,a3,a4,a5,a6,E0,E1,E2,E3,E4,E5,E6,I0,I1,I2,I3,I4,I5,I6,J0,J1,J2,J3,J4,J5,J6⟩ (fun hHeld => ?_)
        clear hK K
        refine tk_ ?_
        refine Sq.done (NoPanic.normal ?_)
        go_wp2_with fail
        cases t11 : decide (x3 < e.Amt + fee)
        ·
         have n1:=of_decide_eq_false t11
         have H5 : Hid (e.Amt + feeV y4 y5 e.Amt ≤ x3):=hd_ (by rw [HFE.out];omega)
         cases t12 : decide (y2 < e.Amt)
         ·
          have n2:=of_decide_eq_false t12
          cases t13 : (room == 0)
          ·
           have n3:=beq_eq_false_iff_ne.1 t13
           have HO:=hd_ (admitS_ok (b:=b) (e:=e) (i:=⟨x0,x1,x2,x3,x4,x5,x6⟩) (o:=⟨y0,y1,y2,y3,y4,y5,y6⟩) H9.out H6.out H14.out H4.out H5.out (by simp only;omega) (by simp only;rw [HRM.out];exact n3))
           clear n3
           refine (zqn _ _ B X b L (some ⟨g,0,none⟩) A2 A3 A4 p1 p2 p3 p4 10 HW_w6.out).mono ?_
           rintro e' wz ⟨rfl,rfl⟩
           go_wp2_with fail
           refine (zqn _ _ B X b L (some ⟨g,0,none⟩) A2 A3 A4 p1 p2 p3 p4 11 HW_w6.out).mono ?_
           rintro e' wz ⟨rfl,rfl⟩
           go_wp2_with fail
           refine (zqn _ _ B X b L (some ⟨g,0,none⟩) A2 A3 A4 p1 p2 p3 p4 12 HW_w6.out).mono ?_
           rintro e' wz ⟨rfl,rfl⟩
           go_wp2_with fail
           refine (zqn _ _ B X b L (some ⟨g,0,none⟩) A2 A3 A4 p1 p2 p3 p4 13 HW_w6.out).mono ?_
           rintro e' wz ⟨rfl,rfl⟩
           go_wp2_with fail
           clear t11 t12 t13 tk
           clear a0 a1 a2 a3 a4 a5 a6 a7 af az E0 E1 E2 E3 E4 E5 E6 I0 I1 I2 I3 I4 I5 I6 J0 J1 J2 J3 J4 J5 J6
           obtain ⟨a0,a1,a2,a3,a4,a5,a6,a7,af,az⟩:=HW_w6.out.open_
           obtain ⟨E0,E1,E2,E3,E4,E5,E6,-,-⟩:=box7_ HE_w6.out
           refine zxd (fun w' => w'.cell? ⟨X,0,none⟩ = some (.int .i64 b.t)∧w'.cell? ⟨X,1,none⟩ = some (.int .i64 b.n)∧w'.cell? ⟨X,2,none⟩ = some (.int .i64 b.w)∧w'.cell? ⟨X,3,none⟩ = some (.slice (some ⟨g,0,none⟩) b.cs.length p1)∧w'.cell? ⟨X,4,none⟩ = some (.slice A2 b.hs.length p2)∧w'.cell? ⟨X,5,none⟩ = some (.slice A3 b.os.length p3)∧w'.cell? ⟨X,6,none⟩ = some (.slice A4 L.length p4)∧w'.cell? ⟨E,0,none⟩ = some (.int .i64 e.Kind)∧w'.cell? ⟨E,1,none⟩ = some (.int .i64 e.Key)∧w'.cell? ⟨E,2,none⟩ = some (.int .i64 e.Ch)∧w'.cell? ⟨E,3,none⟩ = some (.int .i64 e.To)∧w'.cell? ⟨E,4,none⟩ = some (.int .i64 e.Amt)∧w'.cell? ⟨E,5,none⟩ = some (.int .i64 e.Fee)∧w'.cell? ⟨E,6,none⟩ = some (.bool e.Yes)) [(0,some 133,false,none),(1,some 134,false,none),(2,some 135,false,none),(3,some 136,false,none),(4,some 137,false,none),(5,some 138,false,none),(6,some 139,false,none),(7,some 140,false,none),(8,some 141,false,none),(9,some 142,false,none),(10,some 143,false,none),(11,some 144,false,none),(12,some 145,false,none),(13,some 146,false,none),(14,some 147,false,none),(15,some 148,false,none),(16,some 149,false,none),(17,some 150,false,none),(18,some 151,true,none),(19,some 152,true,none),(20,some 153,false,none),(21,some 154,false,none),(22,some 155,false,none)] rfl (by kernel_rfl) (by kernel_rfl) (by kernel_rfl) (by kernel_rfl) (by kernel_rfl) (by kernel_rfl) ⟨a0,a1,a2,a3,a4,a5,a6,E0,E1,E2,E3,E4,E5,E6⟩ (fun hHeld => ?_)
           obtain ⟨w7,hwd⟩ : ∃ wd,w6.drew = wd:=⟨_,rfl⟩
           have HW_w7 : Hid (Wk 56 w w7 B X b L 0 (some ⟨g,0,none⟩) A2 A3 A4 p1 p2 p3 p4):=hd_ (by rw [← hwd];exact HW_w6.out.drew)
           have HE_w7 : Hid (w7.heap[E]? = some (.cells #[.int .i64 e.Kind,.int .i64 e.Key,.int .i64 e.Ch,.int .i64 e.To,.int .i64 e.Amt,.int .i64 e.Fee,.bool e.Yes] 37 (0,0))):=hd_ (by rw [← hwd];exact zqe HE_w6.out)
           clear a0 a1 a2 a3 a4 a5 a6 a7 af az E0 E1 E2 E3 E4 E5 E6
           rw [hwd] at hHeld ⊢
           clear hwd
           obtain ⟨a0,a1,a2,a3,a4,a5,a6,a7,af,az⟩:=HW_w7.out.open_
           obtain ⟨E0,E1,E2,E3,E4,E5,E6,-,-⟩:=box7_ HE_w7.out
           refine tk_ ?_
           refine Sq.step rfl (by rfl) (fun K hK => ?_)
           go_simp
           refine zkd (fun w8 hw => ?_)
           have HW_w8 : Hid (Wk 56 w w8 B X b L 0 (some ⟨g,0,none⟩) A2 A3 A4 p1 p2 p3 p4):=hd_ (by rw [hw];exact HW_w7.out.alloc _)
           have HE_w8 : Hid (w8.heap[E]? = some (.cells #[.int .i64 e.Kind,.int .i64 e.Key,.int .i64 e.Ch,.int .i64 e.To,.int .i64 e.Amt,.int .i64 e.Fee,.bool e.Yes] 37 (0,0))):=hd_ (by rw [hw];exact zqc (gz_ HE_w7.out).1 HE_w7.out)
           have HB : Hid (w8.heap[w7.heap.size]? = some (.cells #[.int .i64 e.Key,.int .i64 e.Ch,.int .i64 e.To,.int .i64 (e.Amt + fee),.int .i64 e.Amt,.bool (room == 2),.int .i64 0] 83 (0,0))):=hd_ (by rw [hw];exact zqm rfl)
           clear hw
           clear a0 a1 a2 a3 a4 a5 a6 a7 af az E0 E1 E2 E3 E4 E5 E6
           obtain ⟨a0,a1,a2,a3,a4,a5,a6,a7,af,az⟩:=HW_w8.out.open_
           obtain ⟨E0,E1,E2,E3,E4,E5,E6,-,-⟩:=box7_ HE_w8.out
           go_simp
           refine hK.out _ _ ⟨a0,a1,a2,a3,a4,a5,a6,E0,E1,E2,E3,E4,E5,E6⟩ (fun hHeld => ?_)
           clear hK K
           refine tk_ ?_
           refine Sq.step rfl (by rfl) (fun K hK => ?_)
           refine zvd (ops:=#[]) (E:=True) rfl (zhe rfl _ _ _ rfl B 83 i0 _ 7 56 Try.underlying31 HI0.out HI1.out HI2.out HI3.out rfl (by decide) (.slice A2 b.hs.length p2) _ (by rfl) HW_w8.out.o.h w7.heap.size 1 [.int .i64 e.Key,.int .i64 e.Ch,.int .i64 e.To,.int .i64 (e.Amt + fee),.int .i64 e.Amt,.bool (room == 2),.int .i64 0] 83 (by rfl) HB.out rfl (by simp [Value.oneCell']) (by rw [List.length_map];omega) (by decide) HW_w8.out.ble ?_)
           intro g2 cap2 w9 how2 hgr2 hat2 hlt2
           have HA:=hd_ (HW_w8.out.appH (by decide) (by decide) (by decide) (by decide) (c:=⟨e.Key,e.Ch,e.To,(e.Amt + fee),e.Amt,(room == 2),0⟩) how2 hgr2)
           have HE_w9 : Hid (w9.heap[E]? = some (.cells #[.int .i64 e.Kind,.int .i64 e.Key,.int .i64 e.Ch,.int .i64 e.To,.int .i64 e.Amt,.int .i64 e.Fee,.bool e.Yes] 37 (0,0))):=hd_ (zqj hgr2 (HW_w8.out.o.h.ne_ HE_w8.out (by decide)) HE_w8.out)
           clear how2 hgr2 hat2 HB
           rw [List.length_map]
           clear a0 a1 a2 a3 a4 a5 a6 a7 af az E0 E1 E2 E3 E4 E5 E6
           obtain ⟨_,a0,a1,a2,a3,a4,a5,a6,a7,af,az⟩:=own8 HA.out.1
           obtain ⟨E0,E1,E2,E3,E4,E5,E6,-,-⟩:=box7_ HE_w9.out
           go_simp
           refine hK.out _ _ ⟨a0,a1,a2,a3,a4,a5,a6,E0,E1,E2,E3,E4,E5,E6⟩ (fun hHeld => ?_)
           clear hK K
           refine tk_ ?_
           refine Sq.done ?_
           intro KK hKK
           go_simp
           refine hKK _ _ (NoPanic.normal ?_)
           refine nm_ ?_
           intro w10 hw
           have HW_w10 : Hid (Wk 56 w w10 B X ⟨b.t,b.n,b.w,b.cs,(b.hs ++ [⟨e.Key,e.Ch,e.To,(e.Amt + fee),e.Amt,(room == 2),0⟩]),b.os⟩ L 0 (some ⟨g,0,none⟩) (some ⟨g2,0,none⟩) A3 A4 p1 cap2 p3 p4):=hd_ (by rw [hw];exact HA.out.2)
           have HE_w10 : Hid (w10.heap[E]? = some (.cells #[.int .i64 e.Kind,.int .i64 e.Key,.int .i64 e.Ch,.int .i64 e.To,.int .i64 e.Amt,.int .i64 e.Fee,.bool e.Yes] 37 (0,0))):=hd_ (by rw [hw];exact zqh HXE.out HE_w9.out)
           clear hw
           clear a0 a1 a2 a3 a4 a5 a6 a7 af az E0 E1 E2 E3 E4 E5 E6
           obtain ⟨a0,a1,a2,a3,a4,a5,a6,a7,af,az⟩:=HW_w10.out.open_
           obtain ⟨E0,E1,E2,E3,E4,E5,E6,-,-⟩:=box7_ HE_w10.out
           clear HA
           go_wp2_with fail
           refine (zkn _ _ B X ⟨b.t,b.n,b.w,b.cs,(b.hs ++ [⟨e.Key,e.Ch,e.To,(e.Amt + fee),e.Amt,(room == 2),0⟩]),b.os⟩ L 0 (some ⟨g,0,none⟩) (some ⟨g2,0,none⟩) A3 A4 p1 cap2 p3 p4 e.Ch 0 (-(e.Amt + fee)) (by (try simp only);omega) (Hmi.out) (by have:=HBD.out.at_ Hmi.out;(try simp only);omega) (by omega) (by omega) HW_w10.out).mono ?_
           rintro e' w11 ⟨rfl,hh,ho⟩
           have HE_w11:=hd_ (ho g rfl _ _ (fun e9 => HW_w10.out.o.c.ne_ HE_w10.out (by decide) (by rw [e9];rfl)) HE_w10.out)
           obtain ⟨cs1,hc9⟩ : ∃ v,moveC b.cs e.Ch 0 (-(e.Amt + fee)) = v:=⟨_,rfl⟩
           rw [hc9] at hh
           have Hcs1:=hd_ hc9
           have HW_w11:=hd_ (HW_w10.out.trans hh)
           clear hh ho hc9
           clear a0 a1 a2 a3 a4 a5 a6 a7 af az E0 E1 E2 E3 E4 E5 E6
           obtain ⟨a0,a1,a2,a3,a4,a5,a6,a7,af,az⟩:=HW_w11.out.open_
           obtain ⟨E0,E1,E2,E3,E4,E5,E6,-,-⟩:=box7_ HE_w11.out
           have Hix1 : Hid (∀ ch,chanIx cs1 ch = chanIx b.cs ch):=hd_ (by rw [← Hcs1.out];exact fun ch => zjj _ _ _ _ ch)
           have hl1 : cs1.length = b.cs.length:=by rw [← Hcs1.out];exact zjb _ _ _ _
           have HBD1 : Hid (Bd (1125899906842624 + 2251799813685248) cs1):=hd_ (by rw [← Hcs1.out];exact HBD.out.move _ _ _ (by omega) (by omega))
           have HL1:=hd_ hl1
           clear hl1
           go_wp2_with fail
           refine (zkn _ _ B X ⟨b.t,b.n,b.w,cs1,(b.hs ++ [⟨e.Key,e.Ch,e.To,(e.Amt + fee),e.Amt,(room == 2),0⟩]),b.os⟩ L 0 (some ⟨g,0,none⟩) (some ⟨g2,0,none⟩) A3 A4 p1 cap2 p3 p4 e.To (-e.Amt) 0 (by have:=HL1.out;(try simp only);omega) (by (try simp only);rw [Hix1.out];exact Hmo.out) (by have:=HBD1.out.at_ (ch:=e.To) (by rw [Hix1.out];exact Hmo.out);(try simp only);omega) (by omega) (by omega) HW_w11.out).mono ?_
           rintro e' w12 ⟨rfl,hh,ho⟩
           have HE_w12:=hd_ (ho g rfl _ _ (fun e9 => HW_w11.out.o.c.ne_ HE_w11.out (by decide) (by rw [e9];rfl)) HE_w11.out)
           obtain ⟨cs2,hc9⟩ : ∃ v,moveC cs1 e.To (-e.Amt) 0 = v:=⟨_,rfl⟩
           rw [hc9] at hh
           have Hcs2:=hd_ hc9
           have HW_w12:=hd_ (HW_w11.out.trans hh)
           clear hh ho hc9
           clear a0 a1 a2 a3 a4 a5 a6 a7 af az E0 E1 E2 E3 E4 E5 E6
           obtain ⟨a0,a1,a2,a3,a4,a5,a6,a7,af,az⟩:=HW_w12.out.open_
           obtain ⟨E0,E1,E2,E3,E4,E5,E6,-,-⟩:=box7_ HE_w12.out
           go_wp2_with fail
           refine (zjk _ _ B X ⟨b.t,b.n,b.w,cs2,(b.hs ++ [⟨e.Key,e.Ch,e.To,(e.Amt + fee),e.Amt,(room == 2),0⟩]),b.os⟩ L 0 (some ⟨g,0,none⟩) (some ⟨g2,0,none⟩) A3 A4 p1 cap2 p3 p4 6 e.To (-e.Amt) (by rw [HL.out];decide) HW_w12.out).mono ?_
           rintro e' w13 ⟨⟨Cw130,Cw131,Cw132,Cw133,rw130,rw131,rw132,rw133,rfl,hh⟩,ho⟩
           have HE_w13:=hd_ (ho _ _ HXE.out HE_w12.out)
           obtain ⟨M0,hL9⟩ : ∃ v,lineTo L 6 e.To (-e.Amt) = v:=⟨_,rfl⟩
           rw [hL9] at hh
           have hlM0 : M0.length ≤ L.length + 1:=by rw [← hL9];exact zxe _ _ _ _
           have HM0:=hd_ hL9
           have HW_w13:=hd_ (HW_w12.out.trans hh)
           clear hh ho hL9
           clear a0 a1 a2 a3 a4 a5 a6 a7 af az E0 E1 E2 E3 E4 E5 E6
           obtain ⟨a0,a1,a2,a3,a4,a5,a6,a7,af,az⟩:=HW_w13.out.open_
           obtain ⟨E0,E1,E2,E3,E4,E5,E6,-,-⟩:=box7_ HE_w13.out
           go_wp2_with fail
           refine (zjk _ _ B X ⟨b.t,b.n,b.w,cs2,(b.hs ++ [⟨e.Key,e.Ch,e.To,(e.Amt + fee),e.Amt,(room == 2),0⟩]),b.os⟩ M0 0 Cw130 Cw131 Cw132 Cw133 rw130 rw131 rw132 rw133 8 e.To e.Amt (by rw [HL.out] at hlM0;simp at hlM0;omega) HW_w13.out).mono ?_
           rintro e' w14 ⟨⟨Cw140,Cw141,Cw142,Cw143,rw140,rw141,rw142,rw143,rfl,hh⟩,ho⟩
           have HE_w14:=hd_ (ho _ _ HXE.out HE_w13.out)
           obtain ⟨M1,hL9⟩ : ∃ v,lineTo M0 8 e.To e.Amt = v:=⟨_,rfl⟩
           rw [hL9] at hh
           have hlM1 : M1.length ≤ M0.length + 1:=by rw [← hL9];exact zxe _ _ _ _
           have HM1:=hd_ hL9
           have HW_w14:=hd_ (HW_w13.out.trans hh)
           clear hh ho hL9
           clear a0 a1 a2 a3 a4 a5 a6 a7 af az E0 E1 E2 E3 E4 E5 E6
           obtain ⟨a0,a1,a2,a3,a4,a5,a6,a7,af,az⟩:=HW_w14.out.open_
           obtain ⟨E0,E1,E2,E3,E4,E5,E6,-,-⟩:=box7_ HE_w14.out
           go_wp2_with fail
           go_end0
           rw [HCi.out,HCj.out,HO.out]
           have HZ : nz [⟨6,e.To,(-e.Amt)⟩,⟨8,e.To,e.Amt⟩] = M1:=by rw [← HM1.out,← HM0.out,HL.out];exact (line2 (by decide)).symm
           (try simp only)
           rw [HFE.out,HRM.out,HZ,Hcs1.out,Hcs2.out]
           exact Acts.ok ⟨_,_,_,_,_,_,_,_,rfl,HW_w14.out⟩
          ·
           have n3:=eq_of_beq t13
           have HO:=hd_ (admitS_13 (b:=b) (e:=e) (i:=⟨x0,x1,x2,x3,x4,x5,x6⟩) (o:=⟨y0,y1,y2,y3,y4,y5,y6⟩) H9.out H6.out H14.out H4.out H5.out (by simp only;omega) (by simp only;rw [HRM.out];exact n3))
           clear n3
           refine (zqn _ _ B X b L (some ⟨g,0,none⟩) A2 A3 A4 p1 p2 p3 p4 10 HW_w6.out).mono ?_
           rintro e' wz ⟨rfl,rfl⟩
           go_wp2_with fail
           refine (zqn _ _ B X b L (some ⟨g,0,none⟩) A2 A3 A4 p1 p2 p3 p4 11 HW_w6.out).mono ?_
           rintro e' wz ⟨rfl,rfl⟩
           go_wp2_with fail
           refine (zqn _ _ B X b L (some ⟨g,0,none⟩) A2 A3 A4 p1 p2 p3 p4 12 HW_w6.out).mono ?_
           rintro e' wz ⟨rfl,rfl⟩
           go_wp2_with fail
           refine (zxh _ _ B X b L (some ⟨g,0,none⟩) A2 A3 A4 p1 p2 p3 p4 13 (by decide) HW_w6.out).mono ?_
           rintro e' w7 ⟨rfl,hh,ho⟩
           have HW_w7:=hd_ (HW_w6.out.trans hh)
           have HE_w7:=hd_ (ho _ _ HXE.out HE_w6.out)
           have HI_w7:=hd_ (ho _ _ HXI.out HI_w6.out)
           have HJ_w7:=hd_ (ho _ _ HXJ.out HJ_w6.out)
           clear hh ho
           clear a0 a1 a2 a3 a4 a5 a6 a7 af az E0 E1 E2 E3 E4 E5 E6 I0 I1 I2 I3 I4 I5 I6 J0 J1 J2 J3 J4 J5 J6
           obtain ⟨a0,a1,a2,a3,a4,a5,a6,a7,af,az⟩:=HW_w7.out.open_
           obtain ⟨E0,E1,E2,E3,E4,E5,E6,-,-⟩:=box7_ HE_w7.out
           obtain ⟨I0,I1,I2,I3,I4,I5,I6,-,-⟩:=box7_ HI_w7.out
           obtain ⟨J0,J1,J2,J3,J4,J5,J6,-,-⟩:=box7_ HJ_w7.out
           go_wp2_with fail
           go_end0
           rw [HCi.out,HCj.out,HO.out]
           exact Acts.no (by decide) ⟨_,_,_,_,_,_,_,_,rfl,HW_w7.out⟩
         ·
          have n2:=of_decide_eq_true t12
          have HO:=hd_ (admitS_12 (b:=b) (e:=e) (i:=⟨x0,x1,x2,x3,x4,x5,x6⟩) (o:=⟨y0,y1,y2,y3,y4,y5,y6⟩) H9.out H6.out H14.out H4.out H5.out (by simp only;omega))
          refine (zqn _ _ B X b L (some ⟨g,0,none⟩) A2 A3 A4 p1 p2 p3 p4 10 HW_w6.out).mono ?_
          rintro e' wz ⟨rfl,rfl⟩
          go_wp2_with fail
          refine (zqn _ _ B X b L (some ⟨g,0,none⟩) A2 A3 A4 p1 p2 p3 p4 11 HW_w6.out).mono ?_
          rintro e' wz ⟨rfl,rfl⟩
          go_wp2_with fail
          refine (zxh _ _ B X b L (some ⟨g,0,none⟩) A2 A3 A4 p1 p2 p3 p4 12 (by decide) HW_w6.out).mono ?_
          rintro e' w7 ⟨rfl,hh,ho⟩
          have HW_w7:=hd_ (HW_w6.out.trans hh)
          have HE_w7:=hd_ (ho _ _ HXE.out HE_w6.out)
          have HI_w7:=hd_ (ho _ _ HXI.out HI_w6.out)
          have HJ_w7:=hd_ (ho _ _ HXJ.out HJ_w6.out)
          clear hh ho
          clear a0 a1 a2 a3 a4 a5 a6 a7 af az E0 E1 E2 E3 E4 E5 E6 I0 I1 I2 I3 I4 I5 I6 J0 J1 J2 J3 J4 J5 J6
          obtain ⟨a0,a1,a2,a3,a4,a5,a6,a7,af,az⟩:=HW_w7.out.open_
          obtain ⟨E0,E1,E2,E3,E4,E5,E6,-,-⟩:=box7_ HE_w7.out
          obtain ⟨I0,I1,I2,I3,I4,I5,I6,-,-⟩:=box7_ HI_w7.out
          obtain ⟨J0,J1,J2,J3,J4,J5,J6,-,-⟩:=box7_ HJ_w7.out
          go_wp2_with fail
          go_end0
          rw [HCi.out,HCj.out,HO.out]
          exact Acts.no (by decide) ⟨_,_,_,_,_,_,_,_,rfl,HW_w7.out⟩
        ·
         have n1:=of_decide_eq_true t11
         have HO:=hd_ (admitS_11 (b:=b) (e:=e) (i:=⟨x0,x1,x2,x3,x4,x5,x6⟩) (o:=⟨y0,y1,y2,y3,y4,y5,y6⟩) H9.out H6.out H14.out H4.out (by simp only;rw [HFE.out];omega))
         refine (zqn _ _ B X b L (some ⟨g,0,none⟩) A2 A3 A4 p1 p2 p3 p4 10 HW_w6.out).mono ?_
         rintro e' wz ⟨rfl,rfl⟩
         go_wp2_with fail
         refine (zxh _ _ B X b L (some ⟨g,0,none⟩) A2 A3 A4 p1 p2 p3 p4 11 (by decide) HW_w6.out).mono ?_
         rintro e' w7 ⟨rfl,hh,ho⟩
         have HW_w7:=hd_ (HW_w6.out.trans hh)
         have HE_w7:=hd_ (ho _ _ HXE.out HE_w6.out)
         have HI_w7:=hd_ (ho _ _ HXI.out HI_w6.out)
         have HJ_w7:=hd_ (ho _ _ HXJ.out HJ_w6.out)
         clear hh ho
         clear a0 a1 a2 a3 a4 a5 a6 a7 af az E0 E1 E2 E3 E4 E5 E6 I0 I1 I2 I3 I4 I5 I6 J0 J1 J2 J3 J4 J5 J6
         obtain ⟨a0,a1,a2,a3,a4,a5,a6,a7,af,az⟩:=HW_w7.out.open_
         obtain ⟨E0,E1,E2,E3,E4,E5,E6,-,-⟩:=box7_ HE_w7.out
         obtain ⟨I0,I1,I2,I3,I4,I5,I6,-,-⟩:=box7_ HI_w7.out
         obtain ⟨J0,J1,J2,J3,J4,J5,J6,-,-⟩:=box7_ HJ_w7.out
         go_wp2_with fail
         go_end0
         rw [HCi.out,HCj.out,HO.out]
         exact Acts.no (by decide) ⟨_,_,_,_,_,_,_,_,rfl,HW_w7.out⟩
   ·
    have H14 : Hid (b.hs.length = 60):=hd_ (by have:=eq_of_beq t14;omega)
    refine Sq.step rfl (by rfl) (fun K hK => ?_)
    go_simp
    refine (zke b.t b.n b.w b.cs b.hs b.os _ _ _ _ _ _ e.Ch e.To _ (by omega) HW_w3.out.o.rd).mono ?_
    rintro e' w4 ⟨rfl,hb⟩
    have HW_w4:=hd_ (HW_w3.out.below hb)
    have HE_w4:=hd_ (zqb hb (gz_ HE_w3.out).1 HE_w3.out)
    clear hb
    clear a0 a1 a2 a3 a4 a5 a6 a7 af az E0 E1 E2 E3 E4 E5 E6
    obtain ⟨a0,a1,a2,a3,a4,a5,a6,a7,af,az⟩:=HW_w4.out.open_
    obtain ⟨E0,E1,E2,E3,E4,E5,E6,-,-⟩:=box7_ HE_w4.out
    go_simp
    refine hK.out _ _ ⟨a0,a1,a2,a3,a4,a5,a6,E0,E1,E2,E3,E4,E5,E6⟩ (fun hHeld => ?_)
    clear hK K
    refine tk_ ?_
    refine Sq.step rfl (by rfl) (fun K hK => ?_)
    go_simp
    refine (zqn _ _ B X b L A1 A2 A3 A4 p1 p2 p3 p4 6 HW_w4.out).mono ?_
    rintro e' wz ⟨rfl,rfl⟩
    go_simp
    refine hK.out _ _ ⟨a0,a1,a2,a3,a4,a5,a6,E0,E1,E2,E3,E4,E5,E6⟩ (fun hHeld => ?_)
    clear hK K
    refine tk_ ?_
    refine Sq.step rfl (by rfl) (fun K hK => ?_)
    go_simp
    refine (zxh _ _ B X b L A1 A2 A3 A4 p1 p2 p3 p4 14 (by decide) HW_w4.out).mono ?_
    rintro e' w5 ⟨rfl,hh,ho⟩
    have HW_w5:=hd_ (HW_w4.out.trans hh)
    have HE_w5:=hd_ (ho _ _ HXE.out HE_w4.out)
    clear hh ho
    clear a0 a1 a2 a3 a4 a5 a6 a7 af az E0 E1 E2 E3 E4 E5 E6
    obtain ⟨a0,a1,a2,a3,a4,a5,a6,a7,af,az⟩:=HW_w5.out.open_
    obtain ⟨E0,E1,E2,E3,E4,E5,E6,-,-⟩:=box7_ HE_w5.out
    go_simp
    refine hK.out _ _ ⟨a0,a1,a2,a3,a4,a5,a6,E0,E1,E2,E3,E4,E5,E6⟩ (fun hHeld => ?_)
    clear hK K
    refine tk_ ?_
    refine Sq.done (NoPanic.normal ?_)
    go_wp2_with fail
    go_end0
    rw [admitS_14 H9.out H6.out H14.out]
    exact Acts.no (by decide) ⟨_,_,_,_,_,_,_,_,rfl,HW_w5.out⟩
 ·
  have H9:=hd_ t9
  refine Sq.step rfl (by rfl) (fun K hK => ?_)
  go_simp
  refine (zhd (keysOf b.hs b.os) e.Key KA kcap _ (by omega) HK.out).mono ?_
  rintro e' wz ⟨rfl,rfl⟩
  go_simp
  refine hK.out _ _ ⟨a0,a1,a2,a3,a4,a5,a6,E0,E1,E2,E3,E4,E5,E6⟩ (fun hHeld => ?_)
  clear hK K
  refine tk_ ?_
  refine Sq.step rfl (by rfl) (fun K hK => ?_)
  go_simp
  refine (zxh _ _ B X b L A1 A2 A3 A4 p1 p2 p3 p4 9 (by decide) HW_w3.out).mono ?_
  rintro e' w4 ⟨rfl,hh,ho⟩
  have HW_w4:=hd_ (HW_w3.out.trans hh)
  have HE_w4:=hd_ (ho _ _ HXE.out HE_w3.out)
  clear hh ho
  clear a0 a1 a2 a3 a4 a5 a6 a7 af az E0 E1 E2 E3 E4 E5 E6
  obtain ⟨a0,a1,a2,a3,a4,a5,a6,a7,af,az⟩:=HW_w4.out.open_
  obtain ⟨E0,E1,E2,E3,E4,E5,E6,-,-⟩:=box7_ HE_w4.out
  go_simp
  refine hK.out _ _ ⟨a0,a1,a2,a3,a4,a5,a6,E0,E1,E2,E3,E4,E5,E6⟩ (fun hHeld => ?_)
  clear hK K
  refine tk_ ?_
  refine Sq.done (NoPanic.normal ?_)
  go_wp2_with fail
  go_end0
  rw [admitS_9 H9.out]
  exact Acts.no (by decide) ⟨_,_,_,_,_,_,_,_,rfl,HW_w4.out⟩
end Go.Proofs.Ytdbmkfmenfcbiaa
