/- A payment is sent in a circle: the reference's walk. -/
import Derived.Test.YtdbmkfmenfcbiaaRows
import Derived.Test.YtdbmkfmenfcbiaaQM2
import Derived.Test.YtdbmkfmenfcbiaaQM1
namespace Go.Proofs.Ytdbmkfmenfcbiaa
open Go.RowKit Go.Deep
def launchS (b : Bk) (e : Event) : Out :=
 if hasB (keysOf b.hs b.os) e.Key = true then bad 9
 else if twoB b.cs e.Ch e.To = false then bad 6
 else if b.os.length = 20 then bad 14
 else if amtB (e.Amt + e.Fee) = false then bad 10
 else if (chanOf b.cs e.Ch).Local < e.Amt + e.Fee then bad 12
 else if (chanOf b.cs e.To).Remote < e.Amt then bad 11
 else done ⟨b.t,b.n,b.w,moveC (moveC b.cs e.Ch (-(e.Amt + e.Fee)) 0) e.To 0 (-e.Amt),b.hs,b.os ++ [⟨e.Key,e.Ch,e.To,e.Amt,e.Fee⟩]⟩ (nz [⟨6,e.Ch,-(e.Amt + e.Fee)⟩,⟨8,e.Ch,e.Amt + e.Fee⟩])
theorem launchS_9 {b : Bk} {e : Event} (h : hasB (keysOf b.hs b.os) e.Key = true) : launchS b e = bad 9:=by unfold launchS;rw [if_pos h]
theorem launchS_6 {b : Bk} {e : Event} (h : hasB (keysOf b.hs b.os) e.Key = false) (h2 : twoB b.cs e.Ch e.To = false) : launchS b e = bad 6:=by unfold launchS;rw [if_neg (by rw [h];decide),if_pos h2]
theorem launchS_14 {b : Bk} {e : Event} (h : hasB (keysOf b.hs b.os) e.Key = false) (h2 : twoB b.cs e.Ch e.To = true) (h3 : b.os.length = 20) : launchS b e = bad 14:=by unfold launchS;rw [if_neg (by rw [h];decide),if_neg (by rw [h2];decide),if_pos h3]
theorem launchS_10 {b : Bk} {e : Event} (h : hasB (keysOf b.hs b.os) e.Key = false) (h2 : twoB b.cs e.Ch e.To = true) (h3 : b.os.length ≠ 20) (h4 : amtB (e.Amt + e.Fee) = false) : launchS b e = bad 10:=by unfold launchS;rw [if_neg (by rw [h];decide),if_neg (by rw [h2];decide),if_neg h3,if_pos h4]
theorem launchS_12 {b : Bk} {e : Event} {c : Chan} (h : hasB (keysOf b.hs b.os) e.Key = false) (h2 : twoB b.cs e.Ch e.To = true) (h3 : b.os.length ≠ 20) (h4 : amtB (e.Amt + e.Fee) = true) (hc : chanOf b.cs e.Ch = c) (h5 : c.Local < e.Amt + e.Fee) : launchS b e = bad 12:=by
 subst hc;unfold launchS;rw [if_neg (by rw [h];decide),if_neg (by rw [h2];decide),if_neg h3,if_neg (by rw [h4];decide),if_pos h5]
theorem launchS_11 {b : Bk} {e : Event} {c d : Chan} (h : hasB (keysOf b.hs b.os) e.Key = false) (h2 : twoB b.cs e.Ch e.To = true) (h3 : b.os.length ≠ 20) (h4 : amtB (e.Amt + e.Fee) = true) (hc : chanOf b.cs e.Ch = c) (h5 : e.Amt + e.Fee ≤ c.Local) (hd : chanOf b.cs e.To = d) (h6 : d.Remote < e.Amt) : launchS b e = bad 11:=by
 subst hc;subst hd;unfold launchS;rw [if_neg (by rw [h];decide),if_neg (by rw [h2];decide),if_neg h3,if_neg (by rw [h4];decide),if_neg (by omega),if_pos h6]
theorem launchS_ok {b : Bk} {e : Event} {c d : Chan} (h : hasB (keysOf b.hs b.os) e.Key = false) (h2 : twoB b.cs e.Ch e.To = true) (h3 : b.os.length ≠ 20) (h4 : amtB (e.Amt + e.Fee) = true) (hc : chanOf b.cs e.Ch = c) (h5 : e.Amt + e.Fee ≤ c.Local) (hd : chanOf b.cs e.To = d) (h6 : e.Amt ≤ d.Remote) :
  launchS b e = done ⟨b.t,b.n,b.w,moveC (moveC b.cs e.Ch (-(e.Amt + e.Fee)) 0) e.To 0 (-e.Amt),b.hs,b.os ++ [⟨e.Key,e.Ch,e.To,e.Amt,e.Fee⟩]⟩ (nz [⟨6,e.Ch,-(e.Amt + e.Fee)⟩,⟨8,e.Ch,e.Amt + e.Fee⟩]):=by
 subst hc;subst hd;unfold launchS;rw [if_neg (by rw [h];decide),if_neg (by rw [h2];decide),if_neg h3,if_neg (by rw [h4];decide),if_neg (by omega),if_neg (by omega)]
theorem twoB_ix {cs : List Chan} {x y : Int} (h : twoB cs x y = true) : 0 ≤ chanIx cs x∧0 ≤ chanIx cs y:=by
 simp only [twoB,Bool.and_eq_true,decide_eq_true_eq] at h
 exact ⟨h.1.2,h.2⟩
set_option maxRecDepth 100000 in
set_option maxHeartbeats 8000000 in
theorem s_l07Launch (w0 w : World) (B X : Nat) (b : Bk) (A1 A2 A3 A4 : Option Addr) (p1 p2 p3 p4 : Nat) (e : Event) (hF : BookFacts b.t b.n b.w b.cs b.hs b.os) (ha : amtB e.Amt = true) (hf : amtB e.Fee = true) (h : Wk 56 w0 w B X b [] 0 A1 A2 A3 A4 p1 p2 p3 p4) :
  Calls Try.prog 28 #[.pointer (some ⟨X,0,none⟩),.agg #[.int .i64 e.Kind,.int .i64 e.Key,.int .i64 e.Ch,.int .i64 e.To,.int .i64 e.Amt,.int .i64 e.Fee,.bool e.Yes]] w (Acts 56 w B X (launchS b e)):=by
 have H:=hd_ h.here
 clear h
 obtain ⟨L,hL⟩ : ∃ L : List Line,L = []:=⟨_,rfl⟩
 rw [← hL] at H
 have HL:=hd_ hL
 clear hL
 obtain ⟨E,hE⟩ : ∃ E,E = w.heap.size:=⟨_,rfl⟩
 obtain ⟨⟨m1,m2⟩,m3,m4⟩:=And.intro (zkg.1 ha) (zkg.1 hf)
 have hcl:=hF.cl
 have h60:=hF.small.hl
 have h20:=hF.small.ol
 have HBD:=hd_ (zkj hF)
 have hkl : (keysOf b.hs b.os).length ≤ 80:=by unfold keysOf;rw [List.length_append,List.length_map,List.length_map];omega
 clear hF
 obtain ⟨i0,hi,hz0,hz1,hz2⟩:=info_parts zvc
 have HI0:=hd_ hi
 have HI1:=hd_ hz0
 have HI2:=hd_ hz1
 have HI3:=hd_ hz2
 clear hi hz0 hz1 hz2
 go_enter Try.func28,Try.ntmps28
 go_wp2_with fail
 rw [← hE]
 refine nm_ ?_
 intro w1 hw
 have HW_w1 : Hid (Wk 56 w w1 B X b L 0 A1 A2 A3 A4 p1 p2 p3 p4):=hd_ (by rw [hw];exact H.out.alloc _)
 have HE_w1 : Hid (w1.heap[E]? = some (.cells #[.int .i64 e.Kind,.int .i64 e.Key,.int .i64 e.Ch,.int .i64 e.To,.int .i64 e.Amt,.int .i64 e.Fee,.bool e.Yes] 37 (0,0))):=hd_ (by rw [hw];exact (hE ▸ zqm rfl))
 clear hw
 obtain ⟨a0,a1,a2,a3,a4,a5,a6,a7,af,az⟩:=HW_w1.out.open_
 obtain ⟨E0,E1,E2,E3,E4,E5,E6,-,-⟩:=box7_ HE_w1.out
 have hEB : Hid (w.heap.size ≤ E):=hd_ (by omega)
 have HXE : Hid (E ≠ X):=hd_ (by have:=H.out.lt;omega)
 clear hE
 refine zqk (fun w' => w'.cell? ⟨X,0,none⟩ = some (.int .i64 b.t)∧w'.cell? ⟨X,1,none⟩ = some (.int .i64 b.n)∧w'.cell? ⟨X,2,none⟩ = some (.int .i64 b.w)∧w'.cell? ⟨X,3,none⟩ = some (.slice A1 b.cs.length p1)∧w'.cell? ⟨X,4,none⟩ = some (.slice A2 b.hs.length p2)∧w'.cell? ⟨X,5,none⟩ = some (.slice A3 b.os.length p3)∧w'.cell? ⟨X,6,none⟩ = some (.slice A4 L.length p4)∧w'.cell? ⟨E,0,none⟩ = some (.int .i64 e.Kind)∧w'.cell? ⟨E,1,none⟩ = some (.int .i64 e.Key)∧w'.cell? ⟨E,2,none⟩ = some (.int .i64 e.Ch)∧w'.cell? ⟨E,3,none⟩ = some (.int .i64 e.To)∧w'.cell? ⟨E,4,none⟩ = some (.int .i64 e.Amt)∧w'.cell? ⟨E,5,none⟩ = some (.int .i64 e.Fee)∧w'.cell? ⟨E,6,none⟩ = some (.bool e.Yes)) [(0,some 6,false,none),(1,some 7,false,none),(2,some 8,false,none),(3,some 9,false,none),(4,some 10,false,none),(6,some 12,false,none),(7,some 13,false,none),(5,some 11,true,none),(8,some 14,true,none),(9,some 15,true,none),(10,some 16,false,none),(11,some 17,false,some (16,false)),(12,some 18,false,some (16,false)),(13,some 19,false,some (16,false)),(14,some 20,false,some (16,false)),(15,some 21,false,some (16,false)),(16,some 22,false,some (16,false)),(17,some 23,false,some (16,false)),(18,some 24,false,some (16,false)),(19,some 25,false,some (16,false)),(20,some 26,true,some (16,false)),(21,some 27,false,some (16,false)),(22,some 28,true,some (16,false)),(23,some 29,false,none),(24,some 30,false,none),(25,some 31,false,some (30,false)),(26,some 32,false,some (30,false)),(27,some 33,false,some (30,false)),(28,some 34,false,some (30,false)),(29,some 35,false,some (30,false)),(30,some 36,false,some (30,false)),(31,some 37,false,some (30,false)),(32,some 38,false,some (30,false)),(33,some 39,true,some (30,false)),(34,some 40,false,none)] (by kernel_rfl) (by kernel_rfl) (by kernel_rfl) ⟨a0,a1,a2,a3,a4,a5,a6,E0,E1,E2,E3,E4,E5,E6⟩ (fun hHeld => ?_)
 obtain ⟨w2,hwd⟩ : ∃ wd,w1.drew = wd:=⟨_,rfl⟩
 have HW_w2 : Hid (Wk 56 w w2 B X b L 0 A1 A2 A3 A4 p1 p2 p3 p4):=hd_ (by rw [← hwd];exact HW_w1.out.drew)
 have HE_w2 : Hid (w2.heap[E]? = some (.cells #[.int .i64 e.Kind,.int .i64 e.Key,.int .i64 e.Ch,.int .i64 e.To,.int .i64 e.Amt,.int .i64 e.Fee,.bool e.Yes] 37 (0,0))):=hd_ (by rw [← hwd];exact zqe HE_w1.out)
 clear a0 a1 a2 a3 a4 a5 a6 a7 af az E0 E1 E2 E3 E4 E5 E6
 rw [hwd] at hHeld ⊢
 clear hwd
 obtain ⟨a0,a1,a2,a3,a4,a5,a6,a7,af,az⟩:=HW_w2.out.open_
 obtain ⟨E0,E1,E2,E3,E4,E5,E6,-,-⟩:=box7_ HE_w2.out
 refine tk_ ?_
 refine Sq.step rfl (by rfl) (fun K hK => ?_)
 go_simp
 refine (s_l07Keys b.t b.n b.w b.cs b.hs b.os _ _ _ _ _ _ _ h60 h20 HW_w2.out.o.rd).mono ?_
 rintro e' w3 ⟨KA,kcap,rfl,how,hb⟩
 have HK:=hd_ how.rd
 clear how
 have HW_w3:=hd_ (HW_w2.out.below hb)
 have HE_w3:=hd_ (zqb hb (gz_ HE_w2.out).1 HE_w2.out)
 clear hb
 clear a0 a1 a2 a3 a4 a5 a6 a7 af az E0 E1 E2 E3 E4 E5 E6
 obtain ⟨a0,a1,a2,a3,a4,a5,a6,a7,af,az⟩:=HW_w3.out.open_
 obtain ⟨E0,E1,E2,E3,E4,E5,E6,-,-⟩:=box7_ HE_w3.out
 go_simp
 refine hK.out _ _ ⟨a0,a1,a2,a3,a4,a5,a6,E0,E1,E2,E3,E4,E5,E6⟩ (fun hHeld => ?_)
 clear hK K
 refine tk_ ?_
 cases t9 : hasB (keysOf b.hs b.os) e.Key
 ·
  have H9:=hd_ t9
  refine Sq.step rfl (by rfl) (fun K hK => ?_)
  go_simp
  refine (zhd (keysOf b.hs b.os) e.Key KA kcap _ (by omega) HK.out).mono ?_
  rintro e' wz ⟨rfl,rfl⟩
  go_simp
  refine hK.out _ _ ⟨a0,a1,a2,a3,a4,a5,a6,E0,E1,E2,E3,E4,E5,E6⟩ (fun hHeld => ?_)
  clear hK K
  refine tk_ ?_
  refine Sq.step rfl (by rfl) (fun K hK => ?_)
  go_simp
  refine (zqn _ _ B X b L A1 A2 A3 A4 p1 p2 p3 p4 9 HW_w3.out).mono ?_
  rintro e' wz ⟨rfl,rfl⟩
  go_simp
  refine hK.out _ _ ⟨a0,a1,a2,a3,a4,a5,a6,E0,E1,E2,E3,E4,E5,E6⟩ (fun hHeld => ?_)
  clear hK K
  refine tk_ ?_
  clear HK
  cases t6 : twoB b.cs e.Ch e.To
  ·
   have H6:=hd_ t6
   refine Sq.step rfl (by rfl) (fun K hK => ?_)
   go_simp
   refine (zke b.t b.n b.w b.cs b.hs b.os _ _ _ _ _ _ e.Ch e.To _ (by omega) HW_w3.out.o.rd).mono ?_
   rintro e' w4 ⟨rfl,hb⟩
   have HW_w4:=hd_ (HW_w3.out.below hb)
   have HE_w4:=hd_ (zqb hb (gz_ HE_w3.out).1 HE_w3.out)
   clear hb
   clear a0 a1 a2 a3 a4 a5 a6 a7 af az E0 E1 E2 E3 E4 E5 E6
   obtain ⟨a0,a1,a2,a3,a4,a5,a6,a7,af,az⟩:=HW_w4.out.open_
   obtain ⟨E0,E1,E2,E3,E4,E5,E6,-,-⟩:=box7_ HE_w4.out
   go_simp
   refine hK.out _ _ ⟨a0,a1,a2,a3,a4,a5,a6,E0,E1,E2,E3,E4,E5,E6⟩ (fun hHeld => ?_)
   clear hK K
   refine tk_ ?_
   refine Sq.step rfl (by rfl) (fun K hK => ?_)
   go_simp
   refine (zxh _ _ B X b L A1 A2 A3 A4 p1 p2 p3 p4 6 (by decide) HW_w4.out).mono ?_
   rintro e' w5 ⟨rfl,hh,ho⟩
   have HW_w5:=hd_ (HW_w4.out.trans hh)
   have HE_w5:=hd_ (ho _ _ HXE.out HE_w4.out)
   clear hh ho
   clear a0 a1 a2 a3 a4 a5 a6 a7 af az E0 E1 E2 E3 E4 E5 E6
   obtain ⟨a0,a1,a2,a3,a4,a5,a6,a7,af,az⟩:=HW_w5.out.open_
   obtain ⟨E0,E1,E2,E3,E4,E5,E6,-,-⟩:=box7_ HE_w5.out
   go_simp
   refine hK.out _ _ ⟨a0,a1,a2,a3,a4,a5,a6,E0,E1,E2,E3,E4,E5,E6⟩ (fun hHeld => ?_)
   clear hK K
   refine tk_ ?_
   refine Sq.done (NoPanic.normal ?_)
   go_wp2_with fail
   go_end0
   rw [launchS_6 H9.out H6.out]
   exact Acts.no (by decide) ⟨_,_,_,_,_,_,_,_,rfl,HW_w5.out⟩
  ·
   have H6:=hd_ t6
   obtain ⟨mi,mo⟩:=twoB_ix t6
   have Hmi:=hd_ mi
   have Hmo:=hd_ mo
   clear mi mo
   cases t14 : ((b.os.length : Int) == 20)
   ·
    have H14 : Hid (b.os.length ≠ 20):=hd_ (by have:=beq_eq_false_iff_ne.1 t14;omega)
    refine Sq.step rfl (by rfl) (fun K hK => ?_)
    go_simp
    refine (zke b.t b.n b.w b.cs b.hs b.os _ _ _ _ _ _ e.Ch e.To _ (by omega) HW_w3.out.o.rd).mono ?_
    rintro e' w4 ⟨rfl,hb⟩
    have HW_w4:=hd_ (HW_w3.out.below hb)
    have HE_w4:=hd_ (zqb hb (gz_ HE_w3.out).1 HE_w3.out)
    clear hb
    clear a0 a1 a2 a3 a4 a5 a6 a7 af az E0 E1 E2 E3 E4 E5 E6
    obtain ⟨a0,a1,a2,a3,a4,a5,a6,a7,af,az⟩:=HW_w4.out.open_
    obtain ⟨E0,E1,E2,E3,E4,E5,E6,-,-⟩:=box7_ HE_w4.out
    go_simp
    refine hK.out _ _ ⟨a0,a1,a2,a3,a4,a5,a6,E0,E1,E2,E3,E4,E5,E6⟩ (fun hHeld => ?_)
    clear hK K
    refine tk_ ?_
    refine Sq.step rfl (by rfl) (fun K hK => ?_)
    go_simp
    refine (zqn _ _ B X b L A1 A2 A3 A4 p1 p2 p3 p4 6 HW_w4.out).mono ?_
    rintro e' wz ⟨rfl,rfl⟩
    go_simp
    refine hK.out _ _ ⟨a0,a1,a2,a3,a4,a5,a6,E0,E1,E2,E3,E4,E5,E6⟩ (fun hHeld => ?_)
    clear hK K
    refine tk_ ?_
    refine Sq.step rfl (by rfl) (fun K hK => ?_)
    go_simp
    refine (zqn _ _ B X b L A1 A2 A3 A4 p1 p2 p3 p4 14 HW_w4.out).mono ?_
    rintro e' wz ⟨rfl,rfl⟩
    go_simp
    refine hK.out _ _ ⟨a0,a1,a2,a3,a4,a5,a6,E0,E1,E2,E3,E4,E5,E6⟩ (fun hHeld => ?_)
    clear hK K
    refine tk_ ?_
    refine Sq.done (NoPanic.normal ?_)
    clear t9 t6 t14
    cases ts : amtB (e.Amt + e.Fee)
    ·
     have HS:=hd_ ts
     go_wp2_with fail
     refine (zwd _ _ _ (by rw [ha,hf,HS.out];rfl)).mono ?_
     rintro e' wz ⟨rfl,rfl⟩
     go_wp2_with fail
     refine zqk (fun w' => w'.cell? ⟨X,0,none⟩ = some (.int .i64 b.t)∧w'.cell? ⟨X,1,none⟩ = some (.int .i64 b.n)∧w'.cell? ⟨X,2,none⟩ = some (.int .i64 b.w)∧w'.cell? ⟨X,3,none⟩ = some (.slice A1 b.cs.length p1)∧w'.cell? ⟨X,4,none⟩ = some (.slice A2 b.hs.length p2)∧w'.cell? ⟨X,5,none⟩ = some (.slice A3 b.os.length p3)∧w'.cell? ⟨X,6,none⟩ = some (.slice A4 L.length p4)∧w'.cell? ⟨E,0,none⟩ = some (.int .i64 e.Kind)∧w'.cell? ⟨E,1,none⟩ = some (.int .i64 e.Key)∧w'.cell? ⟨E,2,none⟩ = some (.int .i64 e.Ch)∧w'.cell? ⟨E,3,none⟩ = some (.int .i64 e.To)∧w'.cell? ⟨E,4,none⟩ = some (.int .i64 e.Amt)∧w'.cell? ⟨E,5,none⟩ = some (.int .i64 e.Fee)∧w'.cell? ⟨E,6,none⟩ = some (.bool e.Yes)) [(0,some 49,false,none),(1,some 50,false,none),(2,some 51,false,none),(3,some 52,true,none),(4,some 53,false,none),(5,some 54,false,some (53,false)),(6,some 55,false,some (53,false)),(7,some 56,false,some (53,false)),(8,some 57,false,some (53,false)),(9,some 58,false,some (53,false)),(10,some 59,false,some (53,false)),(11,some 60,false,some (53,false)),(12,some 61,false,some (53,false)),(13,some 62,false,some (53,false)),(14,some 63,false,some (53,false)),(15,some 64,false,some (53,false)),(16,some 65,false,some (53,false)),(21,some 70,false,some (53,false)),(17,some 66,true,some (53,false)),(18,some 67,false,some (53,false)),(19,some 68,false,some (53,false)),(20,some 69,false,some (53,false)),(22,some 71,false,some (53,false)),(23,some 72,true,some (53,false)),(24,some 73,false,none),(25,some 74,false,none),(26,some 75,false,some (74,false)),(27,some 76,false,some (74,false)),(28,some 77,false,some (74,false)),(29,some 78,false,some (74,false)),(30,some 79,false,some (74,false)),(31,some 80,false,some (74,false)),(32,some 81,false,some (74,false)),(33,some 82,false,some (74,false)),(34,some 83,false,some (74,false)),(35,some 84,false,some (74,false)),(36,some 85,false,some (74,false)),(37,some 86,false,some (74,false)),(42,some 91,false,some (74,false)),(43,some 92,false,some (74,false)),(38,some 87,true,some (74,false)),(39,some 88,false,some (74,false)),(40,some 89,false,some (74,false)),(41,some 90,false,some (74,false)),(44,some 93,false,some (74,false)),(45,some 94,true,some (74,false)),(46,some 95,false,none)] (by kernel_rfl) (by kernel_rfl) (by kernel_rfl) ⟨a0,a1,a2,a3,a4,a5,a6,E0,E1,E2,E3,E4,E5,E6⟩ (fun hHeld => ?_)
     obtain ⟨w5,hwd⟩ : ∃ wd,w4.drew = wd:=⟨_,rfl⟩
     have HW_w5 : Hid (Wk 56 w w5 B X b L 0 A1 A2 A3 A4 p1 p2 p3 p4):=hd_ (by rw [← hwd];exact HW_w4.out.drew)
     have HE_w5 : Hid (w5.heap[E]? = some (.cells #[.int .i64 e.Kind,.int .i64 e.Key,.int .i64 e.Ch,.int .i64 e.To,.int .i64 e.Amt,.int .i64 e.Fee,.bool e.Yes] 37 (0,0))):=hd_ (by rw [← hwd];exact zqe HE_w4.out)
     clear a0 a1 a2 a3 a4 a5 a6 a7 af az E0 E1 E2 E3 E4 E5 E6
     rw [hwd] at hHeld ⊢
     clear hwd
     obtain ⟨a0,a1,a2,a3,a4,a5,a6,a7,af,az⟩:=HW_w5.out.open_
     obtain ⟨E0,E1,E2,E3,E4,E5,E6,-,-⟩:=box7_ HE_w5.out
     refine tk_ ?_
     refine Sq.step rfl (by rfl) (fun K hK => ?_)
     go_simp
     refine (zxh _ _ B X b L A1 A2 A3 A4 p1 p2 p3 p4 10 (by decide) HW_w5.out).mono ?_
     rintro e' w6 ⟨rfl,hh,ho⟩
     have HW_w6:=hd_ (HW_w5.out.trans hh)
     have HE_w6:=hd_ (ho _ _ HXE.out HE_w5.out)
     clear hh ho
     clear a0 a1 a2 a3 a4 a5 a6 a7 af az E0 E1 E2 E3 E4 E5 E6
     obtain ⟨a0,a1,a2,a3,a4,a5,a6,a7,af,az⟩:=HW_w6.out.open_
     obtain ⟨E0,E1,E2,E3,E4,E5,E6,-,-⟩:=box7_ HE_w6.out
     go_simp
     refine hK.out _ _ ⟨a0,a1,a2,a3,a4,a5,a6,E0,E1,E2,E3,E4,E5,E6⟩ (fun hHeld => ?_)
     clear hK K
     refine tk_ ?_
     refine Sq.done (NoPanic.normal ?_)
     go_wp2_with fail
     go_end0
     rw [launchS_10 H9.out H6.out H14.out HS.out]
     exact Acts.no (by decide) ⟨_,_,_,_,_,_,_,_,rfl,HW_w6.out⟩
    ·
     have HS:=hd_ ts
     obtain ⟨m5,m6⟩:=zkg.1 ts
     go_wp2_with fail
     refine (zvm _ _ _ ha hf HS.out).mono ?_
     rintro e' wz ⟨rfl,rfl⟩
     clear ts
     obtain ⟨i,hi⟩:=Int.eq_ofNat_of_zero_le Hmi.out
     have hlti:=zjh hi
     obtain ⟨c,hc⟩ : ∃ c,chanOf b.cs e.Ch = c:=⟨_,rfl⟩
     have hci : b.cs[i] = c:=by rw [← hc];unfold chanOf;rw [hi,Int.toNat_natCast,List.getD_eq_getElem?_getD,List.getElem?_eq_getElem hlti];rfl
     have hr : (b.cs.map Chan.cells)[i]? = some c.cells:=by rw [List.getElem?_map,List.getElem?_eq_getElem hlti,hci];rfl
     obtain ⟨x0,x1,x2,x3,x4,x5,x6⟩:=c
     have HCi:=hd_ hc
     have HRowI:=hd_ hr
     have HIXi:=hd_ hi
     clear hci hr hc hi
     have ix0 : (0 : Int) ≤ (i : Int):=by omega
     have ix1 : (i : Int) < (b.cs.length : Int):=by omega
     obtain ⟨j,hj⟩:=Int.eq_ofNat_of_zero_le Hmo.out
     have hltj:=zjh hj
     obtain ⟨c,hc⟩ : ∃ c,chanOf b.cs e.To = c:=⟨_,rfl⟩
     have hci : b.cs[j] = c:=by rw [← hc];unfold chanOf;rw [hj,Int.toNat_natCast,List.getD_eq_getElem?_getD,List.getElem?_eq_getElem hltj];rfl
     have hr : (b.cs.map Chan.cells)[j]? = some c.cells:=by rw [List.getElem?_map,List.getElem?_eq_getElem hltj,hci];rfl
     obtain ⟨y0,y1,y2,y3,y4,y5,y6⟩:=c
     have HCj:=hd_ hc
     have HRowJ:=hd_ hr
     have HIXj:=hd_ hj
     clear hci hr hc hj
     have jx0 : (0 : Int) ≤ (j : Int):=by omega
     have jx1 : (j : Int) < (b.cs.length : Int):=by omega
     obtain ⟨g,hA,hBg⟩:=HW_w4.out.o.c.headW (by rw [List.length_map];omega)
     subst hA
     go_wp2_with fail
     clear a0 a1 a2 a3 a4 a5 a6 a7 af az E0 E1 E2 E3 E4 E5 E6
     obtain ⟨a0,a1,a2,a3,a4,a5,a6,a7,af,az⟩:=HW_w4.out.open_
     obtain ⟨E0,E1,E2,E3,E4,E5,E6,-,-⟩:=box7_ HE_w4.out
     have xl : w4.cell? ⟨g,i * 7 + 2,none⟩ = some (.int .i64 x2):=HW_w4.out.o.c.cellAt HRowI.out (j:=2) (by decide)
     have yr : w4.cell? ⟨g,j * 7 + 3,none⟩ = some (.int .i64 y3):=HW_w4.out.o.c.cellAt HRowJ.out (j:=3) (by decide)
     refine zqk (fun w' => w'.cell? ⟨X,0,none⟩ = some (.int .i64 b.t)∧w'.cell? ⟨X,1,none⟩ = some (.int .i64 b.n)∧w'.cell? ⟨X,2,none⟩ = some (.int .i64 b.w)∧w'.cell? ⟨X,3,none⟩ = some (.slice (some ⟨g,0,none⟩) b.cs.length p1)∧w'.cell? ⟨X,4,none⟩ = some (.slice A2 b.hs.length p2)∧w'.cell? ⟨X,5,none⟩ = some (.slice A3 b.os.length p3)∧w'.cell? ⟨X,6,none⟩ = some (.slice A4 L.length p4)∧w'.cell? ⟨E,0,none⟩ = some (.int .i64 e.Kind)∧w'.cell? ⟨E,1,none⟩ = some (.int .i64 e.Key)∧w'.cell? ⟨E,2,none⟩ = some (.int .i64 e.Ch)∧w'.cell? ⟨E,3,none⟩ = some (.int .i64 e.To)∧w'.cell? ⟨E,4,none⟩ = some (.int .i64 e.Amt)∧w'.cell? ⟨E,5,none⟩ = some (.int .i64 e.Fee)∧w'.cell? ⟨E,6,none⟩ = some (.bool e.Yes)∧w'.cell? ⟨g,i * 7 + 2,none⟩ = some (.int .i64 x2)∧w'.cell? ⟨g,j * 7 + 3,none⟩ = some (.int .i64 y3)) [(0,some 49,false,none),(1,some 50,false,none),(2,some 51,false,none),(3,some 52,true,none),(4,some 53,false,none),(5,some 54,false,some (53,false)),(6,some 55,false,some (53,false)),(7,some 56,false,some (53,false)),(8,some 57,false,some (53,false)),(9,some 58,false,some (53,false)),(10,some 59,false,some (53,false)),(11,some 60,false,some (53,false)),(12,some 61,false,some (53,false)),(13,some 62,false,some (53,false)),(14,some 63,false,some (53,false)),(15,some 64,false,some (53,false)),(16,some 65,false,some (53,false)),(21,some 70,false,some (53,false)),(17,some 66,true,some (53,false)),(18,some 67,false,some (53,false)),(19,some 68,false,some (53,false)),(20,some 69,false,some (53,false)),(22,some 71,false,some (53,false)),(23,some 72,true,some (53,false)),(24,some 73,false,none),(25,some 74,false,none),(26,some 75,false,some (74,false)),(27,some 76,false,some (74,false)),(28,some 77,false,some (74,false)),(29,some 78,false,some (74,false)),(30,some 79,false,some (74,false)),(31,some 80,false,some (74,false)),(32,some 81,false,some (74,false)),(33,some 82,false,some (74,false)),(34,some 83,false,some (74,false)),(35,some 84,false,some (74,false)),(36,some 85,false,some (74,false)),(37,some 86,false,some (74,false)),(42,some 91,false,some (74,false)),(43,some 92,false,some (74,false)),(38,some 87,true,some (74,false)),(39,some 88,false,some (74,false)),(40,some 89,false,some (74,false)),(41,some 90,false,some (74,false)),(44,some 93,false,some (74,false)),(45,some 94,true,some (74,false)),(46,some 95,false,none)] (by kernel_rfl) (by kernel_rfl) (by kernel_rfl) ⟨a0,a1,a2,a3,a4,a5,a6,E0,E1,E2,E3,E4,E5,E6,xl,yr⟩ (fun hHeld => ?_)
     obtain ⟨w5,hwd⟩ : ∃ wd,w4.drew = wd:=⟨_,rfl⟩
     have HW_w5 : Hid (Wk 56 w w5 B X b L 0 (some ⟨g,0,none⟩) A2 A3 A4 p1 p2 p3 p4):=hd_ (by rw [← hwd];exact HW_w4.out.drew)
     have HE_w5 : Hid (w5.heap[E]? = some (.cells #[.int .i64 e.Kind,.int .i64 e.Key,.int .i64 e.Ch,.int .i64 e.To,.int .i64 e.Amt,.int .i64 e.Fee,.bool e.Yes] 37 (0,0))):=hd_ (by rw [← hwd];exact zqe HE_w4.out)
     clear a0 a1 a2 a3 a4 a5 a6 a7 af az xl yr E0 E1 E2 E3 E4 E5 E6
     rw [hwd] at hHeld ⊢
     clear hwd
     obtain ⟨a0,a1,a2,a3,a4,a5,a6,a7,af,az⟩:=HW_w5.out.open_
     obtain ⟨E0,E1,E2,E3,E4,E5,E6,-,-⟩:=box7_ HE_w5.out
     have xl : w5.cell? ⟨g,i * 7 + 2,none⟩ = some (.int .i64 x2):=HW_w5.out.o.c.cellAt HRowI.out (j:=2) (by decide)
     have yr : w5.cell? ⟨g,j * 7 + 3,none⟩ = some (.int .i64 y3):=HW_w5.out.o.c.cellAt HRowJ.out (j:=3) (by decide)
     refine tk_ ?_
     refine Sq.step rfl (by rfl) (fun K hK => ?_)
     go_simp
     refine (zqn _ _ B X b L (some ⟨g,0,none⟩) A2 A3 A4 p1 p2 p3 p4 10 HW_w5.out).mono ?_
     rintro e' wz ⟨rfl,rfl⟩
     go_simp
     refine hK.out _ _ ⟨a0,a1,a2,a3,a4,a5,a6,E0,E1,E2,E3,E4,E5,E6,xl,yr⟩ (fun hHeld => ?_)
     clear hK K
     refine tk_ ?_
     refine Sq.step rfl (by rfl) (fun K hK => ?_)
     go_simp
     refine (zva b.t b.n b.w b.cs b.hs b.os _ _ _ _ _ _ e.Ch _ (by omega) HW_w5.out.o.rd).mono ?_
     rintro e' w6 ⟨rfl,hb⟩
     rw [HIXi.out]
     have HW_w6:=hd_ (HW_w5.out.below hb)
     have HE_w6:=hd_ (zqb hb (gz_ HE_w5.out).1 HE_w5.out)
     clear hb
     clear a0 a1 a2 a3 a4 a5 a6 a7 af az xl yr E0 E1 E2 E3 E4 E5 E6
     obtain ⟨a0,a1,a2,a3,a4,a5,a6,a7,af,az⟩:=HW_w6.out.open_
     obtain ⟨E0,E1,E2,E3,E4,E5,E6,-,-⟩:=box7_ HE_w6.out
     have xl : w6.cell? ⟨g,i * 7 + 2,none⟩ = some (.int .i64 x2):=HW_w6.out.o.c.cellAt HRowI.out (j:=2) (by decide)
     have yr : w6.cell? ⟨g,j * 7 + 3,none⟩ = some (.int .i64 y3):=HW_w6.out.o.c.cellAt HRowJ.out (j:=3) (by decide)
     go_simp
     refine hK.out _ _ ⟨a0,a1,a2,a3,a4,a5,a6,E0,E1,E2,E3,E4,E5,E6,xl,yr⟩ (fun hHeld => ?_)
     clear hK K
     refine tk_ ?_
     cases t12 : decide (x2 < e.Amt + e.Fee)
     ·
      have m7:=of_decide_eq_false t12
      refine tk_ ?_
      refine Sq.step rfl (by rfl) (fun K hK => ?_)
      go_simp
      refine (zqn _ _ B X b L (some ⟨g,0,none⟩) A2 A3 A4 p1 p2 p3 p4 12 HW_w6.out).mono ?_
      rintro e' wz ⟨rfl,rfl⟩
      go_simp
      refine hK.out _ _ ⟨a0,a1,a2,a3,a4,a5,a6,E0,E1,E2,E3,E4,E5,E6,xl,yr⟩ (fun hHeld => ?_)
      clear hK K
      refine tk_ ?_
      refine Sq.step rfl (by rfl) (fun K hK => ?_)
      go_simp
      refine (zva b.t b.n b.w b.cs b.hs b.os _ _ _ _ _ _ e.To _ (by omega) HW_w6.out.o.rd).mono ?_
      rintro e' w7 ⟨rfl,hb⟩
      rw [HIXj.out]
      have HW_w7:=hd_ (HW_w6.out.below hb)
      have HE_w7:=hd_ (zqb hb (gz_ HE_w6.out).1 HE_w6.out)
      clear hb
      clear a0 a1 a2 a3 a4 a5 a6 a7 af az xl yr E0 E1 E2 E3 E4 E5 E6
      obtain ⟨a0,a1,a2,a3,a4,a5,a6,a7,af,az⟩:=HW_w7.out.open_
      obtain ⟨E0,E1,E2,E3,E4,E5,E6,-,-⟩:=box7_ HE_w7.out
      have xl : w7.cell? ⟨g,i * 7 + 2,none⟩ = some (.int .i64 x2):=HW_w7.out.o.c.cellAt HRowI.out (j:=2) (by decide)
      have yr : w7.cell? ⟨g,j * 7 + 3,none⟩ = some (.int .i64 y3):=HW_w7.out.o.c.cellAt HRowJ.out (j:=3) (by decide)
      go_simp
      refine hK.out _ _ ⟨a0,a1,a2,a3,a4,a5,a6,E0,E1,E2,E3,E4,E5,E6,xl,yr⟩ (fun hHeld => ?_)
      clear hK K
      refine tk_ ?_
      cases t11 : decide (y3 < e.Amt)
      ·
       have m8:=of_decide_eq_false t11
       have HO:=hd_ (launchS_ok (b:=b) (e:=e) H9.out H6.out H14.out HS.out HCi.out (by simp only;omega) HCj.out (by simp only;omega))
       refine tk_ ?_
       refine Sq.step rfl (by rfl) (fun K hK => ?_)
       go_simp
       refine (zqn _ _ B X b L (some ⟨g,0,none⟩) A2 A3 A4 p1 p2 p3 p4 11 HW_w7.out).mono ?_
       rintro e' wz ⟨rfl,rfl⟩
       go_simp
       refine hK.out _ _ ⟨a0,a1,a2,a3,a4,a5,a6,E0,E1,E2,E3,E4,E5,E6,xl,yr⟩ (fun hHeld => ?_)
       clear hK K
       refine tk_ ?_
       refine Sq.done (NoPanic.normal ?_)
       clear t12 t11
       clear a0 a1 a2 a3 a4 a5 a6 a7 af az xl yr E0 E1 E2 E3 E4 E5 E6
       obtain ⟨a0,a1,a2,a3,a4,a5,a6,a7,af,az⟩:=HW_w7.out.open_
       obtain ⟨E0,E1,E2,E3,E4,E5,E6,-,-⟩:=box7_ HE_w7.out
       go_wp2_with fail
       refine zxd (fun w' => w'.cell? ⟨X,0,none⟩ = some (.int .i64 b.t)∧w'.cell? ⟨X,1,none⟩ = some (.int .i64 b.n)∧w'.cell? ⟨X,2,none⟩ = some (.int .i64 b.w)∧w'.cell? ⟨X,3,none⟩ = some (.slice (some ⟨g,0,none⟩) b.cs.length p1)∧w'.cell? ⟨X,4,none⟩ = some (.slice A2 b.hs.length p2)∧w'.cell? ⟨X,5,none⟩ = some (.slice A3 b.os.length p3)∧w'.cell? ⟨X,6,none⟩ = some (.slice A4 L.length p4)∧w'.cell? ⟨E,0,none⟩ = some (.int .i64 e.Kind)∧w'.cell? ⟨E,1,none⟩ = some (.int .i64 e.Key)∧w'.cell? ⟨E,2,none⟩ = some (.int .i64 e.Ch)∧w'.cell? ⟨E,3,none⟩ = some (.int .i64 e.To)∧w'.cell? ⟨E,4,none⟩ = some (.int .i64 e.Amt)∧w'.cell? ⟨E,5,none⟩ = some (.int .i64 e.Fee)∧w'.cell? ⟨E,6,none⟩ = some (.bool e.Yes)) [(0,some 96,false,none),(1,some 97,false,none),(2,some 98,false,none),(3,some 99,false,none),(4,some 100,false,none),(5,some 101,false,none),(6,some 102,false,none),(7,some 103,false,none),(8,some 104,false,none),(9,some 105,false,none),(10,some 106,false,none),(11,some 107,false,none),(12,some 108,false,none),(13,some 109,false,none),(14,some 110,false,none),(15,some 111,false,none),(16,some 112,false,none),(17,some 113,true,none),(18,some 114,true,none),(19,some 115,false,none),(20,some 116,false,none),(21,some 117,false,none)] rfl (by kernel_rfl) (by kernel_rfl) (by kernel_rfl) (by kernel_rfl) (by kernel_rfl) (by kernel_rfl) ⟨a0,a1,a2,a3,a4,a5,a6,E0,E1,E2,E3,E4,E5,E6⟩ (fun hHeld => ?_)
       obtain ⟨w8,hwd⟩ : ∃ wd,w7.drew = wd:=⟨_,rfl⟩
       have HW_w8 : Hid (Wk 56 w w8 B X b L 0 (some ⟨g,0,none⟩) A2 A3 A4 p1 p2 p3 p4):=hd_ (by rw [← hwd];exact HW_w7.out.drew)
       have HE_w8 : Hid (w8.heap[E]? = some (.cells #[.int .i64 e.Kind,.int .i64 e.Key,.int .i64 e.Ch,.int .i64 e.To,.int .i64 e.Amt,.int .i64 e.Fee,.bool e.Yes] 37 (0,0))):=hd_ (by rw [← hwd];exact zqe HE_w7.out)
       clear a0 a1 a2 a3 a4 a5 a6 a7 af az E0 E1 E2 E3 E4 E5 E6
       rw [hwd] at hHeld ⊢
       clear hwd
       obtain ⟨a0,a1,a2,a3,a4,a5,a6,a7,af,az⟩:=HW_w8.out.open_
       obtain ⟨E0,E1,E2,E3,E4,E5,E6,-,-⟩:=box7_ HE_w8.out
       refine tk_ ?_
       refine Sq.step rfl (by rfl) (fun K hK => ?_)
       go_simp
       refine zkd (fun w9 hw => ?_)
       have HW_w9 : Hid (Wk 56 w w9 B X b L 0 (some ⟨g,0,none⟩) A2 A3 A4 p1 p2 p3 p4):=hd_ (by rw [hw];exact HW_w8.out.alloc _)
       have HE_w9 : Hid (w9.heap[E]? = some (.cells #[.int .i64 e.Kind,.int .i64 e.Key,.int .i64 e.Ch,.int .i64 e.To,.int .i64 e.Amt,.int .i64 e.Fee,.bool e.Yes] 37 (0,0))):=hd_ (by rw [hw];exact zqc (gz_ HE_w8.out).1 HE_w8.out)
       have HB : Hid (w9.heap[w8.heap.size]? = some (.cells #[.int .i64 e.Key,.int .i64 e.Ch,.int .i64 e.To,.int .i64 e.Amt,.int .i64 e.Fee] 44 (0,0))):=hd_ (by rw [hw];exact zqm rfl)
       clear hw
       clear a0 a1 a2 a3 a4 a5 a6 a7 af az E0 E1 E2 E3 E4 E5 E6
       obtain ⟨a0,a1,a2,a3,a4,a5,a6,a7,af,az⟩:=HW_w9.out.open_
       obtain ⟨E0,E1,E2,E3,E4,E5,E6,-,-⟩:=box7_ HE_w9.out
       go_simp
       refine hK.out _ _ ⟨a0,a1,a2,a3,a4,a5,a6,E0,E1,E2,E3,E4,E5,E6⟩ (fun hHeld => ?_)
       clear hK K
       refine tk_ ?_
       refine Sq.step rfl (by rfl) (fun K hK => ?_)
       refine zvd (ops:=#[]) (E:=True) rfl (zhe rfl _ _ _ rfl B 44 i0 _ 5 40 Try.underlying32 HI0.out HI1.out HI2.out HI3.out rfl (by decide) (.slice A3 b.os.length p3) _ (by rfl) HW_w9.out.o.o w8.heap.size 1 [.int .i64 e.Key,.int .i64 e.Ch,.int .i64 e.To,.int .i64 e.Amt,.int .i64 e.Fee] 44 (by rfl) HB.out rfl (by simp [Value.oneCell']) (by rw [List.length_map];omega) (by decide) HW_w9.out.ble ?_)
       intro g2 cap2 w10 how2 hgr2 hat2 hlt2
       have HA:=hd_ (HW_w9.out.appO (by decide) (by decide) (by decide) (by decide) (c:=⟨e.Key,e.Ch,e.To,e.Amt,e.Fee⟩) how2 hgr2)
       have HE_w10 : Hid (w10.heap[E]? = some (.cells #[.int .i64 e.Kind,.int .i64 e.Key,.int .i64 e.Ch,.int .i64 e.To,.int .i64 e.Amt,.int .i64 e.Fee,.bool e.Yes] 37 (0,0))):=hd_ (zqj hgr2 (HW_w9.out.o.o.ne_ HE_w9.out (by decide)) HE_w9.out)
       clear how2 hgr2 hat2 HB
       rw [List.length_map]
       clear a0 a1 a2 a3 a4 a5 a6 a7 af az E0 E1 E2 E3 E4 E5 E6
       obtain ⟨_,a0,a1,a2,a3,a4,a5,a6,a7,af,az⟩:=own8 HA.out.1
       obtain ⟨E0,E1,E2,E3,E4,E5,E6,-,-⟩:=box7_ HE_w10.out
       go_simp
       refine hK.out _ _ ⟨a0,a1,a2,a3,a4,a5,a6,E0,E1,E2,E3,E4,E5,E6⟩ (fun hHeld => ?_)
       clear hK K
       refine tk_ ?_
       refine Sq.done ?_
       intro KK hKK
       go_simp
       refine hKK _ _ (NoPanic.normal ?_)
       refine nm_ ?_
       intro w11 hw
       have HW_w11 : Hid (Wk 56 w w11 B X ⟨b.t,b.n,b.w,b.cs,b.hs,(b.os ++ [⟨e.Key,e.Ch,e.To,e.Amt,e.Fee⟩])⟩ L 0 (some ⟨g,0,none⟩) A2 (some ⟨g2,0,none⟩) A4 p1 p2 cap2 p4):=hd_ (by rw [hw];exact HA.out.2)
       have HE_w11 : Hid (w11.heap[E]? = some (.cells #[.int .i64 e.Kind,.int .i64 e.Key,.int .i64 e.Ch,.int .i64 e.To,.int .i64 e.Amt,.int .i64 e.Fee,.bool e.Yes] 37 (0,0))):=hd_ (by rw [hw];exact zqh HXE.out HE_w10.out)
       clear hw
       clear a0 a1 a2 a3 a4 a5 a6 a7 af az E0 E1 E2 E3 E4 E5 E6
       obtain ⟨a0,a1,a2,a3,a4,a5,a6,a7,af,az⟩:=HW_w11.out.open_
       obtain ⟨E0,E1,E2,E3,E4,E5,E6,-,-⟩:=box7_ HE_w11.out
       clear HA
       go_wp2_with fail
       refine (zkn _ _ B X ⟨b.t,b.n,b.w,b.cs,b.hs,(b.os ++ [⟨e.Key,e.Ch,e.To,e.Amt,e.Fee⟩])⟩ L 0 (some ⟨g,0,none⟩) A2 (some ⟨g2,0,none⟩) A4 p1 p2 cap2 p4 e.Ch (-(e.Amt + e.Fee)) 0 (by (try simp only);omega) (Hmi.out) (by have:=HBD.out.at_ Hmi.out;(try simp only);omega) (by omega) (by omega) HW_w11.out).mono ?_
       rintro e' w12 ⟨rfl,hh,ho⟩
       have HE_w12:=hd_ (ho g rfl _ _ (fun e9 => HW_w11.out.o.c.ne_ HE_w11.out (by decide) (by rw [e9];rfl)) HE_w11.out)
       obtain ⟨cs1,hc9⟩ : ∃ v,moveC b.cs e.Ch (-(e.Amt + e.Fee)) 0 = v:=⟨_,rfl⟩
       rw [hc9] at hh
       have Hcs1:=hd_ hc9
       have HW_w12:=hd_ (HW_w11.out.trans hh)
       clear hh ho hc9
       clear a0 a1 a2 a3 a4 a5 a6 a7 af az E0 E1 E2 E3 E4 E5 E6
       obtain ⟨a0,a1,a2,a3,a4,a5,a6,a7,af,az⟩:=HW_w12.out.open_
       obtain ⟨E0,E1,E2,E3,E4,E5,E6,-,-⟩:=box7_ HE_w12.out
       have Hix1 : Hid (∀ ch,chanIx cs1 ch = chanIx b.cs ch):=hd_ (by rw [← Hcs1.out];exact fun ch => zjj _ _ _ _ ch)
       have hl1 : cs1.length = b.cs.length:=by rw [← Hcs1.out];exact zjb _ _ _ _
       have HBD1 : Hid (Bd (1125899906842624 + 2251799813685248) cs1):=hd_ (by rw [← Hcs1.out];exact HBD.out.move _ _ _ (by omega) (by omega))
       have HL1:=hd_ hl1
       clear hl1
       go_wp2_with fail
       refine (zkn _ _ B X ⟨b.t,b.n,b.w,cs1,b.hs,(b.os ++ [⟨e.Key,e.Ch,e.To,e.Amt,e.Fee⟩])⟩ L 0 (some ⟨g,0,none⟩) A2 (some ⟨g2,0,none⟩) A4 p1 p2 cap2 p4 e.To 0 (-e.Amt) (by have:=HL1.out;(try simp only);omega) (by (try simp only);rw [Hix1.out];exact Hmo.out) (by have:=HBD1.out.at_ (ch:=e.To) (by rw [Hix1.out];exact Hmo.out);(try simp only);omega) (by omega) (by omega) HW_w12.out).mono ?_
       rintro e' w13 ⟨rfl,hh,ho⟩
       have HE_w13:=hd_ (ho g rfl _ _ (fun e9 => HW_w12.out.o.c.ne_ HE_w12.out (by decide) (by rw [e9];rfl)) HE_w12.out)
       obtain ⟨cs2,hc9⟩ : ∃ v,moveC cs1 e.To 0 (-e.Amt) = v:=⟨_,rfl⟩
       rw [hc9] at hh
       have Hcs2:=hd_ hc9
       have HW_w13:=hd_ (HW_w12.out.trans hh)
       clear hh ho hc9
       clear a0 a1 a2 a3 a4 a5 a6 a7 af az E0 E1 E2 E3 E4 E5 E6
       obtain ⟨a0,a1,a2,a3,a4,a5,a6,a7,af,az⟩:=HW_w13.out.open_
       obtain ⟨E0,E1,E2,E3,E4,E5,E6,-,-⟩:=box7_ HE_w13.out
       go_wp2_with fail
       refine (zjk _ _ B X ⟨b.t,b.n,b.w,cs2,b.hs,(b.os ++ [⟨e.Key,e.Ch,e.To,e.Amt,e.Fee⟩])⟩ L 0 (some ⟨g,0,none⟩) A2 (some ⟨g2,0,none⟩) A4 p1 p2 cap2 p4 6 e.Ch (-(e.Amt + e.Fee)) (by rw [HL.out];decide) HW_w13.out).mono ?_
       rintro e' w14 ⟨⟨Cw140,Cw141,Cw142,Cw143,rw140,rw141,rw142,rw143,rfl,hh⟩,ho⟩
       have HE_w14:=hd_ (ho _ _ HXE.out HE_w13.out)
       obtain ⟨M0,hL9⟩ : ∃ v,lineTo L 6 e.Ch (-(e.Amt + e.Fee)) = v:=⟨_,rfl⟩
       rw [hL9] at hh
       have hlM0 : M0.length ≤ L.length + 1:=by rw [← hL9];exact zxe _ _ _ _
       have HM0:=hd_ hL9
       have HW_w14:=hd_ (HW_w13.out.trans hh)
       clear hh ho hL9
       clear a0 a1 a2 a3 a4 a5 a6 a7 af az E0 E1 E2 E3 E4 E5 E6
       obtain ⟨a0,a1,a2,a3,a4,a5,a6,a7,af,az⟩:=HW_w14.out.open_
       obtain ⟨E0,E1,E2,E3,E4,E5,E6,-,-⟩:=box7_ HE_w14.out
       go_wp2_with fail
       refine (zjk _ _ B X ⟨b.t,b.n,b.w,cs2,b.hs,(b.os ++ [⟨e.Key,e.Ch,e.To,e.Amt,e.Fee⟩])⟩ M0 0 Cw140 Cw141 Cw142 Cw143 rw140 rw141 rw142 rw143 8 e.Ch (e.Amt + e.Fee) (by rw [HL.out] at hlM0;simp at hlM0;omega) HW_w14.out).mono ?_
       rintro e' w15 ⟨⟨Cw150,Cw151,Cw152,Cw153,rw150,rw151,rw152,rw153,rfl,hh⟩,ho⟩
       have HE_w15:=hd_ (ho _ _ HXE.out HE_w14.out)
       obtain ⟨M1,hL9⟩ : ∃ v,lineTo M0 8 e.Ch (e.Amt + e.Fee) = v:=⟨_,rfl⟩
       rw [hL9] at hh
       have hlM1 : M1.length ≤ M0.length + 1:=by rw [← hL9];exact zxe _ _ _ _
       have HM1:=hd_ hL9
       have HW_w15:=hd_ (HW_w14.out.trans hh)
       clear hh ho hL9
       clear a0 a1 a2 a3 a4 a5 a6 a7 af az E0 E1 E2 E3 E4 E5 E6
       obtain ⟨a0,a1,a2,a3,a4,a5,a6,a7,af,az⟩:=HW_w15.out.open_
       obtain ⟨E0,E1,E2,E3,E4,E5,E6,-,-⟩:=box7_ HE_w15.out
       go_wp2_with fail
       go_end0
       rw [HO.out]
       have HZ : nz [⟨6,e.Ch,(-(e.Amt + e.Fee))⟩,⟨8,e.Ch,(e.Amt + e.Fee)⟩] = M1:=by rw [← HM1.out,← HM0.out,HL.out];exact (line2 (by decide)).symm
       rw [HZ,Hcs1.out,Hcs2.out]
       exact Acts.ok ⟨_,_,_,_,_,_,_,_,rfl,HW_w15.out⟩
      ·
       have m8:=of_decide_eq_true t11
       refine tk_ ?_
       refine Sq.step rfl (by rfl) (fun K hK => ?_)
       go_simp
       refine (zxh _ _ B X b L (some ⟨g,0,none⟩) A2 A3 A4 p1 p2 p3 p4 11 (by decide) HW_w7.out).mono ?_
       rintro e' w8 ⟨rfl,hh,ho⟩
       have HW_w8:=hd_ (HW_w7.out.trans hh)
       have HE_w8:=hd_ (ho _ _ HXE.out HE_w7.out)
       clear hh ho
       clear a0 a1 a2 a3 a4 a5 a6 a7 af az xl yr E0 E1 E2 E3 E4 E5 E6
       obtain ⟨a0,a1,a2,a3,a4,a5,a6,a7,af,az⟩:=HW_w8.out.open_
       obtain ⟨E0,E1,E2,E3,E4,E5,E6,-,-⟩:=box7_ HE_w8.out
       have xl : w8.cell? ⟨g,i * 7 + 2,none⟩ = some (.int .i64 x2):=HW_w8.out.o.c.cellAt HRowI.out (j:=2) (by decide)
       have yr : w8.cell? ⟨g,j * 7 + 3,none⟩ = some (.int .i64 y3):=HW_w8.out.o.c.cellAt HRowJ.out (j:=3) (by decide)
       go_simp
       refine hK.out _ _ ⟨a0,a1,a2,a3,a4,a5,a6,E0,E1,E2,E3,E4,E5,E6,xl,yr⟩ (fun hHeld => ?_)
       clear hK K
       refine tk_ ?_
       refine Sq.done (NoPanic.normal ?_)
       go_wp2_with fail
       go_end0
       rw [launchS_11 H9.out H6.out H14.out HS.out HCi.out (by simp only;omega) HCj.out (by simp only;omega)]
       exact Acts.no (by decide) ⟨_,_,_,_,_,_,_,_,rfl,HW_w8.out⟩
     ·
      have m7:=of_decide_eq_true t12
      refine tk_ ?_
      refine Sq.step rfl (by rfl) (fun K hK => ?_)
      go_simp
      refine (zxh _ _ B X b L (some ⟨g,0,none⟩) A2 A3 A4 p1 p2 p3 p4 12 (by decide) HW_w6.out).mono ?_
      rintro e' w7 ⟨rfl,hh,ho⟩
      have HW_w7:=hd_ (HW_w6.out.trans hh)
      have HE_w7:=hd_ (ho _ _ HXE.out HE_w6.out)
      clear hh ho
      clear a0 a1 a2 a3 a4 a5 a6 a7 af az xl yr E0 E1 E2 E3 E4 E5 E6
      obtain ⟨a0,a1,a2,a3,a4,a5,a6,a7,af,az⟩:=HW_w7.out.open_
      obtain ⟨E0,E1,E2,E3,E4,E5,E6,-,-⟩:=box7_ HE_w7.out
      have xl : w7.cell? ⟨g,i * 7 + 2,none⟩ = some (.int .i64 x2):=HW_w7.out.o.c.cellAt HRowI.out (j:=2) (by decide)
      have yr : w7.cell? ⟨g,j * 7 + 3,none⟩ = some (.int .i64 y3):=HW_w7.out.o.c.cellAt HRowJ.out (j:=3) (by decide)
      go_simp
      refine hK.out _ _ ⟨a0,a1,a2,a3,a4,a5,a6,E0,E1,E2,E3,E4,E5,E6,xl,yr⟩ (fun hHeld => ?_)
      clear hK K
      refine tk_ ?_
      refine Sq.done (NoPanic.normal ?_)
      go_wp2_with fail
      go_end0
      rw [launchS_12 H9.out H6.out H14.out HS.out HCi.out (by simp only;omega)]
      exact Acts.no (by decide) ⟨_,_,_,_,_,_,_,_,rfl,HW_w7.out⟩
   ·
    have H14 : Hid (b.os.length = 20):=hd_ (by have:=eq_of_beq t14;omega)
    refine Sq.step rfl (by rfl) (fun K hK => ?_)
    go_simp
    refine (zke b.t b.n b.w b.cs b.hs b.os _ _ _ _ _ _ e.Ch e.To _ (by omega) HW_w3.out.o.rd).mono ?_
    rintro e' w4 ⟨rfl,hb⟩
    have HW_w4:=hd_ (HW_w3.out.below hb)
    have HE_w4:=hd_ (zqb hb (gz_ HE_w3.out).1 HE_w3.out)
    clear hb
    clear a0 a1 a2 a3 a4 a5 a6 a7 af az E0 E1 E2 E3 E4 E5 E6
    obtain ⟨a0,a1,a2,a3,a4,a5,a6,a7,af,az⟩:=HW_w4.out.open_
    obtain ⟨E0,E1,E2,E3,E4,E5,E6,-,-⟩:=box7_ HE_w4.out
    go_simp
    refine hK.out _ _ ⟨a0,a1,a2,a3,a4,a5,a6,E0,E1,E2,E3,E4,E5,E6⟩ (fun hHeld => ?_)
    clear hK K
    refine tk_ ?_
    refine Sq.step rfl (by rfl) (fun K hK => ?_)
    go_simp
    refine (zqn _ _ B X b L A1 A2 A3 A4 p1 p2 p3 p4 6 HW_w4.out).mono ?_
    rintro e' wz ⟨rfl,rfl⟩
    go_simp
    refine hK.out _ _ ⟨a0,a1,a2,a3,a4,a5,a6,E0,E1,E2,E3,E4,E5,E6⟩ (fun hHeld => ?_)
    clear hK K
    refine tk_ ?_
    refine Sq.step rfl (by rfl) (fun K hK => ?_)
    go_simp
    refine (zxh _ _ B X b L A1 A2 A3 A4 p1 p2 p3 p4 14 (by decide) HW_w4.out).mono ?_
    rintro e' w5 ⟨rfl,hh,ho⟩
    have HW_w5:=hd_ (HW_w4.out.trans hh)
    have HE_w5:=hd_ (ho _ _ HXE.out HE_w4.out)
    clear hh ho
    clear a0 a1 a2 a3 a4 a5 a6 a7 af az E0 E1 E2 E3 E4 E5 E6
    obtain ⟨a0,a1,a2,a3,a4,a5,a6,a7,af,az⟩:=HW_w5.out.open_
    obtain ⟨E0,E1,E2,E3,E4,E5,E6,-,-⟩:=box7_ HE_w5.out
    go_simp
    refine hK.out _ _ ⟨a0,a1,a2,a3,a4,a5,a6,E0,E1,E2,E3,E4,E5,E6⟩ (fun hHeld => ?_)
    clear hK K
    refine tk_ ?_
    refine Sq.done (NoPanic.normal ?_)
    go_wp2_with fail
    go_end0
    rw [launchS_14 H9.out H6.out H14.out]
    exact Acts.no (by decide) ⟨_,_,_,_,_,_,_,_,rfl,HW_w5.out⟩
 ·
  have H9:=hd_ t9
  refine Sq.step rfl (by rfl) (fun K hK => ?_)
  go_simp
  refine (zhd (keysOf b.hs b.os) e.Key KA kcap _ (by omega) HK.out).mono ?_
  rintro e' wz ⟨rfl,rfl⟩
  go_simp
  refine hK.out _ _ ⟨a0,a1,a2,a3,a4,a5,a6,E0,E1,E2,E3,E4,E5,E6⟩ (fun hHeld => ?_)
  clear hK K
  refine tk_ ?_
  refine Sq.step rfl (by rfl) (fun K hK => ?_)
  go_simp
  refine (zxh _ _ B X b L A1 A2 A3 A4 p1 p2 p3 p4 9 (by decide) HW_w3.out).mono ?_
  rintro e' w4 ⟨rfl,hh,ho⟩
  have HW_w4:=hd_ (HW_w3.out.trans hh)
  have HE_w4:=hd_ (ho _ _ HXE.out HE_w3.out)
  clear hh ho
  clear a0 a1 a2 a3 a4 a5 a6 a7 af az E0 E1 E2 E3 E4 E5 E6
  obtain ⟨a0,a1,a2,a3,a4,a5,a6,a7,af,az⟩:=HW_w4.out.open_
  obtain ⟨E0,E1,E2,E3,E4,E5,E6,-,-⟩:=box7_ HE_w4.out
  go_simp
  refine hK.out _ _ ⟨a0,a1,a2,a3,a4,a5,a6,E0,E1,E2,E3,E4,E5,E6⟩ (fun hHeld => ?_)
  clear hK K
  refine tk_ ?_
  refine Sq.done (NoPanic.normal ?_)
  go_wp2_with fail
  go_end0
  rw [launchS_9 H9.out]
  exact Acts.no (by decide) ⟨_,_,_,_,_,_,_,_,rfl,HW_w4.out⟩
end Go.Proofs.Ytdbmkfmenfcbiaa
