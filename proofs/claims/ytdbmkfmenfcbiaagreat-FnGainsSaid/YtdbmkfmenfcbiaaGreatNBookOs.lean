/- Books: BookOk: the walk of the reference. -/
import Derived.Test.YtdbmkfmenfcbiaaGreatRows
import Derived.Test.YtdbmkfmenfcbiaaGreatNM2
import Derived.IntWalk
import Derived.Deep.QuietTactic
import Derived.BigQuiet
namespace Go.Proofs.YtdbmkfmenfcbiaaGreat
open Go.RowKit
set_option maxRecDepth 100000 in
set_option maxHeartbeats 16000000 in
theorem zpm (bt bn bw : Int) (cs : List Chan) (hs : List Htlc) (os : List Circle) (A1 A2 A3 : Option Addr) (p1 p2 p3 : Nat) (w : World) (hlc : cs.length ≤ 1048576) (hlh : hs.length ≤ 1048576) (hlo : os.length ≤ 1048576) (hr : RdBook w w.heap.size A1 cs A2 hs A3 os) :
  Calls Tryz.prog 25 #[.agg #[.int .i64 bt,.int .i64 bn,.int .i64 bw,.slice A1 cs.length p1,.slice A2 hs.length p2,.slice A3 os.length p3]] w fun e w' => e = .returned (.bool (bookB bt bn bw cs hs os))∧Below w.heap.size w w':=by
 have HR:=hd_ hr
 have HCH:=hd_ hr.c
 clear hr
 have hbk:=bookB_s bt bn bw cs hs os
 cases a1 : amtB bt
 ·
  skip
  have HBAD:=hd_ (show bookB bt bn bw cs hs os = false by rw [hbk];simp [a1])
  clear hbk
  go_enter Tryz.func25,Tryz.ntmps25
  go_wp2_with (go_at_call 56;refine (zqx _ _).mono ?_;rintro e w' ⟨rfl,rfl⟩)
  go_ret
  exact ⟨zqf HBAD.out.symm,bl_⟩
 skip
 cases a2 : amtB bw
 ·
  skip
  have HBAD:=hd_ (show bookB bt bn bw cs hs os = false by rw [hbk];simp [a1,a2])
  clear hbk
  go_enter Tryz.func25,Tryz.ntmps25
  go_wp2_with (go_at_call 56;refine (zqx _ _).mono ?_;rintro e w' ⟨rfl,rfl⟩)
  go_ret
  exact ⟨zqf HBAD.out.symm,bl_⟩
 skip
 cases a3 : decide (bn < 1)
 rotate_left
 ·
  skip
  have HBAD:=hd_ (show bookB bt bn bw cs hs os = false by rw [hbk];simp [a1,a2,a3])
  clear hbk
  go_enter Tryz.func25,Tryz.ntmps25
  go_wp2_with (go_at_call 56;refine (zqx _ _).mono ?_;rintro e w' ⟨rfl,rfl⟩)
  go_ret
  exact ⟨zqf HBAD.out.symm,bl_⟩
 skip
 cases a3b : decide (1125899906842624 < bn)
 rotate_left
 ·
  skip
  have HBAD:=hd_ (show bookB bt bn bw cs hs os = false by rw [hbk];simp [a1,a2,a3,a3b])
  clear hbk
  go_enter Tryz.func25,Tryz.ntmps25
  go_wp2_with (go_at_call 56;refine (zqx _ _).mono ?_;rintro e w' ⟨rfl,rfl⟩)
  go_ret
  exact ⟨zqf HBAD.out.symm,bl_⟩
 skip
 cases a4 : decide ((20 : Int) < (cs.length : Int))
 rotate_left
 ·
  skip
  have HBAD:=hd_ (show bookB bt bn bw cs hs os = false by rw [hbk];simp [a1,a2,a3,a3b,a4])
  clear hbk
  go_enter Tryz.func25,Tryz.ntmps25
  go_wp2_with (go_at_call 56;refine (zqx _ _).mono ?_;rintro e w' ⟨rfl,rfl⟩)
  go_ret
  exact ⟨zqf HBAD.out.symm,bl_⟩
 skip
 cases a4b : decide ((60 : Int) < (hs.length : Int))
 rotate_left
 ·
  skip
  have HBAD:=hd_ (show bookB bt bn bw cs hs os = false by rw [hbk];simp [a1,a2,a3,a3b,a4,a4b])
  clear hbk
  go_enter Tryz.func25,Tryz.ntmps25
  go_wp2_with (go_at_call 56;refine (zqx _ _).mono ?_;rintro e w' ⟨rfl,rfl⟩)
  go_ret
  exact ⟨zqf HBAD.out.symm,bl_⟩
 skip
 cases a4c : decide ((20 : Int) < (os.length : Int))
 rotate_left
 ·
  skip
  have HBAD:=hd_ (show bookB bt bn bw cs hs os = false by rw [hbk];simp [a1,a2,a3,a3b,a4,a4b,a4c])
  clear hbk
  go_enter Tryz.func25,Tryz.ntmps25
  go_wp2_with (go_at_call 56;refine (zqx _ _).mono ?_;rintro e w' ⟨rfl,rfl⟩)
  go_ret
  exact ⟨zqf HBAD.out.symm,bl_⟩
 skip
 cases a5 : partsB cs hs os
 ·
  have HP:=hd_ a5
  clear a5
  have HBAD:=hd_ (show bookB bt bn bw cs hs os = false by rw [hbk];simp [a1,a2,a3,a3b,a4,a4b,a4c,HP.out])
  clear hbk
  have hc20 : cs.length ≤ 20:=by rw [decide_eq_false_iff_not] at a4;omega
  have hh60 : hs.length ≤ 60:=by rw [decide_eq_false_iff_not] at a4b;omega
  have ho20 : os.length ≤ 20:=by rw [decide_eq_false_iff_not] at a4c;omega
  go_enter Tryz.func25,Tryz.ntmps25
  go_wp2_with (go_at_call 56;refine (zqx _ _).mono ?_;rintro e w' ⟨rfl,rfl⟩)
  refine (zmm bt bn bw cs hs os _ _ _ _ _ _ _ hc20 hh60 ho20 ((HR.out.below (bl_)).more (by first | omega | (simp;omega) | (simp;done)))).mono ?_
  rintro e w1 ⟨rfl,hb1⟩
  have z1:=hb1.size
  try simp at z1
  rw [HP.out]
  go_wp2_with fail
  go_ret
  exact ⟨zqf HBAD.out.symm,bl_⟩
 have HP:=hd_ a5
 clear a5
 have HEQ:=hd_ (show bookB bt bn bw cs hs os = everyTo cs.length (chanOk cs hs os) by rw [hbk];simp [a1,a2,a3,a3b,a4,a4b,a4c,HP.out])
 clear hbk
 have hc20 : cs.length ≤ 20:=by rw [decide_eq_false_iff_not] at a4;omega
 have hh60 : hs.length ≤ 60:=by rw [decide_eq_false_iff_not] at a4b;omega
 have ho20 : os.length ≤ 20:=by rw [decide_eq_false_iff_not] at a4c;omega
 go_enter Tryz.func25,Tryz.ntmps25
 go_wp2_with (go_at_call 56;refine (zqx _ _).mono ?_;rintro e w' ⟨rfl,rfl⟩)
 refine (zmm bt bn bw cs hs os _ _ _ _ _ _ _ hc20 hh60 ho20 ((HR.out.below (bl_)).more (by first | omega | (simp;omega) | (simp;done)))).mono ?_
 rintro e w1 ⟨rfl,hb1⟩
 have z1:=hb1.size
 try simp at z1
 rw [HP.out]
 have hsm0 : Small hs os:=zvs HP hh60 ho20
 have HSM:=hd_ hsm0
 clear hsm0
 obtain ⟨eh,e0,e1,e2,e3,e4,e5,ef,ezz⟩:=own6 (g:=w.heap.size) hb1 (by first | omega | (simp;omega) | (simp;done)) (hp_)
 have EH:=hd_ eh
 have hA1 : Below w.heap.size w w1:=bl_
 clear eh hb1
 go_wp2_with fail
 clear e0 e1 e2 e3 e4 e5 ef
 go_loopw [51] (fun i wr => ∃ k : Nat,k ≤ cs.length∧i = .int .i64 k∧Hid (everyTo k (chanOk cs hs os) = true)∧wr.heap[w.heap.size]? = some (.cells #[.int .i64 bt,.int .i64 bn,.int .i64 bw,.slice A1 cs.length p1,.slice A2 hs.length p2,.slice A3 os.length p3] 39 (0,0))∧Below w.heap.size w wr) (fun i _ => cs.length - (intOf i).toNat)
 case atStart => exact ⟨0,Nat.zero_le _,rfl,hd_ rfl,EH.out,hA1⟩
 case round =>
  clear hA1
  obtain ⟨k,hk,rfl,HEV,hbox,hbw⟩:=hrel
  have hbz:=hbw.size
  obtain ⟨eh,e0,e1,e2,e3,e4,e5,ef,ezz2⟩:=own6 (Below.refl wr.heap.size wr) (gz_ hbox).1 hbox
  have EB:=hd_ eh
  clear eh hbox
  by_cases hlt : k < cs.length
  rotate_left
  ·
   obtain rfl : k = cs.length:=by omega
   go_wp2_with fail
   go_ret
   exact ⟨zqf (by rw [HEQ.out,HEV.out]),bl_⟩
  obtain ⟨b,off,rfl,hbB,c0,c1,c2,c3,c4,c5,c6⟩:=Chan.rd (HCH.out.below hbw) hlt
  have hbr : b < wr.heap.size:=by omega
  have bO:=HSM.out.out_bd cs[k].Id
  have bI:=HSM.out.in_bd cs[k].Id
  have hch:=chB_s hs os cs[k]
  have TR:=fun W q => And.intro (s_l07Out bt bn bw cs hs os (some ⟨b,off,none⟩) A2 A3 p1 p2 p3 cs[k].Id W HSM q) (s_l07In bt bn bw cs hs os (some ⟨b,off,none⟩) A2 A3 p1 p2 p3 cs[k].Id W HSM q)
  obtain ⟨OUT,hOUT⟩ : ∃ x,outOf hs os cs[k].Id = x:=⟨_,rfl⟩
  obtain ⟨IN,hIN⟩ : ∃ x,inOf hs os cs[k].Id = x:=⟨_,rfl⟩
  rw [hOUT] at bO TR hch
  rw [hIN] at bI TR hch
  have HTR:=hd_ TR
  obtain ⟨bO1,bO2⟩:=bO
  obtain ⟨bI1,bI2⟩:=bI
  clear TR hOUT hIN
  by_cases hk0 : k = 0
  ·
   have hat : chanOk cs hs os k = chB hs os cs[k]:=by
    have:=zvo (cs:=cs) (hs:=hs) (os:=os) (by omega : 0 < cs.length)
    subst hk0
    exact this
   rw [hch] at hat
   have h3' : decide ((0 : Int) < (k : Int)) = false:=decide_eq_false (by omega)
   have h3'' : decide (0 < k) = false:=decide_eq_false (by omega)
   clear hk0 hch
   cases t1 : decide (cs[k].Id < 1)
   rotate_left
   ·
    skip
    have HBAD:=hd_ (show chanOk cs hs os k = false by rw [hat];simp [t1])
    clear hat
    go_wp2_with fail
    go_quiet ((first | (go_at_call 56;exact zqh (zqx _ _)) | (go_at_call 58;exact zqh (zxf _ _))))
    clear h3'
    go_wp2_with fail
    go_ret
    exact ⟨zqf (zxe hlt HBAD.out).symm,bl_⟩
   skip
   cases t1b : decide (99 < cs[k].Id)
   rotate_left
   ·
    skip
    have HBAD:=hd_ (show chanOk cs hs os k = false by rw [hat];simp [t1,t1b])
    clear hat
    go_wp2_with fail
    go_quiet ((first | (go_at_call 56;exact zqh (zqx _ _)) | (go_at_call 58;exact zqh (zxf _ _))))
    clear h3'
    go_wp2_with fail
    go_ret
    exact ⟨zqf (zxe hlt HBAD.out).symm,bl_⟩
   skip
   cases t3 : amtB cs[k].Local
   ·
    have H3:=hd_ t3
    have HBAD:=hd_ (show chanOk cs hs os k = false by rw [hat];simp [t1,t1b,H3.out])
    clear hat
    go_wp2_with fail
    go_quiet ((first | (go_at_call 56;exact zqh (zqx _ _)) | (go_at_call 58;exact zqh (zxf _ _))))
    clear h3'
    go_wp2_with fail
    go_ret
    exact ⟨zqf (zxe hlt HBAD.out).symm,bl_⟩
   have H3:=hd_ t3
   cases t4 : amtB cs[k].Remote
   ·
    have H4:=hd_ t4
    have HBAD:=hd_ (show chanOk cs hs os k = false by rw [hat];simp [t1,t1b,H3.out,H4.out])
    clear hat
    go_wp2_with fail
    go_quiet ((first | (go_at_call 56;exact zqh (zqx _ _)) | (go_at_call 58;exact zqh (zxf _ _))))
    clear h3'
    go_wp2_with fail
    go_ret
    exact ⟨zqf (zxe hlt HBAD.out).symm,bl_⟩
   have H4:=hd_ t4
   cases t5 : amtB cs[k].Base
   ·
    have H5:=hd_ t5
    have HBAD:=hd_ (show chanOk cs hs os k = false by rw [hat];simp [t1,t1b,H3.out,H4.out,H5.out])
    clear hat
    go_wp2_with fail
    go_quiet ((first | (go_at_call 56;exact zqh (zqx _ _)) | (go_at_call 58;exact zqh (zxf _ _))))
    clear h3'
    go_wp2_with fail
    go_ret
    exact ⟨zqf (zxe hlt HBAD.out).symm,bl_⟩
   have H5:=hd_ t5
   cases t6 : decide (cs[k].Ppm < 0)
   rotate_left
   ·
    skip
    have HBAD:=hd_ (show chanOk cs hs os k = false by rw [hat];simp [t1,t1b,H3.out,H4.out,H5.out,t6])
    clear hat
    go_wp2_with fail
    go_quiet ((first | (go_at_call 56;exact zqh (zqx _ _)) | (go_at_call 58;exact zqh (zxf _ _))))
    clear h3'
    go_wp2_with fail
    go_ret
    exact ⟨zqf (zxe hlt HBAD.out).symm,bl_⟩
   skip
   cases t6b : decide (1000000 < cs[k].Ppm)
   rotate_left
   ·
    skip
    have HBAD:=hd_ (show chanOk cs hs os k = false by rw [hat];simp [t1,t1b,H3.out,H4.out,H5.out,t6,t6b])
    clear hat
    go_wp2_with fail
    go_quiet ((first | (go_at_call 56;exact zqh (zqx _ _)) | (go_at_call 58;exact zqh (zxf _ _))))
    clear h3'
    go_wp2_with fail
    go_ret
    exact ⟨zqf (zxe hlt HBAD.out).symm,bl_⟩
   skip
   cases t7 : inB cs[k].Score (-100) 100
   ·
    have H7:=hd_ t7
    have HBAD:=hd_ (show chanOk cs hs os k = false by rw [hat];simp [t1,t1b,H3.out,H4.out,H5.out,t6,t6b,H7.out])
    clear hat
    go_wp2_with fail
    go_quiet ((first | (go_at_call 56;exact zqh (zqx _ _)) | (go_at_call 58;exact zqh (zxf _ _))))
    clear h3'
    go_wp2_with fail
    go_ret
    exact ⟨zqf (zxe hlt HBAD.out).symm,bl_⟩
   have H7:=hd_ t7
   cases t8 : amtB cs[k].Size
   ·
    have H8:=hd_ t8
    have HBAD:=hd_ (show chanOk cs hs os k = false by rw [hat];simp [t1,t1b,H3.out,H4.out,H5.out,t6,t6b,H7.out,H8.out])
    obtain ⟨y3,y4⟩:=zja.1 H3
    obtain ⟨y5,y6⟩:=zja.1 H4
    clear hat
    go_wp2_with fail
    go_quiet ((first | (go_at_call 56;exact zqh (zqx _ _)) | (go_at_call 58;exact zqh (zxf _ _))))
    clear h3'
    go_wp2_with fail
    have HK2 : Hid (∀ {n : Nat} w2,Above ((wr.alloc (.cells #[.int .i64 cs[k].Id,.int .i64 cs[k].Size,.int .i64 cs[k].Local,.int .i64 cs[k].Remote,.int .i64 cs[k].Base,.int .i64 cs[k].Ppm,.int .i64 cs[k].Score] 103)).drewN n).drew w2 → (w2.heap[wr.heap.size]? = some (.cells #[.int .i64 cs[k].Id,.int .i64 cs[k].Size,.int .i64 cs[k].Local,.int .i64 cs[k].Remote,.int .i64 cs[k].Base,.int .i64 cs[k].Ppm,.int .i64 cs[k].Score] 103 (0,0))∧w2.heap[w.heap.size]? = some (.cells #[.int .i64 bt,.int .i64 bn,.int .i64 bw,.slice (some ⟨b,off,none⟩) cs.length p1,.slice A2 hs.length p2,.slice A3 os.length p3] 39 (0,0)))∧Below w.heap.size w w2):=hd_ (fun w2 hw2 => ⟨⟨(hw2.block wr.heap.size (by simp)).trans (zxz (zxs (zqi rfl))),(hw2.block w.heap.size (by simp;omega)).trans (zxz (zxs (zqd ezz2 EB.out)))⟩,bl_⟩)
    have HK : Hid (∀ {n : Nat} w2,Above ((wr.alloc (.cells #[.int .i64 cs[k].Id,.int .i64 cs[k].Size,.int .i64 cs[k].Local,.int .i64 cs[k].Remote,.int .i64 cs[k].Base,.int .i64 cs[k].Ppm,.int .i64 cs[k].Score] 103)).drewN n).drew w2 → w2.cell? ⟨wr.heap.size,0,none⟩ = some (.int .i64 cs[k].Id)∧w2.cell? ⟨wr.heap.size,1,none⟩ = some (.int .i64 cs[k].Size)∧w2.cell? ⟨wr.heap.size,2,none⟩ = some (.int .i64 cs[k].Local)∧w2.cell? ⟨wr.heap.size,3,none⟩ = some (.int .i64 cs[k].Remote)∧w2.cell? ⟨wr.heap.size,4,none⟩ = some (.int .i64 cs[k].Base)∧w2.cell? ⟨wr.heap.size,5,none⟩ = some (.int .i64 cs[k].Ppm)∧w2.cell? ⟨wr.heap.size,6,none⟩ = some (.int .i64 cs[k].Score)∧w2.cell? ⟨w.heap.size,0,none⟩ = some (.int .i64 bt)∧w2.cell? ⟨w.heap.size,1,none⟩ = some (.int .i64 bn)∧w2.cell? ⟨w.heap.size,2,none⟩ = some (.int .i64 bw)∧w2.cell? ⟨w.heap.size,3,none⟩ = some (.slice (some ⟨b,off,none⟩) cs.length p1)∧w2.cell? ⟨w.heap.size,4,none⟩ = some (.slice A2 hs.length p2)∧w2.cell? ⟨w.heap.size,5,none⟩ = some (.slice A3 os.length p3)):=hd_ (fun w2 hw2 => by
     obtain ⟨⟨q1,q2⟩,_⟩:=HK2.out w2 hw2
     exact ⟨zqc q1 0,zqc q1 1,zqc q1 2,zqc q1 3,zqc q1 4,zqc q1 5,zqc q1 6,zqc q2 0,zqc q2 1,zqc q2 2,zqc q2 3,zqc q2 4,zqc q2 5⟩)
    refine zxb (by kernel_rfl) (by kernel_rfl) ?_
    repeat (first | (refine zqk rfl ?_;intro K hK;go_simp;refine hK _ ?_;clear hK K) | (refine zqj ?_ rfl ?_ ?_;rotate_left;(focus (intro w2 hw2;obtain ⟨k0,k1,k2,k3,k4,k5,k6,v0,v1,v2,v3,v4,v5⟩:=HK.out w2 hw2;go_simp;rfl));intro K hK;go_simp;refine hK _ ?_;clear hK K))
    refine zqv 56 #[.int .i64 cs[k].Size] (.bool false) rfl (fun w2 hw2 => by go_simp) (fun w2 hw2 => (zqx _ _).mono (fun e w3 hh => ⟨hh.1.trans (by rw [H8.out]),by rw [← hh.2];exact Below.refl _ _⟩)) ?_
    intro K hK;go_simp;refine hK _ ?_;clear hK K
    repeat (first | (refine zqk rfl ?_;intro K hK;go_simp;refine hK _ ?_;clear hK K) | (refine zqj ?_ rfl ?_ ?_;rotate_left;(focus (intro w2 hw2;obtain ⟨k0,k1,k2,k3,k4,k5,k6,v0,v1,v2,v3,v4,v5⟩:=HK.out w2 hw2;go_simp;rfl));intro K hK;go_simp;refine hK _ ?_;clear hK K))
    refine zxh ?_
    intro w10 hb10
    obtain ⟨⟨_,mh⟩,hbw10⟩:=HK2.out w10 hb10
    have MH:=hd_ mh
    clear mh HK hb10
    go_wp2_with fail
    go_ret
    exact ⟨zqf (zxe hlt HBAD.out).symm,bl_⟩
   have H8:=hd_ t8
   cases t9 : (cs[k].Local + cs[k].Remote + OUT + IN != cs[k].Size)
   ·
    skip
    have HGOOD:=hd_ (show chanOk cs hs os k = true by rw [hat];simp [t1,t1b,H3.out,H4.out,H5.out,t6,t6b,H7.out,H8.out,t9])
    obtain ⟨y3,y4⟩:=zja.1 H3
    obtain ⟨y5,y6⟩:=zja.1 H4
    clear hat
    go_wp2_with fail
    go_quiet ((first | (go_at_call 56;exact zqh (zqx _ _)) | (go_at_call 58;exact zqh (zxf _ _))))
    clear h3'
    go_wp2_with fail
    have HK2 : Hid (∀ {n : Nat} w2,Above ((wr.alloc (.cells #[.int .i64 cs[k].Id,.int .i64 cs[k].Size,.int .i64 cs[k].Local,.int .i64 cs[k].Remote,.int .i64 cs[k].Base,.int .i64 cs[k].Ppm,.int .i64 cs[k].Score] 103)).drewN n).drew w2 → (w2.heap[wr.heap.size]? = some (.cells #[.int .i64 cs[k].Id,.int .i64 cs[k].Size,.int .i64 cs[k].Local,.int .i64 cs[k].Remote,.int .i64 cs[k].Base,.int .i64 cs[k].Ppm,.int .i64 cs[k].Score] 103 (0,0))∧w2.heap[w.heap.size]? = some (.cells #[.int .i64 bt,.int .i64 bn,.int .i64 bw,.slice (some ⟨b,off,none⟩) cs.length p1,.slice A2 hs.length p2,.slice A3 os.length p3] 39 (0,0)))∧Below w.heap.size w w2):=hd_ (fun w2 hw2 => ⟨⟨(hw2.block wr.heap.size (by simp)).trans (zxz (zxs (zqi rfl))),(hw2.block w.heap.size (by simp;omega)).trans (zxz (zxs (zqd ezz2 EB.out)))⟩,bl_⟩)
    have HK : Hid (∀ {n : Nat} w2,Above ((wr.alloc (.cells #[.int .i64 cs[k].Id,.int .i64 cs[k].Size,.int .i64 cs[k].Local,.int .i64 cs[k].Remote,.int .i64 cs[k].Base,.int .i64 cs[k].Ppm,.int .i64 cs[k].Score] 103)).drewN n).drew w2 → w2.cell? ⟨wr.heap.size,0,none⟩ = some (.int .i64 cs[k].Id)∧w2.cell? ⟨wr.heap.size,1,none⟩ = some (.int .i64 cs[k].Size)∧w2.cell? ⟨wr.heap.size,2,none⟩ = some (.int .i64 cs[k].Local)∧w2.cell? ⟨wr.heap.size,3,none⟩ = some (.int .i64 cs[k].Remote)∧w2.cell? ⟨wr.heap.size,4,none⟩ = some (.int .i64 cs[k].Base)∧w2.cell? ⟨wr.heap.size,5,none⟩ = some (.int .i64 cs[k].Ppm)∧w2.cell? ⟨wr.heap.size,6,none⟩ = some (.int .i64 cs[k].Score)∧w2.cell? ⟨w.heap.size,0,none⟩ = some (.int .i64 bt)∧w2.cell? ⟨w.heap.size,1,none⟩ = some (.int .i64 bn)∧w2.cell? ⟨w.heap.size,2,none⟩ = some (.int .i64 bw)∧w2.cell? ⟨w.heap.size,3,none⟩ = some (.slice (some ⟨b,off,none⟩) cs.length p1)∧w2.cell? ⟨w.heap.size,4,none⟩ = some (.slice A2 hs.length p2)∧w2.cell? ⟨w.heap.size,5,none⟩ = some (.slice A3 os.length p3)):=hd_ (fun w2 hw2 => by
     obtain ⟨⟨q1,q2⟩,_⟩:=HK2.out w2 hw2
     exact ⟨zqc q1 0,zqc q1 1,zqc q1 2,zqc q1 3,zqc q1 4,zqc q1 5,zqc q1 6,zqc q2 0,zqc q2 1,zqc q2 2,zqc q2 3,zqc q2 4,zqc q2 5⟩)
    have s1 : IntKind.i64.wrap (cs[k].Local + cs[k].Remote) = cs[k].Local + cs[k].Remote:=IntWalk.i64_in _ ⟨by omega,by omega⟩
    have s2 : IntKind.i64.wrap (cs[k].Local + cs[k].Remote + OUT) = cs[k].Local + cs[k].Remote + OUT:=IntWalk.i64_in _ ⟨by omega,by omega⟩
    have s3 : IntKind.i64.wrap (cs[k].Local + cs[k].Remote + OUT + IN) = cs[k].Local + cs[k].Remote + OUT + IN:=IntWalk.i64_in _ ⟨by omega,by omega⟩
    refine zxb (by kernel_rfl) (by kernel_rfl) ?_
    repeat (first | (refine zqk rfl ?_;intro K hK;go_simp;refine hK _ ?_;clear hK K) | (refine zqj ?_ rfl ?_ ?_;rotate_left;(focus (intro w2 hw2;obtain ⟨k0,k1,k2,k3,k4,k5,k6,v0,v1,v2,v3,v4,v5⟩:=HK.out w2 hw2;go_simp;rfl));intro K hK;go_simp;refine hK _ ?_;clear hK K))
    refine zqv 56 #[.int .i64 cs[k].Size] (.bool true) rfl (fun w2 hw2 => by go_simp) (fun w2 hw2 => (zqx _ _).mono (fun e w3 hh => ⟨hh.1.trans (by rw [H8.out]),by rw [← hh.2];exact Below.refl _ _⟩)) ?_
    intro K hK;go_simp;refine hK _ ?_;clear hK K
    repeat (first | (refine zqk rfl ?_;intro K hK;go_simp;refine hK _ ?_;clear hK K) | (refine zqj ?_ rfl ?_ ?_;rotate_left;(focus (intro w2 hw2;obtain ⟨k0,k1,k2,k3,k4,k5,k6,v0,v1,v2,v3,v4,v5⟩:=HK.out w2 hw2;go_simp;rfl));intro K hK;go_simp;refine hK _ ?_;clear hK K))
    refine zqv 59 #[.agg #[.int .i64 bt,.int .i64 bn,.int .i64 bw,.slice (some ⟨b,off,none⟩) cs.length p1,.slice A2 hs.length p2,.slice A3 os.length p3],.int .i64 cs[k].Id] (.int .i64 OUT) rfl (fun w2 hw2 => by go_simp) (fun w2 hw2 => ((HTR.out w2 ((HR.out.below (HK2.out w2 hw2).2).more (by have:=hw2.size;simp at this;omega))).1).mono (fun e w3 hh => hh)) ?_
    intro K hK;go_simp;refine hK _ ?_;clear hK K
    repeat (first | (refine zqk rfl ?_;intro K hK;go_simp;refine hK _ ?_;clear hK K) | (refine zqj ?_ rfl ?_ ?_;rotate_left;(focus (intro w2 hw2;obtain ⟨k0,k1,k2,k3,k4,k5,k6,v0,v1,v2,v3,v4,v5⟩:=HK.out w2 hw2;go_simp;rfl));intro K hK;go_simp;refine hK _ ?_;clear hK K))
    refine zqv 60 #[.agg #[.int .i64 bt,.int .i64 bn,.int .i64 bw,.slice (some ⟨b,off,none⟩) cs.length p1,.slice A2 hs.length p2,.slice A3 os.length p3],.int .i64 cs[k].Id] (.int .i64 IN) rfl (fun w2 hw2 => by go_simp) (fun w2 hw2 => ((HTR.out w2 ((HR.out.below (HK2.out w2 hw2).2).more (by have:=hw2.size;simp at this;omega))).2).mono (fun e w3 hh => hh)) ?_
    intro K hK;go_simp;refine hK _ ?_;clear hK K
    repeat (first | (refine zqk rfl ?_;intro K hK;go_simp;refine hK _ ?_;clear hK K) | (refine zqj ?_ rfl ?_ ?_;rotate_left;(focus (intro w2 hw2;obtain ⟨k0,k1,k2,k3,k4,k5,k6,v0,v1,v2,v3,v4,v5⟩:=HK.out w2 hw2;go_simp;rfl));intro K hK;go_simp;refine hK _ ?_;clear hK K))
    refine zxh ?_
    intro w10 hb10
    obtain ⟨⟨_,mh⟩,hbw10⟩:=HK2.out w10 hb10
    have MH:=hd_ mh
    clear mh HK hb10 s1 s2 s3
    go_wp2_with fail
    go_roundw
    case rel => exact ⟨k + 1,by omega,by go_num,hd_ (by rw [zjs,HEV.out,HGOOD.out];rfl),MH.out,bl_⟩
    case measure => simp [intOf];omega
   skip
   have HBAD:=hd_ (show chanOk cs hs os k = false by rw [hat];simp [t1,t1b,H3.out,H4.out,H5.out,t6,t6b,H7.out,H8.out,t9])
   obtain ⟨y3,y4⟩:=zja.1 H3
   obtain ⟨y5,y6⟩:=zja.1 H4
   clear hat
   go_wp2_with fail
   go_quiet ((first | (go_at_call 56;exact zqh (zqx _ _)) | (go_at_call 58;exact zqh (zxf _ _))))
   clear h3'
   go_wp2_with fail
   have HK2 : Hid (∀ {n : Nat} w2,Above ((wr.alloc (.cells #[.int .i64 cs[k].Id,.int .i64 cs[k].Size,.int .i64 cs[k].Local,.int .i64 cs[k].Remote,.int .i64 cs[k].Base,.int .i64 cs[k].Ppm,.int .i64 cs[k].Score] 103)).drewN n).drew w2 → (w2.heap[wr.heap.size]? = some (.cells #[.int .i64 cs[k].Id,.int .i64 cs[k].Size,.int .i64 cs[k].Local,.int .i64 cs[k].Remote,.int .i64 cs[k].Base,.int .i64 cs[k].Ppm,.int .i64 cs[k].Score] 103 (0,0))∧w2.heap[w.heap.size]? = some (.cells #[.int .i64 bt,.int .i64 bn,.int .i64 bw,.slice (some ⟨b,off,none⟩) cs.length p1,.slice A2 hs.length p2,.slice A3 os.length p3] 39 (0,0)))∧Below w.heap.size w w2):=hd_ (fun w2 hw2 => ⟨⟨(hw2.block wr.heap.size (by simp)).trans (zxz (zxs (zqi rfl))),(hw2.block w.heap.size (by simp;omega)).trans (zxz (zxs (zqd ezz2 EB.out)))⟩,bl_⟩)
   have HK : Hid (∀ {n : Nat} w2,Above ((wr.alloc (.cells #[.int .i64 cs[k].Id,.int .i64 cs[k].Size,.int .i64 cs[k].Local,.int .i64 cs[k].Remote,.int .i64 cs[k].Base,.int .i64 cs[k].Ppm,.int .i64 cs[k].Score] 103)).drewN n).drew w2 → w2.cell? ⟨wr.heap.size,0,none⟩ = some (.int .i64 cs[k].Id)∧w2.cell? ⟨wr.heap.size,1,none⟩ = some (.int .i64 cs[k].Size)∧w2.cell? ⟨wr.heap.size,2,none⟩ = some (.int .i64 cs[k].Local)∧w2.cell? ⟨wr.heap.size,3,none⟩ = some (.int .i64 cs[k].Remote)∧w2.cell? ⟨wr.heap.size,4,none⟩ = some (.int .i64 cs[k].Base)∧w2.cell? ⟨wr.heap.size,5,none⟩ = some (.int .i64 cs[k].Ppm)∧w2.cell? ⟨wr.heap.size,6,none⟩ = some (.int .i64 cs[k].Score)∧w2.cell? ⟨w.heap.size,0,none⟩ = some (.int .i64 bt)∧w2.cell? ⟨w.heap.size,1,none⟩ = some (.int .i64 bn)∧w2.cell? ⟨w.heap.size,2,none⟩ = some (.int .i64 bw)∧w2.cell? ⟨w.heap.size,3,none⟩ = some (.slice (some ⟨b,off,none⟩) cs.length p1)∧w2.cell? ⟨w.heap.size,4,none⟩ = some (.slice A2 hs.length p2)∧w2.cell? ⟨w.heap.size,5,none⟩ = some (.slice A3 os.length p3)):=hd_ (fun w2 hw2 => by
    obtain ⟨⟨q1,q2⟩,_⟩:=HK2.out w2 hw2
    exact ⟨zqc q1 0,zqc q1 1,zqc q1 2,zqc q1 3,zqc q1 4,zqc q1 5,zqc q1 6,zqc q2 0,zqc q2 1,zqc q2 2,zqc q2 3,zqc q2 4,zqc q2 5⟩)
   have s1 : IntKind.i64.wrap (cs[k].Local + cs[k].Remote) = cs[k].Local + cs[k].Remote:=IntWalk.i64_in _ ⟨by omega,by omega⟩
   have s2 : IntKind.i64.wrap (cs[k].Local + cs[k].Remote + OUT) = cs[k].Local + cs[k].Remote + OUT:=IntWalk.i64_in _ ⟨by omega,by omega⟩
   have s3 : IntKind.i64.wrap (cs[k].Local + cs[k].Remote + OUT + IN) = cs[k].Local + cs[k].Remote + OUT + IN:=IntWalk.i64_in _ ⟨by omega,by omega⟩
   refine zxb (by kernel_rfl) (by kernel_rfl) ?_
   repeat (first | (refine zqk rfl ?_;intro K hK;go_simp;refine hK _ ?_;clear hK K) | (refine zqj ?_ rfl ?_ ?_;rotate_left;(focus (intro w2 hw2;obtain ⟨k0,k1,k2,k3,k4,k5,k6,v0,v1,v2,v3,v4,v5⟩:=HK.out w2 hw2;go_simp;rfl));intro K hK;go_simp;refine hK _ ?_;clear hK K))
   refine zqv 56 #[.int .i64 cs[k].Size] (.bool true) rfl (fun w2 hw2 => by go_simp) (fun w2 hw2 => (zqx _ _).mono (fun e w3 hh => ⟨hh.1.trans (by rw [H8.out]),by rw [← hh.2];exact Below.refl _ _⟩)) ?_
   intro K hK;go_simp;refine hK _ ?_;clear hK K
   repeat (first | (refine zqk rfl ?_;intro K hK;go_simp;refine hK _ ?_;clear hK K) | (refine zqj ?_ rfl ?_ ?_;rotate_left;(focus (intro w2 hw2;obtain ⟨k0,k1,k2,k3,k4,k5,k6,v0,v1,v2,v3,v4,v5⟩:=HK.out w2 hw2;go_simp;rfl));intro K hK;go_simp;refine hK _ ?_;clear hK K))
   refine zqv 59 #[.agg #[.int .i64 bt,.int .i64 bn,.int .i64 bw,.slice (some ⟨b,off,none⟩) cs.length p1,.slice A2 hs.length p2,.slice A3 os.length p3],.int .i64 cs[k].Id] (.int .i64 OUT) rfl (fun w2 hw2 => by go_simp) (fun w2 hw2 => ((HTR.out w2 ((HR.out.below (HK2.out w2 hw2).2).more (by have:=hw2.size;simp at this;omega))).1).mono (fun e w3 hh => hh)) ?_
   intro K hK;go_simp;refine hK _ ?_;clear hK K
   repeat (first | (refine zqk rfl ?_;intro K hK;go_simp;refine hK _ ?_;clear hK K) | (refine zqj ?_ rfl ?_ ?_;rotate_left;(focus (intro w2 hw2;obtain ⟨k0,k1,k2,k3,k4,k5,k6,v0,v1,v2,v3,v4,v5⟩:=HK.out w2 hw2;go_simp;rfl));intro K hK;go_simp;refine hK _ ?_;clear hK K))
   refine zqv 60 #[.agg #[.int .i64 bt,.int .i64 bn,.int .i64 bw,.slice (some ⟨b,off,none⟩) cs.length p1,.slice A2 hs.length p2,.slice A3 os.length p3],.int .i64 cs[k].Id] (.int .i64 IN) rfl (fun w2 hw2 => by go_simp) (fun w2 hw2 => ((HTR.out w2 ((HR.out.below (HK2.out w2 hw2).2).more (by have:=hw2.size;simp at this;omega))).2).mono (fun e w3 hh => hh)) ?_
   intro K hK;go_simp;refine hK _ ?_;clear hK K
   repeat (first | (refine zqk rfl ?_;intro K hK;go_simp;refine hK _ ?_;clear hK K) | (refine zqj ?_ rfl ?_ ?_;rotate_left;(focus (intro w2 hw2;obtain ⟨k0,k1,k2,k3,k4,k5,k6,v0,v1,v2,v3,v4,v5⟩:=HK.out w2 hw2;go_simp;rfl));intro K hK;go_simp;refine hK _ ?_;clear hK K))
   refine zxh ?_
   intro w10 hb10
   obtain ⟨⟨_,mh⟩,hbw10⟩:=HK2.out w10 hb10
   have MH:=hd_ mh
   clear mh HK hb10 s1 s2 s3
   go_wp2_with fail
   go_ret
   exact ⟨zqf (zxe hlt HBAD.out).symm,bl_⟩
  obtain ⟨j,hkj⟩ : ∃ j,k = j + 1:=⟨k - 1,by omega⟩
  have hj : j < cs.length:=by omega
  have hat : chanOk cs hs os k = (chB hs os cs[k] && decide (cs[j].Id < cs[k].Id)):=by subst hkj;exact zvb hlt hj
  rw [hch,next_le cs[j].Id cs[k].Id] at hat
  obtain ⟨b',off',e',_,d0,d1,d2,d3,d4,d5,d6⟩:=Chan.rd (HCH.out.below hbw) hj
  simp only [Option.some.injEq,Addr.mk.injEq,and_true] at e'
  obtain ⟨rfl,rfl⟩:=e'
  have h3' : decide ((0 : Int) < (k : Int)) = true:=decide_eq_true (by omega)
  have h3'' : decide (0 < k) = true:=decide_eq_true (by omega)
  have i1 : (0 : Int) ≤ (j : Int):=by omega
  have i2 : (j : Int) < (cs.length : Int):=by omega
  have e1' : IntKind.i64.wrap ((k : Int) - 1) = (j : Int):=by rw [hkj];exact (IntWalk.i64_in _ ⟨by omega,by omega⟩).trans (by omega)
  clear hkj hk0 d1 d2 d3 d4 d5 d6
  clear hch
  cases t1 : decide (cs[k].Id < 1)
  rotate_left
  ·
   skip
   have HBAD:=hd_ (show chanOk cs hs os k = false by rw [hat];simp [t1])
   clear hat
   go_wp2_with fail
   go_quiet ((first | (go_at_call 56;exact zqh (zqx _ _)) | (go_at_call 58;exact zqh (zxf _ _))))
   clear d0 e1'
   go_wp2_with fail
   go_ret
   exact ⟨zqf (zxe hlt HBAD.out).symm,bl_⟩
  skip
  cases t1b : decide (99 < cs[k].Id)
  rotate_left
  ·
   skip
   have HBAD:=hd_ (show chanOk cs hs os k = false by rw [hat];simp [t1,t1b])
   clear hat
   go_wp2_with fail
   go_quiet ((first | (go_at_call 56;exact zqh (zqx _ _)) | (go_at_call 58;exact zqh (zxf _ _))))
   clear d0 e1'
   go_wp2_with fail
   go_ret
   exact ⟨zqf (zxe hlt HBAD.out).symm,bl_⟩
  skip
  cases t2 : decide (cs[k].Id ≤ cs[j].Id)
  rotate_left
  ·
   skip
   have HBAD:=hd_ (show chanOk cs hs os k = false by rw [hat];simp [t1,t1b,t2])
   clear hat
   go_wp2_with fail
   go_quiet ((first | (go_at_call 56;exact zqh (zqx _ _)) | (go_at_call 58;exact zqh (zxf _ _))))
   clear d0 e1'
   go_wp2_with fail
   go_ret
   exact ⟨zqf (zxe hlt HBAD.out).symm,bl_⟩
  skip
  cases t3 : amtB cs[k].Local
  ·
   have H3:=hd_ t3
   have HBAD:=hd_ (show chanOk cs hs os k = false by rw [hat];simp [t1,t1b,t2,H3.out])
   clear hat
   go_wp2_with fail
   go_quiet ((first | (go_at_call 56;exact zqh (zqx _ _)) | (go_at_call 58;exact zqh (zxf _ _))))
   clear d0 e1'
   go_wp2_with fail
   go_ret
   exact ⟨zqf (zxe hlt HBAD.out).symm,bl_⟩
  have H3:=hd_ t3
  cases t4 : amtB cs[k].Remote
  ·
   have H4:=hd_ t4
   have HBAD:=hd_ (show chanOk cs hs os k = false by rw [hat];simp [t1,t1b,t2,H3.out,H4.out])
   clear hat
   go_wp2_with fail
   go_quiet ((first | (go_at_call 56;exact zqh (zqx _ _)) | (go_at_call 58;exact zqh (zxf _ _))))
   clear d0 e1'
   go_wp2_with fail
   go_ret
   exact ⟨zqf (zxe hlt HBAD.out).symm,bl_⟩
  have H4:=hd_ t4
  cases t5 : amtB cs[k].Base
  ·
   have H5:=hd_ t5
   have HBAD:=hd_ (show chanOk cs hs os k = false by rw [hat];simp [t1,t1b,t2,H3.out,H4.out,H5.out])
   clear hat
   go_wp2_with fail
   go_quiet ((first | (go_at_call 56;exact zqh (zqx _ _)) | (go_at_call 58;exact zqh (zxf _ _))))
   clear d0 e1'
   go_wp2_with fail
   go_ret
   exact ⟨zqf (zxe hlt HBAD.out).symm,bl_⟩
  have H5:=hd_ t5
  cases t6 : decide (cs[k].Ppm < 0)
  rotate_left
  ·
   skip
   have HBAD:=hd_ (show chanOk cs hs os k = false by rw [hat];simp [t1,t1b,t2,H3.out,H4.out,H5.out,t6])
   clear hat
   go_wp2_with fail
   go_quiet ((first | (go_at_call 56;exact zqh (zqx _ _)) | (go_at_call 58;exact zqh (zxf _ _))))
   clear d0 e1'
   go_wp2_with fail
   go_ret
   exact ⟨zqf (zxe hlt HBAD.out).symm,bl_⟩
  skip
  cases t6b : decide (1000000 < cs[k].Ppm)
  rotate_left
  ·
   skip
   have HBAD:=hd_ (show chanOk cs hs os k = false by rw [hat];simp [t1,t1b,t2,H3.out,H4.out,H5.out,t6,t6b])
   clear hat
   go_wp2_with fail
   go_quiet ((first | (go_at_call 56;exact zqh (zqx _ _)) | (go_at_call 58;exact zqh (zxf _ _))))
   clear d0 e1'
   go_wp2_with fail
   go_ret
   exact ⟨zqf (zxe hlt HBAD.out).symm,bl_⟩
  skip
  cases t7 : inB cs[k].Score (-100) 100
  ·
   have H7:=hd_ t7
   have HBAD:=hd_ (show chanOk cs hs os k = false by rw [hat];simp [t1,t1b,t2,H3.out,H4.out,H5.out,t6,t6b,H7.out])
   clear hat
   go_wp2_with fail
   go_quiet ((first | (go_at_call 56;exact zqh (zqx _ _)) | (go_at_call 58;exact zqh (zxf _ _))))
   clear d0 e1'
   go_wp2_with fail
   go_ret
   exact ⟨zqf (zxe hlt HBAD.out).symm,bl_⟩
  have H7:=hd_ t7
  cases t8 : amtB cs[k].Size
  ·
   have H8:=hd_ t8
   have HBAD:=hd_ (show chanOk cs hs os k = false by rw [hat];simp [t1,t1b,t2,H3.out,H4.out,H5.out,t6,t6b,H7.out,H8.out])
   obtain ⟨y3,y4⟩:=zja.1 H3
   obtain ⟨y5,y6⟩:=zja.1 H4
   clear hat
   go_wp2_with fail
   go_quiet ((first | (go_at_call 56;exact zqh (zqx _ _)) | (go_at_call 58;exact zqh (zxf _ _))))
   clear d0 e1'
   go_wp2_with fail
   have HK2 : Hid (∀ {n : Nat} w2,Above ((wr.alloc (.cells #[.int .i64 cs[k].Id,.int .i64 cs[k].Size,.int .i64 cs[k].Local,.int .i64 cs[k].Remote,.int .i64 cs[k].Base,.int .i64 cs[k].Ppm,.int .i64 cs[k].Score] 103)).drewN n).drew w2 → (w2.heap[wr.heap.size]? = some (.cells #[.int .i64 cs[k].Id,.int .i64 cs[k].Size,.int .i64 cs[k].Local,.int .i64 cs[k].Remote,.int .i64 cs[k].Base,.int .i64 cs[k].Ppm,.int .i64 cs[k].Score] 103 (0,0))∧w2.heap[w.heap.size]? = some (.cells #[.int .i64 bt,.int .i64 bn,.int .i64 bw,.slice (some ⟨b,off,none⟩) cs.length p1,.slice A2 hs.length p2,.slice A3 os.length p3] 39 (0,0)))∧Below w.heap.size w w2):=hd_ (fun w2 hw2 => ⟨⟨(hw2.block wr.heap.size (by simp)).trans (zxz (zxs (zqi rfl))),(hw2.block w.heap.size (by simp;omega)).trans (zxz (zxs (zqd ezz2 EB.out)))⟩,bl_⟩)
   have HK : Hid (∀ {n : Nat} w2,Above ((wr.alloc (.cells #[.int .i64 cs[k].Id,.int .i64 cs[k].Size,.int .i64 cs[k].Local,.int .i64 cs[k].Remote,.int .i64 cs[k].Base,.int .i64 cs[k].Ppm,.int .i64 cs[k].Score] 103)).drewN n).drew w2 → w2.cell? ⟨wr.heap.size,0,none⟩ = some (.int .i64 cs[k].Id)∧w2.cell? ⟨wr.heap.size,1,none⟩ = some (.int .i64 cs[k].Size)∧w2.cell? ⟨wr.heap.size,2,none⟩ = some (.int .i64 cs[k].Local)∧w2.cell? ⟨wr.heap.size,3,none⟩ = some (.int .i64 cs[k].Remote)∧w2.cell? ⟨wr.heap.size,4,none⟩ = some (.int .i64 cs[k].Base)∧w2.cell? ⟨wr.heap.size,5,none⟩ = some (.int .i64 cs[k].Ppm)∧w2.cell? ⟨wr.heap.size,6,none⟩ = some (.int .i64 cs[k].Score)∧w2.cell? ⟨w.heap.size,0,none⟩ = some (.int .i64 bt)∧w2.cell? ⟨w.heap.size,1,none⟩ = some (.int .i64 bn)∧w2.cell? ⟨w.heap.size,2,none⟩ = some (.int .i64 bw)∧w2.cell? ⟨w.heap.size,3,none⟩ = some (.slice (some ⟨b,off,none⟩) cs.length p1)∧w2.cell? ⟨w.heap.size,4,none⟩ = some (.slice A2 hs.length p2)∧w2.cell? ⟨w.heap.size,5,none⟩ = some (.slice A3 os.length p3)):=hd_ (fun w2 hw2 => by
    obtain ⟨⟨q1,q2⟩,_⟩:=HK2.out w2 hw2
    exact ⟨zqc q1 0,zqc q1 1,zqc q1 2,zqc q1 3,zqc q1 4,zqc q1 5,zqc q1 6,zqc q2 0,zqc q2 1,zqc q2 2,zqc q2 3,zqc q2 4,zqc q2 5⟩)
   refine zxb (by kernel_rfl) (by kernel_rfl) ?_
   repeat (first | (refine zqk rfl ?_;intro K hK;go_simp;refine hK _ ?_;clear hK K) | (refine zqj ?_ rfl ?_ ?_;rotate_left;(focus (intro w2 hw2;obtain ⟨k0,k1,k2,k3,k4,k5,k6,v0,v1,v2,v3,v4,v5⟩:=HK.out w2 hw2;go_simp;rfl));intro K hK;go_simp;refine hK _ ?_;clear hK K))
   refine zqv 56 #[.int .i64 cs[k].Size] (.bool false) rfl (fun w2 hw2 => by go_simp) (fun w2 hw2 => (zqx _ _).mono (fun e w3 hh => ⟨hh.1.trans (by rw [H8.out]),by rw [← hh.2];exact Below.refl _ _⟩)) ?_
   intro K hK;go_simp;refine hK _ ?_;clear hK K
   repeat (first | (refine zqk rfl ?_;intro K hK;go_simp;refine hK _ ?_;clear hK K) | (refine zqj ?_ rfl ?_ ?_;rotate_left;(focus (intro w2 hw2;obtain ⟨k0,k1,k2,k3,k4,k5,k6,v0,v1,v2,v3,v4,v5⟩:=HK.out w2 hw2;go_simp;rfl));intro K hK;go_simp;refine hK _ ?_;clear hK K))
   refine zxh ?_
   intro w10 hb10
   obtain ⟨⟨_,mh⟩,hbw10⟩:=HK2.out w10 hb10
   have MH:=hd_ mh
   clear mh HK hb10
   go_wp2_with fail
   go_ret
   exact ⟨zqf (zxe hlt HBAD.out).symm,bl_⟩
  have H8:=hd_ t8
  cases t9 : (cs[k].Local + cs[k].Remote + OUT + IN != cs[k].Size)
  ·
   skip
   have HGOOD:=hd_ (show chanOk cs hs os k = true by rw [hat];simp [t1,t1b,t2,H3.out,H4.out,H5.out,t6,t6b,H7.out,H8.out,t9])
   obtain ⟨y3,y4⟩:=zja.1 H3
   obtain ⟨y5,y6⟩:=zja.1 H4
   clear hat
   go_wp2_with fail
   go_quiet ((first | (go_at_call 56;exact zqh (zqx _ _)) | (go_at_call 58;exact zqh (zxf _ _))))
   clear d0 e1'
   go_wp2_with fail
   have HK2 : Hid (∀ {n : Nat} w2,Above ((wr.alloc (.cells #[.int .i64 cs[k].Id,.int .i64 cs[k].Size,.int .i64 cs[k].Local,.int .i64 cs[k].Remote,.int .i64 cs[k].Base,.int .i64 cs[k].Ppm,.int .i64 cs[k].Score] 103)).drewN n).drew w2 → (w2.heap[wr.heap.size]? = some (.cells #[.int .i64 cs[k].Id,.int .i64 cs[k].Size,.int .i64 cs[k].Local,.int .i64 cs[k].Remote,.int .i64 cs[k].Base,.int .i64 cs[k].Ppm,.int .i64 cs[k].Score] 103 (0,0))∧w2.heap[w.heap.size]? = some (.cells #[.int .i64 bt,.int .i64 bn,.int .i64 bw,.slice (some ⟨b,off,none⟩) cs.length p1,.slice A2 hs.length p2,.slice A3 os.length p3] 39 (0,0)))∧Below w.heap.size w w2):=hd_ (fun w2 hw2 => ⟨⟨(hw2.block wr.heap.size (by simp)).trans (zxz (zxs (zqi rfl))),(hw2.block w.heap.size (by simp;omega)).trans (zxz (zxs (zqd ezz2 EB.out)))⟩,bl_⟩)
   have HK : Hid (∀ {n : Nat} w2,Above ((wr.alloc (.cells #[.int .i64 cs[k].Id,.int .i64 cs[k].Size,.int .i64 cs[k].Local,.int .i64 cs[k].Remote,.int .i64 cs[k].Base,.int .i64 cs[k].Ppm,.int .i64 cs[k].Score] 103)).drewN n).drew w2 → w2.cell? ⟨wr.heap.size,0,none⟩ = some (.int .i64 cs[k].Id)∧w2.cell? ⟨wr.heap.size,1,none⟩ = some (.int .i64 cs[k].Size)∧w2.cell? ⟨wr.heap.size,2,none⟩ = some (.int .i64 cs[k].Local)∧w2.cell? ⟨wr.heap.size,3,none⟩ = some (.int .i64 cs[k].Remote)∧w2.cell? ⟨wr.heap.size,4,none⟩ = some (.int .i64 cs[k].Base)∧w2.cell? ⟨wr.heap.size,5,none⟩ = some (.int .i64 cs[k].Ppm)∧w2.cell? ⟨wr.heap.size,6,none⟩ = some (.int .i64 cs[k].Score)∧w2.cell? ⟨w.heap.size,0,none⟩ = some (.int .i64 bt)∧w2.cell? ⟨w.heap.size,1,none⟩ = some (.int .i64 bn)∧w2.cell? ⟨w.heap.size,2,none⟩ = some (.int .i64 bw)∧w2.cell? ⟨w.heap.size,3,none⟩ = some (.slice (some ⟨b,off,none⟩) cs.length p1)∧w2.cell? ⟨w.heap.size,4,none⟩ = some (.slice A2 hs.length p2)∧w2.cell? ⟨w.heap.size,5,none⟩ = some (.slice A3 os.length p3)):=hd_ (fun w2 hw2 => by
    obtain ⟨⟨q1,q2⟩,_⟩:=HK2.out w2 hw2
    exact ⟨zqc q1 0,zqc q1 1,zqc q1 2,zqc q1 3,zqc q1 4,zqc q1 5,zqc q1 6,zqc q2 0,zqc q2 1,zqc q2 2,zqc q2 3,zqc q2 4,zqc q2 5⟩)
   have s1 : IntKind.i64.wrap (cs[k].Local + cs[k].Remote) = cs[k].Local + cs[k].Remote:=IntWalk.i64_in _ ⟨by omega,by omega⟩
   have s2 : IntKind.i64.wrap (cs[k].Local + cs[k].Remote + OUT) = cs[k].Local + cs[k].Remote + OUT:=IntWalk.i64_in _ ⟨by omega,by omega⟩
   have s3 : IntKind.i64.wrap (cs[k].Local + cs[k].Remote + OUT + IN) = cs[k].Local + cs[k].Remote + OUT + IN:=IntWalk.i64_in _ ⟨by omega,by omega⟩
   refine zxb (by kernel_rfl) (by kernel_rfl) ?_
   repeat (first | (refine zqk rfl ?_;intro K hK;go_simp;refine hK _ ?_;clear hK K) | (refine zqj ?_ rfl ?_ ?_;rotate_left;(focus (intro w2 hw2;obtain ⟨k0,k1,k2,k3,k4,k5,k6,v0,v1,v2,v3,v4,v5⟩:=HK.out w2 hw2;go_simp;rfl));intro K hK;go_simp;refine hK _ ?_;clear hK K))
   refine zqv 56 #[.int .i64 cs[k].Size] (.bool true) rfl (fun w2 hw2 => by go_simp) (fun w2 hw2 => (zqx _ _).mono (fun e w3 hh => ⟨hh.1.trans (by rw [H8.out]),by rw [← hh.2];exact Below.refl _ _⟩)) ?_
   intro K hK;go_simp;refine hK _ ?_;clear hK K
   repeat (first | (refine zqk rfl ?_;intro K hK;go_simp;refine hK _ ?_;clear hK K) | (refine zqj ?_ rfl ?_ ?_;rotate_left;(focus (intro w2 hw2;obtain ⟨k0,k1,k2,k3,k4,k5,k6,v0,v1,v2,v3,v4,v5⟩:=HK.out w2 hw2;go_simp;rfl));intro K hK;go_simp;refine hK _ ?_;clear hK K))
   refine zqv 59 #[.agg #[.int .i64 bt,.int .i64 bn,.int .i64 bw,.slice (some ⟨b,off,none⟩) cs.length p1,.slice A2 hs.length p2,.slice A3 os.length p3],.int .i64 cs[k].Id] (.int .i64 OUT) rfl (fun w2 hw2 => by go_simp) (fun w2 hw2 => ((HTR.out w2 ((HR.out.below (HK2.out w2 hw2).2).more (by have:=hw2.size;simp at this;omega))).1).mono (fun e w3 hh => hh)) ?_
   intro K hK;go_simp;refine hK _ ?_;clear hK K
   repeat (first | (refine zqk rfl ?_;intro K hK;go_simp;refine hK _ ?_;clear hK K) | (refine zqj ?_ rfl ?_ ?_;rotate_left;(focus (intro w2 hw2;obtain ⟨k0,k1,k2,k3,k4,k5,k6,v0,v1,v2,v3,v4,v5⟩:=HK.out w2 hw2;go_simp;rfl));intro K hK;go_simp;refine hK _ ?_;clear hK K))
   refine zqv 60 #[.agg #[.int .i64 bt,.int .i64 bn,.int .i64 bw,.slice (some ⟨b,off,none⟩) cs.length p1,.slice A2 hs.length p2,.slice A3 os.length p3],.int .i64 cs[k].Id] (.int .i64 IN) rfl (fun w2 hw2 => by go_simp) (fun w2 hw2 => ((HTR.out w2 ((HR.out.below (HK2.out w2 hw2).2).more (by have:=hw2.size;simp at this;omega))).2).mono (fun e w3 hh => hh)) ?_
   intro K hK;go_simp;refine hK _ ?_;clear hK K
   repeat (first | (refine zqk rfl ?_;intro K hK;go_simp;refine hK _ ?_;clear hK K) | (refine zqj ?_ rfl ?_ ?_;rotate_left;(focus (intro w2 hw2;obtain ⟨k0,k1,k2,k3,k4,k5,k6,v0,v1,v2,v3,v4,v5⟩:=HK.out w2 hw2;go_simp;rfl));intro K hK;go_simp;refine hK _ ?_;clear hK K))
   refine zxh ?_
   intro w10 hb10
   obtain ⟨⟨_,mh⟩,hbw10⟩:=HK2.out w10 hb10
   have MH:=hd_ mh
   clear mh HK hb10 s1 s2 s3
   go_wp2_with fail
   go_roundw
   case rel => exact ⟨k + 1,by omega,by go_num,hd_ (by rw [zjs,HEV.out,HGOOD.out];rfl),MH.out,bl_⟩
   case measure => simp [intOf];omega
  skip
  have HBAD:=hd_ (show chanOk cs hs os k = false by rw [hat];simp [t1,t1b,t2,H3.out,H4.out,H5.out,t6,t6b,H7.out,H8.out,t9])
  obtain ⟨y3,y4⟩:=zja.1 H3
  obtain ⟨y5,y6⟩:=zja.1 H4
  clear hat
  go_wp2_with fail
  go_quiet ((first | (go_at_call 56;exact zqh (zqx _ _)) | (go_at_call 58;exact zqh (zxf _ _))))
  clear d0 e1'
  go_wp2_with fail
  have HK2 : Hid (∀ {n : Nat} w2,Above ((wr.alloc (.cells #[.int .i64 cs[k].Id,.int .i64 cs[k].Size,.int .i64 cs[k].Local,.int .i64 cs[k].Remote,.int .i64 cs[k].Base,.int .i64 cs[k].Ppm,.int .i64 cs[k].Score] 103)).drewN n).drew w2 → (w2.heap[wr.heap.size]? = some (.cells #[.int .i64 cs[k].Id,.int .i64 cs[k].Size,.int .i64 cs[k].Local,.int .i64 cs[k].Remote,.int .i64 cs[k].Base,.int .i64 cs[k].Ppm,.int .i64 cs[k].Score] 103 (0,0))∧w2.heap[w.heap.size]? = some (.cells #[.int .i64 bt,.int .i64 bn,.int .i64 bw,.slice (some ⟨b,off,none⟩) cs.length p1,.slice A2 hs.length p2,.slice A3 os.length p3] 39 (0,0)))∧Below w.heap.size w w2):=hd_ (fun w2 hw2 => ⟨⟨(hw2.block wr.heap.size (by simp)).trans (zxz (zxs (zqi rfl))),(hw2.block w.heap.size (by simp;omega)).trans (zxz (zxs (zqd ezz2 EB.out)))⟩,bl_⟩)
  have HK : Hid (∀ {n : Nat} w2,Above ((wr.alloc (.cells #[.int .i64 cs[k].Id,.int .i64 cs[k].Size,.int .i64 cs[k].Local,.int .i64 cs[k].Remote,.int .i64 cs[k].Base,.int .i64 cs[k].Ppm,.int .i64 cs[k].Score] 103)).drewN n).drew w2 → w2.cell? ⟨wr.heap.size,0,none⟩ = some (.int .i64 cs[k].Id)∧w2.cell? ⟨wr.heap.size,1,none⟩ = some (.int .i64 cs[k].Size)∧w2.cell? ⟨wr.heap.size,2,none⟩ = some (.int .i64 cs[k].Local)∧w2.cell? ⟨wr.heap.size,3,none⟩ = some (.int .i64 cs[k].Remote)∧w2.cell? ⟨wr.heap.size,4,none⟩ = some (.int .i64 cs[k].Base)∧w2.cell? ⟨wr.heap.size,5,none⟩ = some (.int .i64 cs[k].Ppm)∧w2.cell? ⟨wr.heap.size,6,none⟩ = some (.int .i64 cs[k].Score)∧w2.cell? ⟨w.heap.size,0,none⟩ = some (.int .i64 bt)∧w2.cell? ⟨w.heap.size,1,none⟩ = some (.int .i64 bn)∧w2.cell? ⟨w.heap.size,2,none⟩ = some (.int .i64 bw)∧w2.cell? ⟨w.heap.size,3,none⟩ = some (.slice (some ⟨b,off,none⟩) cs.length p1)∧w2.cell? ⟨w.heap.size,4,none⟩ = some (.slice A2 hs.length p2)∧w2.cell? ⟨w.heap.size,5,none⟩ = some (.slice A3 os.length p3)):=hd_ (fun w2 hw2 => by
   obtain ⟨⟨q1,q2⟩,_⟩:=HK2.out w2 hw2
   exact ⟨zqc q1 0,zqc q1 1,zqc q1 2,zqc q1 3,zqc q1 4,zqc q1 5,zqc q1 6,zqc q2 0,zqc q2 1,zqc q2 2,zqc q2 3,zqc q2 4,zqc q2 5⟩)
  have s1 : IntKind.i64.wrap (cs[k].Local + cs[k].Remote) = cs[k].Local + cs[k].Remote:=IntWalk.i64_in _ ⟨by omega,by omega⟩
  have s2 : IntKind.i64.wrap (cs[k].Local + cs[k].Remote + OUT) = cs[k].Local + cs[k].Remote + OUT:=IntWalk.i64_in _ ⟨by omega,by omega⟩
  have s3 : IntKind.i64.wrap (cs[k].Local + cs[k].Remote + OUT + IN) = cs[k].Local + cs[k].Remote + OUT + IN:=IntWalk.i64_in _ ⟨by omega,by omega⟩
  refine zxb (by kernel_rfl) (by kernel_rfl) ?_
  repeat (first | (refine zqk rfl ?_;intro K hK;go_simp;refine hK _ ?_;clear hK K) | (refine zqj ?_ rfl ?_ ?_;rotate_left;(focus (intro w2 hw2;obtain ⟨k0,k1,k2,k3,k4,k5,k6,v0,v1,v2,v3,v4,v5⟩:=HK.out w2 hw2;go_simp;rfl));intro K hK;go_simp;refine hK _ ?_;clear hK K))
  refine zqv 56 #[.int .i64 cs[k].Size] (.bool true) rfl (fun w2 hw2 => by go_simp) (fun w2 hw2 => (zqx _ _).mono (fun e w3 hh => ⟨hh.1.trans (by rw [H8.out]),by rw [← hh.2];exact Below.refl _ _⟩)) ?_
  intro K hK;go_simp;refine hK _ ?_;clear hK K
  repeat (first | (refine zqk rfl ?_;intro K hK;go_simp;refine hK _ ?_;clear hK K) | (refine zqj ?_ rfl ?_ ?_;rotate_left;(focus (intro w2 hw2;obtain ⟨k0,k1,k2,k3,k4,k5,k6,v0,v1,v2,v3,v4,v5⟩:=HK.out w2 hw2;go_simp;rfl));intro K hK;go_simp;refine hK _ ?_;clear hK K))
  refine zqv 59 #[.agg #[.int .i64 bt,.int .i64 bn,.int .i64 bw,.slice (some ⟨b,off,none⟩) cs.length p1,.slice A2 hs.length p2,.slice A3 os.length p3],.int .i64 cs[k].Id] (.int .i64 OUT) rfl (fun w2 hw2 => by go_simp) (fun w2 hw2 => ((HTR.out w2 ((HR.out.below (HK2.out w2 hw2).2).more (by have:=hw2.size;simp at this;omega))).1).mono (fun e w3 hh => hh)) ?_
  intro K hK;go_simp;refine hK _ ?_;clear hK K
  repeat (first | (refine zqk rfl ?_;intro K hK;go_simp;refine hK _ ?_;clear hK K) | (refine zqj ?_ rfl ?_ ?_;rotate_left;(focus (intro w2 hw2;obtain ⟨k0,k1,k2,k3,k4,k5,k6,v0,v1,v2,v3,v4,v5⟩:=HK.out w2 hw2;go_simp;rfl));intro K hK;go_simp;refine hK _ ?_;clear hK K))
  refine zqv 60 #[.agg #[.int .i64 bt,.int .i64 bn,.int .i64 bw,.slice (some ⟨b,off,none⟩) cs.length p1,.slice A2 hs.length p2,.slice A3 os.length p3],.int .i64 cs[k].Id] (.int .i64 IN) rfl (fun w2 hw2 => by go_simp) (fun w2 hw2 => ((HTR.out w2 ((HR.out.below (HK2.out w2 hw2).2).more (by have:=hw2.size;simp at this;omega))).2).mono (fun e w3 hh => hh)) ?_
  intro K hK;go_simp;refine hK _ ?_;clear hK K
  repeat (first | (refine zqk rfl ?_;intro K hK;go_simp;refine hK _ ?_;clear hK K) | (refine zqj ?_ rfl ?_ ?_;rotate_left;(focus (intro w2 hw2;obtain ⟨k0,k1,k2,k3,k4,k5,k6,v0,v1,v2,v3,v4,v5⟩:=HK.out w2 hw2;go_simp;rfl));intro K hK;go_simp;refine hK _ ?_;clear hK K))
  refine zxh ?_
  intro w10 hb10
  obtain ⟨⟨_,mh⟩,hbw10⟩:=HK2.out w10 hb10
  have MH:=hd_ mh
  clear mh HK hb10 s1 s2 s3
  go_wp2_with fail
  go_ret
  exact ⟨zqf (zxe hlt HBAD.out).symm,bl_⟩
end Go.Proofs.YtdbmkfmenfcbiaaGreat
