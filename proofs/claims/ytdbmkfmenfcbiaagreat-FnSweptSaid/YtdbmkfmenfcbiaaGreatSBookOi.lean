/- Books: BookOk: the walk of the program. -/
import Derived.Test.YtdbmkfmenfcbiaaGreatRows
import Derived.Test.YtdbmkfmenfcbiaaGreatSM2
import Derived.IntWalk
import Derived.Deep.QuietTactic
import Derived.BigQuiet
namespace Go.Proofs.YtdbmkfmenfcbiaaGreat
open Go.RowKit
set_option maxRecDepth 100000 in
set_option maxHeartbeats 16000000 in
theorem zjq (bt bn bw : Int) (cs : List Chan) (hs : List Htlc) (os : List Circle) (A1 A2 A3 : Option Addr) (p1 p2 p3 : Nat) (w : World) (hlc : cs.length ≤ 1048576) (hlh : hs.length ≤ 1048576) (hlo : os.length ≤ 1048576) (hr : RdBook w w.heap.size A1 cs A2 hs A3 os) :
  Calls Tryz.prog 42 #[.agg #[.int .i64 bt,.int .i64 bn,.int .i64 bw,.slice A1 cs.length p1,.slice A2 hs.length p2,.slice A3 os.length p3]] w fun e w' => e = .returned (.bool (bookB bt bn bw cs hs os))∧Below w.heap.size w w':=by
 have HR:=hd_ hr
 have HCH:=hd_ hr.c
 clear hr
 have hbk:=bookB_i bt bn bw cs hs os
 cases a1 : amtB bt
 ·
  skip
  have HBAD:=hd_ (show bookB bt bn bw cs hs os = false by rw [hbk];simp [a1])
  clear hbk
  go_enter Tryz.func42,Tryz.ntmps42
  go_wp2_with (first | (go_at_call 50;refine (zqt _ _).mono ?_;rintro e w' ⟨rfl,rfl⟩) | (go_at_call 82;refine (i_in _ _ _ _).mono ?_;rintro e w' ⟨rfl,rfl⟩))
  go_ret
  exact ⟨zqj HBAD.out.symm,bl_⟩
 ·
  skip
  cases a2 : amtB bw
  ·
   skip
   have HBAD:=hd_ (show bookB bt bn bw cs hs os = false by rw [hbk];simp [a1,a2])
   clear hbk
   go_enter Tryz.func42,Tryz.ntmps42
   go_wp2_with (first | (go_at_call 50;refine (zqt _ _).mono ?_;rintro e w' ⟨rfl,rfl⟩) | (go_at_call 82;refine (i_in _ _ _ _).mono ?_;rintro e w' ⟨rfl,rfl⟩))
   go_ret
   exact ⟨zqj HBAD.out.symm,bl_⟩
  ·
   skip
   cases a3 : inB bn 1 1125899906842624
   ·
    skip
    have HBAD:=hd_ (show bookB bt bn bw cs hs os = false by rw [hbk];simp [a1,a2,a3])
    clear hbk
    go_enter Tryz.func42,Tryz.ntmps42
    go_wp2_with (first | (go_at_call 50;refine (zqt _ _).mono ?_;rintro e w' ⟨rfl,rfl⟩) | (go_at_call 82;refine (i_in _ _ _ _).mono ?_;rintro e w' ⟨rfl,rfl⟩))
    go_ret
    exact ⟨zqj HBAD.out.symm,bl_⟩
   ·
    skip
    cases a4 : decide ((20 : Int) < (cs.length : Int))
    ·
     skip
     cases a5 : partsOkB cs hs os
     ·
      have HP:=hd_ a5
      clear a5
      have HBAD:=hd_ (show bookB bt bn bw cs hs os = false by rw [hbk];simp [a1,a2,a3,a4,HP.out])
      clear hbk
      have hc20 : cs.length ≤ 20:=by rw [decide_eq_false_iff_not] at a4;omega
      go_enter Tryz.func42,Tryz.ntmps42
      go_wp2_with (first | (go_at_call 50;refine (zqt _ _).mono ?_;rintro e w' ⟨rfl,rfl⟩) | (go_at_call 82;refine (i_in _ _ _ _).mono ?_;rintro e w' ⟨rfl,rfl⟩))
      refine (zyr bt bn bw cs hs os _ _ _ _ _ _ _ hc20 hlh hlo ((HR.out.below (bl_)).more (by first | omega | (simp;omega) | (simp;done)))).mono ?_
      rintro e w1 ⟨rfl,hb1⟩
      have z1:=hb1.size
      try simp at z1
      rw [HP.out]
      go_wp2_with fail
      go_ret
      exact ⟨zqj HBAD.out.symm,bl_⟩
     ·
      have HP:=hd_ a5
      clear a5
      have HEQ:=hd_ (show bookB bt bn bw cs hs os = everyTo cs.length (chanOk cs hs os) by rw [hbk];simp [a1,a2,a3,a4,HP.out])
      have hsm0 : Small hs os:=by
       have:=HP.out
       simp only [partsOkB,Bool.and_eq_true,decide_eq_true_eq] at this
       exact zkh this.2 this.1.1 this.1.2
      clear hbk
      have hc20 : cs.length ≤ 20:=by rw [decide_eq_false_iff_not] at a4;omega
      go_enter Tryz.func42,Tryz.ntmps42
      go_wp2_with (first | (go_at_call 50;refine (zqt _ _).mono ?_;rintro e w' ⟨rfl,rfl⟩) | (go_at_call 82;refine (i_in _ _ _ _).mono ?_;rintro e w' ⟨rfl,rfl⟩))
      refine (zyr bt bn bw cs hs os _ _ _ _ _ _ _ hc20 hlh hlo ((HR.out.below (bl_)).more (by first | omega | (simp;omega) | (simp;done)))).mono ?_
      rintro e w1 ⟨rfl,hb1⟩
      have z1:=hb1.size
      try simp at z1
      rw [HP.out]
      have HSM:=hd_ hsm0
      clear hsm0
      obtain ⟨eh,e0,e1,e2,e3,e4,e5,ef,ezz⟩:=own6 (g:=w.heap.size) hb1 (by first | omega | (simp;omega) | (simp;done)) (hp_)
      have EH:=hd_ eh
      have hA1 : Below w.heap.size w w1:=bl_
      clear eh hb1
      go_wp2_with fail
      clear e0 e1 e2 e3 e4 e5 ef
      go_loopw [37] (fun i wr => ∃ k : Nat,k ≤ cs.length∧i = .int .i64 k∧Hid (everyTo k (chanOk cs hs os) = true)∧wr.heap[w.heap.size]? = some (.cells #[.int .i64 bt,.int .i64 bn,.int .i64 bw,.slice A1 cs.length p1,.slice A2 hs.length p2,.slice A3 os.length p3] 39 (0,0))∧Below w.heap.size w wr) (fun i _ => cs.length - (intOf i).toNat)
      case atStart => exact ⟨0,Nat.zero_le _,rfl,hd_ rfl,EH.out,hA1⟩
      case round =>
       clear hA1
       obtain ⟨k,hk,rfl,HEV,hbox,hbw⟩:=hrel
       have hbz:=hbw.size
       obtain ⟨eh,e0,e1,e2,e3,e4,e5,ef,ezz2⟩:=own6 (Below.refl wr.heap.size wr) (gz_ hbox).1 hbox
       have EB:=hd_ eh
       clear eh hbox
       by_cases hlt : k < cs.length
       ·
        obtain ⟨b,off,rfl,hbB,c0,c1,c2,c3,c4,c5,c6⟩:=Chan.rd (HCH.out.below hbw) hlt
        have hbr : b < wr.heap.size:=by omega
        have bO:=HSM.out.out_bd cs[k].Id
        have bI:=HSM.out.in_bd cs[k].Id
        have hch:=chB_i hs os cs[k]
        have TR:=fun W q => zyt bt bn bw cs hs os (some ⟨b,off,none⟩) A2 A3 p1 p2 p3 cs[k].Id W HSM.out q
        obtain ⟨OUT,hOUT⟩ : ∃ x,outOf hs os cs[k].Id = x:=⟨_,rfl⟩
        obtain ⟨IN,hIN⟩ : ∃ x,inOf hs os cs[k].Id = x:=⟨_,rfl⟩
        rw [hOUT] at bO TR hch
        rw [hIN] at bI TR hch
        have HTR:=hd_ TR
        obtain ⟨bO1,bO2⟩:=bO
        obtain ⟨bI1,bI2⟩:=bI
        clear TR hOUT hIN
        by_cases hk0 : k = 0
        ·
         have hat : chanOk cs hs os k = chB hs os cs[k]:=by
          have:=zkd (cs:=cs) (hs:=hs) (os:=os) (by omega : 0 < cs.length)
          subst hk0
          exact this
         rw [hch] at hat
         have h3' : decide ((0 : Int) < (k : Int)) = false:=decide_eq_false (by omega)
         have h3'' : decide (0 < k) = false:=decide_eq_false (by omega)
         clear hk0 hch
         cases t1 : isChanB cs[k].Id
         ·
          have H1:=hd_ t1
          have HBAD:=hd_ (show chanOk cs hs os k = false by rw [hat];simp [H1.out])
          clear hat
          go_wp2_with fail
          go_quiet ((first | (go_at_call 84;exact zqi (zqx _ _)) | (go_at_call 50;exact zqi (zqt _ _)) | (go_at_call 82;exact zqi (i_in _ _ _ _)) | (go_at_call 85;exact zqi (zxl _ _))))
          clear h3'
          go_wp2_with fail
          go_ret
          exact ⟨zqj (zxc hlt HBAD.out).symm,bl_⟩
         ·
          have H1:=hd_ t1
          cases t3 : amtB cs[k].Local
          ·
           have H3:=hd_ t3
           have HBAD:=hd_ (show chanOk cs hs os k = false by rw [hat];simp [H1.out,H3.out])
           clear hat
           go_wp2_with fail
           go_quiet ((first | (go_at_call 84;exact zqi (zqx _ _)) | (go_at_call 50;exact zqi (zqt _ _)) | (go_at_call 82;exact zqi (i_in _ _ _ _)) | (go_at_call 85;exact zqi (zxl _ _))))
           clear h3'
           go_wp2_with fail
           go_ret
           exact ⟨zqj (zxc hlt HBAD.out).symm,bl_⟩
          ·
           have H3:=hd_ t3
           cases t4 : amtB cs[k].Remote
           ·
            have H4:=hd_ t4
            have HBAD:=hd_ (show chanOk cs hs os k = false by rw [hat];simp [H1.out,H3.out,H4.out])
            clear hat
            go_wp2_with fail
            go_quiet ((first | (go_at_call 84;exact zqi (zqx _ _)) | (go_at_call 50;exact zqi (zqt _ _)) | (go_at_call 82;exact zqi (i_in _ _ _ _)) | (go_at_call 85;exact zqi (zxl _ _))))
            clear h3'
            go_wp2_with fail
            go_ret
            exact ⟨zqj (zxc hlt HBAD.out).symm,bl_⟩
           ·
            have H4:=hd_ t4
            cases t5 : amtB cs[k].Base
            ·
             have H5:=hd_ t5
             have HBAD:=hd_ (show chanOk cs hs os k = false by rw [hat];simp [H1.out,H3.out,H4.out,H5.out])
             clear hat
             go_wp2_with fail
             go_quiet ((first | (go_at_call 84;exact zqi (zqx _ _)) | (go_at_call 50;exact zqi (zqt _ _)) | (go_at_call 82;exact zqi (i_in _ _ _ _)) | (go_at_call 85;exact zqi (zxl _ _))))
             clear h3'
             go_wp2_with fail
             go_ret
             exact ⟨zqj (zxc hlt HBAD.out).symm,bl_⟩
            ·
             have H5:=hd_ t5
             cases t6 : inB cs[k].Ppm 0 1000000
             ·
              have H6:=hd_ t6
              have HBAD:=hd_ (show chanOk cs hs os k = false by rw [hat];simp [H1.out,H3.out,H4.out,H5.out,H6.out])
              clear hat
              go_wp2_with fail
              go_quiet ((first | (go_at_call 84;exact zqi (zqx _ _)) | (go_at_call 50;exact zqi (zqt _ _)) | (go_at_call 82;exact zqi (i_in _ _ _ _)) | (go_at_call 85;exact zqi (zxl _ _))))
              clear h3'
              go_wp2_with fail
              go_ret
              exact ⟨zqj (zxc hlt HBAD.out).symm,bl_⟩
             ·
              have H6:=hd_ t6
              cases t7 : inB cs[k].Score (-100) 100
              ·
               have H7:=hd_ t7
               have HBAD:=hd_ (show chanOk cs hs os k = false by rw [hat];simp [H1.out,H3.out,H4.out,H5.out,H6.out,H7.out])
               clear hat
               go_wp2_with fail
               go_quiet ((first | (go_at_call 84;exact zqi (zqx _ _)) | (go_at_call 50;exact zqi (zqt _ _)) | (go_at_call 82;exact zqi (i_in _ _ _ _)) | (go_at_call 85;exact zqi (zxl _ _))))
               clear h3'
               go_wp2_with fail
               go_ret
               exact ⟨zqj (zxc hlt HBAD.out).symm,bl_⟩
              ·
               have H7:=hd_ t7
               cases t8 : amtB cs[k].Size
               ·
                have H8:=hd_ t8
                have HBAD:=hd_ (show chanOk cs hs os k = false by rw [hat];simp [H1.out,H3.out,H4.out,H5.out,H6.out,H7.out,H8.out])
                clear hat
                go_wp2_with fail
                go_quiet ((first | (go_at_call 84;exact zqi (zqx _ _)) | (go_at_call 50;exact zqi (zqt _ _)) | (go_at_call 82;exact zqi (i_in _ _ _ _)) | (go_at_call 85;exact zqi (zxl _ _))))
                clear h3'
                go_wp2_with fail
                go_ret
                exact ⟨zqj (zxc hlt HBAD.out).symm,bl_⟩
               ·
                have H8:=hd_ t8
                cases t9 : (cs[k].Size != cs[k].Local + cs[k].Remote + OUT + IN)
                ·
                 skip
                 have HGOOD:=hd_ (show chanOk cs hs os k = true by rw [hat];simp [H1.out,H3.out,H4.out,H5.out,H6.out,H7.out,H8.out,t9])
                 obtain ⟨y3,y4⟩:=zxy.1 H3.out
                 obtain ⟨y5,y6⟩:=zxy.1 H4.out
                 clear hat
                 go_wp2_with fail
                 go_quiet ((first | (go_at_call 84;exact zqi (zqx _ _)) | (go_at_call 50;exact zqi (zqt _ _)) | (go_at_call 82;exact zqi (i_in _ _ _ _)) | (go_at_call 85;exact zqi (zxl _ _))))
                 clear h3'
                 go_wp2_with fail
                 refine (HTR.out _ ((HR.out.below (bl_)).more (by first | omega | (simp;omega) | (simp;done)))).mono ?_
                 rintro e w10 ⟨rfl,hb10⟩
                 have z10:=hb10.size
                 obtain ⟨lh,l0,l1,l2,l3,l4,l5,l6,lf,lz⟩:=own7 (g:=wr.heap.size) hb10 (by first | omega | (simp;omega) | (simp;done)) (hp_)
                 obtain ⟨mh,m0,m1,m2,m3,m4,m5,mf,mz⟩:=own6 (g:=w.heap.size) hb10 (by first | omega | (simp;omega) | (simp;done)) (by have hq:=zqg (o:=.cells #[.int .i64 cs[k].Id,.int .i64 cs[k].Size,.int .i64 cs[k].Local,.int .i64 cs[k].Remote,.int .i64 cs[k].Base,.int .i64 cs[k].Ppm,.int .i64 cs[k].Score] 103) ezz2 EB.out;exact hp_)
                 have MH:=hd_ mh
                 have hbw10 : Below w.heap.size w w10:=bl_
                 clear lh mh hb10
                 go_wp2_with fail
                 go_roundw
                 case rel => exact ⟨k + 1,by omega,by go_num,hd_ (by rw [zjh,HEV.out,HGOOD.out];rfl),MH.out,bl_⟩
                 case measure => simp [intOf];omega
                ·
                 skip
                 have HBAD:=hd_ (show chanOk cs hs os k = false by rw [hat];simp [H1.out,H3.out,H4.out,H5.out,H6.out,H7.out,H8.out,t9])
                 obtain ⟨y3,y4⟩:=zxy.1 H3.out
                 obtain ⟨y5,y6⟩:=zxy.1 H4.out
                 clear hat
                 go_wp2_with fail
                 go_quiet ((first | (go_at_call 84;exact zqi (zqx _ _)) | (go_at_call 50;exact zqi (zqt _ _)) | (go_at_call 82;exact zqi (i_in _ _ _ _)) | (go_at_call 85;exact zqi (zxl _ _))))
                 clear h3'
                 go_wp2_with fail
                 refine (HTR.out _ ((HR.out.below (bl_)).more (by first | omega | (simp;omega) | (simp;done)))).mono ?_
                 rintro e w10 ⟨rfl,hb10⟩
                 have z10:=hb10.size
                 obtain ⟨lh,l0,l1,l2,l3,l4,l5,l6,lf,lz⟩:=own7 (g:=wr.heap.size) hb10 (by first | omega | (simp;omega) | (simp;done)) (hp_)
                 obtain ⟨mh,m0,m1,m2,m3,m4,m5,mf,mz⟩:=own6 (g:=w.heap.size) hb10 (by first | omega | (simp;omega) | (simp;done)) (by have hq:=zqg (o:=.cells #[.int .i64 cs[k].Id,.int .i64 cs[k].Size,.int .i64 cs[k].Local,.int .i64 cs[k].Remote,.int .i64 cs[k].Base,.int .i64 cs[k].Ppm,.int .i64 cs[k].Score] 103) ezz2 EB.out;exact hp_)
                 have MH:=hd_ mh
                 have hbw10 : Below w.heap.size w w10:=bl_
                 clear lh mh hb10
                 go_wp2_with fail
                 go_ret
                 exact ⟨zqj (zxc hlt HBAD.out).symm,bl_⟩
        ·
         obtain ⟨j,hkj⟩ : ∃ j,k = j + 1:=⟨k - 1,by omega⟩
         have hj : j < cs.length:=by omega
         have hat : chanOk cs hs os k = (chB hs os cs[k] && decide (cs[j].Id < cs[k].Id)):=by subst hkj;exact zjz hlt hj
         rw [hch,zgx] at hat
         obtain ⟨b',off',e',_,d0,d1,d2,d3,d4,d5,d6⟩:=Chan.rd (HCH.out.below hbw) hj
         simp only [Option.some.injEq,Addr.mk.injEq,and_true] at e'
         obtain ⟨rfl,rfl⟩:=e'
         have h3' : decide ((0 : Int) < (k : Int)) = true:=decide_eq_true (by omega)
         have h3'' : decide (0 < k) = true:=decide_eq_true (by omega)
         have i1 : (0 : Int) ≤ (j : Int):=by omega
         have i2 : (j : Int) < (cs.length : Int):=by omega
         have e1' : IntKind.i64.wrap ((k : Int) - 1) = (j : Int):=by rw [hkj];exact (IntWalk.i64_in _ ⟨by omega,by omega⟩).trans (by omega)
         clear hkj hk0 d1 d2 d3 d4 d5 d6
         clear hch
         cases t1 : isChanB cs[k].Id
         ·
          have H1:=hd_ t1
          have HBAD:=hd_ (show chanOk cs hs os k = false by rw [hat];simp [H1.out])
          clear hat
          go_wp2_with fail
          go_quiet ((first | (go_at_call 84;exact zqi (zqx _ _)) | (go_at_call 50;exact zqi (zqt _ _)) | (go_at_call 82;exact zqi (i_in _ _ _ _)) | (go_at_call 85;exact zqi (zxl _ _))))
          clear d0 e1'
          go_wp2_with fail
          go_ret
          exact ⟨zqj (zxc hlt HBAD.out).symm,bl_⟩
         ·
          have H1:=hd_ t1
          cases t2 : decide (cs[k].Id ≤ cs[j].Id)
          ·
           skip
           cases t3 : amtB cs[k].Local
           ·
            have H3:=hd_ t3
            have HBAD:=hd_ (show chanOk cs hs os k = false by rw [hat];simp [H1.out,t2,H3.out])
            clear hat
            go_wp2_with fail
            go_quiet ((first | (go_at_call 84;exact zqi (zqx _ _)) | (go_at_call 50;exact zqi (zqt _ _)) | (go_at_call 82;exact zqi (i_in _ _ _ _)) | (go_at_call 85;exact zqi (zxl _ _))))
            clear d0 e1'
            go_wp2_with fail
            go_ret
            exact ⟨zqj (zxc hlt HBAD.out).symm,bl_⟩
           ·
            have H3:=hd_ t3
            cases t4 : amtB cs[k].Remote
            ·
             have H4:=hd_ t4
             have HBAD:=hd_ (show chanOk cs hs os k = false by rw [hat];simp [H1.out,t2,H3.out,H4.out])
             clear hat
             go_wp2_with fail
             go_quiet ((first | (go_at_call 84;exact zqi (zqx _ _)) | (go_at_call 50;exact zqi (zqt _ _)) | (go_at_call 82;exact zqi (i_in _ _ _ _)) | (go_at_call 85;exact zqi (zxl _ _))))
             clear d0 e1'
             go_wp2_with fail
             go_ret
             exact ⟨zqj (zxc hlt HBAD.out).symm,bl_⟩
            ·
             have H4:=hd_ t4
             cases t5 : amtB cs[k].Base
             ·
              have H5:=hd_ t5
              have HBAD:=hd_ (show chanOk cs hs os k = false by rw [hat];simp [H1.out,t2,H3.out,H4.out,H5.out])
              clear hat
              go_wp2_with fail
              go_quiet ((first | (go_at_call 84;exact zqi (zqx _ _)) | (go_at_call 50;exact zqi (zqt _ _)) | (go_at_call 82;exact zqi (i_in _ _ _ _)) | (go_at_call 85;exact zqi (zxl _ _))))
              clear d0 e1'
              go_wp2_with fail
              go_ret
              exact ⟨zqj (zxc hlt HBAD.out).symm,bl_⟩
             ·
              have H5:=hd_ t5
              cases t6 : inB cs[k].Ppm 0 1000000
              ·
               have H6:=hd_ t6
               have HBAD:=hd_ (show chanOk cs hs os k = false by rw [hat];simp [H1.out,t2,H3.out,H4.out,H5.out,H6.out])
               clear hat
               go_wp2_with fail
               go_quiet ((first | (go_at_call 84;exact zqi (zqx _ _)) | (go_at_call 50;exact zqi (zqt _ _)) | (go_at_call 82;exact zqi (i_in _ _ _ _)) | (go_at_call 85;exact zqi (zxl _ _))))
               clear d0 e1'
               go_wp2_with fail
               go_ret
               exact ⟨zqj (zxc hlt HBAD.out).symm,bl_⟩
              ·
               have H6:=hd_ t6
               cases t7 : inB cs[k].Score (-100) 100
               ·
                have H7:=hd_ t7
                have HBAD:=hd_ (show chanOk cs hs os k = false by rw [hat];simp [H1.out,t2,H3.out,H4.out,H5.out,H6.out,H7.out])
                clear hat
                go_wp2_with fail
                go_quiet ((first | (go_at_call 84;exact zqi (zqx _ _)) | (go_at_call 50;exact zqi (zqt _ _)) | (go_at_call 82;exact zqi (i_in _ _ _ _)) | (go_at_call 85;exact zqi (zxl _ _))))
                clear d0 e1'
                go_wp2_with fail
                go_ret
                exact ⟨zqj (zxc hlt HBAD.out).symm,bl_⟩
               ·
                have H7:=hd_ t7
                cases t8 : amtB cs[k].Size
                ·
                 have H8:=hd_ t8
                 have HBAD:=hd_ (show chanOk cs hs os k = false by rw [hat];simp [H1.out,t2,H3.out,H4.out,H5.out,H6.out,H7.out,H8.out])
                 clear hat
                 go_wp2_with fail
                 go_quiet ((first | (go_at_call 84;exact zqi (zqx _ _)) | (go_at_call 50;exact zqi (zqt _ _)) | (go_at_call 82;exact zqi (i_in _ _ _ _)) | (go_at_call 85;exact zqi (zxl _ _))))
                 clear d0 e1'
                 go_wp2_with fail
                 go_ret
                 exact ⟨zqj (zxc hlt HBAD.out).symm,bl_⟩
                ·
                 have H8:=hd_ t8
                 cases t9 : (cs[k].Size != cs[k].Local + cs[k].Remote + OUT + IN)
                 ·
                  skip
                  have HGOOD:=hd_ (show chanOk cs hs os k = true by rw [hat];simp [H1.out,t2,H3.out,H4.out,H5.out,H6.out,H7.out,H8.out,t9])
                  obtain ⟨y3,y4⟩:=zxy.1 H3.out
                  obtain ⟨y5,y6⟩:=zxy.1 H4.out
                  clear hat
                  go_wp2_with fail
                  go_quiet ((first | (go_at_call 84;exact zqi (zqx _ _)) | (go_at_call 50;exact zqi (zqt _ _)) | (go_at_call 82;exact zqi (i_in _ _ _ _)) | (go_at_call 85;exact zqi (zxl _ _))))
                  clear d0 e1'
                  go_wp2_with fail
                  refine (HTR.out _ ((HR.out.below (bl_)).more (by first | omega | (simp;omega) | (simp;done)))).mono ?_
                  rintro e w10 ⟨rfl,hb10⟩
                  have z10:=hb10.size
                  obtain ⟨lh,l0,l1,l2,l3,l4,l5,l6,lf,lz⟩:=own7 (g:=wr.heap.size) hb10 (by first | omega | (simp;omega) | (simp;done)) (hp_)
                  obtain ⟨mh,m0,m1,m2,m3,m4,m5,mf,mz⟩:=own6 (g:=w.heap.size) hb10 (by first | omega | (simp;omega) | (simp;done)) (by have hq:=zqg (o:=.cells #[.int .i64 cs[k].Id,.int .i64 cs[k].Size,.int .i64 cs[k].Local,.int .i64 cs[k].Remote,.int .i64 cs[k].Base,.int .i64 cs[k].Ppm,.int .i64 cs[k].Score] 103) ezz2 EB.out;exact hp_)
                  have MH:=hd_ mh
                  have hbw10 : Below w.heap.size w w10:=bl_
                  clear lh mh hb10
                  go_wp2_with fail
                  go_roundw
                  case rel => exact ⟨k + 1,by omega,by go_num,hd_ (by rw [zjh,HEV.out,HGOOD.out];rfl),MH.out,bl_⟩
                  case measure => simp [intOf];omega
                 ·
                  skip
                  have HBAD:=hd_ (show chanOk cs hs os k = false by rw [hat];simp [H1.out,t2,H3.out,H4.out,H5.out,H6.out,H7.out,H8.out,t9])
                  obtain ⟨y3,y4⟩:=zxy.1 H3.out
                  obtain ⟨y5,y6⟩:=zxy.1 H4.out
                  clear hat
                  go_wp2_with fail
                  go_quiet ((first | (go_at_call 84;exact zqi (zqx _ _)) | (go_at_call 50;exact zqi (zqt _ _)) | (go_at_call 82;exact zqi (i_in _ _ _ _)) | (go_at_call 85;exact zqi (zxl _ _))))
                  clear d0 e1'
                  go_wp2_with fail
                  refine (HTR.out _ ((HR.out.below (bl_)).more (by first | omega | (simp;omega) | (simp;done)))).mono ?_
                  rintro e w10 ⟨rfl,hb10⟩
                  have z10:=hb10.size
                  obtain ⟨lh,l0,l1,l2,l3,l4,l5,l6,lf,lz⟩:=own7 (g:=wr.heap.size) hb10 (by first | omega | (simp;omega) | (simp;done)) (hp_)
                  obtain ⟨mh,m0,m1,m2,m3,m4,m5,mf,mz⟩:=own6 (g:=w.heap.size) hb10 (by first | omega | (simp;omega) | (simp;done)) (by have hq:=zqg (o:=.cells #[.int .i64 cs[k].Id,.int .i64 cs[k].Size,.int .i64 cs[k].Local,.int .i64 cs[k].Remote,.int .i64 cs[k].Base,.int .i64 cs[k].Ppm,.int .i64 cs[k].Score] 103) ezz2 EB.out;exact hp_)
                  have MH:=hd_ mh
                  have hbw10 : Below w.heap.size w w10:=bl_
                  clear lh mh hb10
                  go_wp2_with fail
                  go_ret
                  exact ⟨zqj (zxc hlt HBAD.out).symm,bl_⟩
          ·
           skip
           have HBAD:=hd_ (show chanOk cs hs os k = false by rw [hat];simp [H1.out,t2])
           clear hat
           go_wp2_with fail
           go_quiet ((first | (go_at_call 84;exact zqi (zqx _ _)) | (go_at_call 50;exact zqi (zqt _ _)) | (go_at_call 82;exact zqi (i_in _ _ _ _)) | (go_at_call 85;exact zqi (zxl _ _))))
           clear d0 e1'
           go_wp2_with fail
           go_ret
           exact ⟨zqj (zxc hlt HBAD.out).symm,bl_⟩
       ·
        obtain rfl : k = cs.length:=by omega
        go_wp2_with fail
        go_ret
        exact ⟨zqj (by rw [HEQ.out,HEV.out]),bl_⟩
    ·
     skip
     have HBAD:=hd_ (show bookB bt bn bw cs hs os = false by rw [hbk];simp [a1,a2,a3,a4])
     clear hbk
     go_enter Tryz.func42,Tryz.ntmps42
     go_wp2_with (first | (go_at_call 50;refine (zqt _ _).mono ?_;rintro e w' ⟨rfl,rfl⟩) | (go_at_call 82;refine (i_in _ _ _ _).mono ?_;rintro e w' ⟨rfl,rfl⟩))
     go_ret
     exact ⟨zqj HBAD.out.symm,bl_⟩
end Go.Proofs.YtdbmkfmenfcbiaaGreat
