/- Books: l07Under: the walk of the reference. -/
import Derived.Test.YtdbmkfmenfcbiaaRows
import Derived.Test.YtdbmkfmenfcbiaaQBookPi
namespace Go.Proofs.Ytdbmkfmenfcbiaa
open Go.RowKit
set_option maxRecDepth 100000 in
set_option maxHeartbeats 8000000 in
theorem s_l07Under (bt bn bw : Int) (cs : List Chan) (hs : List Htlc) (os : List Circle) (A1 A2 A3 : Option Addr) (p1 p2 p3 : Nat) (w : World) (hc : cs.length ≤ 20) (h60 : hs.length ≤ 60) (h20 : os.length ≤ 20) (hr : RdBook w w.heap.size A1 cs A2 hs A3 os) :
  Calls Try.prog 33 #[.agg #[.int .i64 bt,.int .i64 bn,.int .i64 bw,.slice A1 cs.length p1,.slice A2 hs.length p2,.slice A3 os.length p3]] w fun e w' => e = .returned (.bool (partsB cs hs os))∧Below w.heap.size w w':=by
 have HR:=hd_ hr
 have HH:=hd_ hr.h
 have HO:=hd_ hr.o
 clear hr
 go_enter Try.func33,Try.ntmps33
 go_wp2_with fail
 go_loopw [13] (fun i wr => ∃ k : Nat,k ≤ hs.length∧i = .int .i64 k∧Hid ((hs.take k).all (htlcB cs) = true)∧wr.heap[w.heap.size]? = some (.cells #[.int .i64 bt,.int .i64 bn,.int .i64 bw,.slice A1 cs.length p1,.slice A2 hs.length p2,.slice A3 os.length p3] 34 (0,0))∧Below w.heap.size w wr) (fun i _ => hs.length - (intOf i).toNat)
 case atStart => exact ⟨0,Nat.zero_le _,rfl,hd_ rfl,zqm rfl,bl_⟩
 case round =>
  obtain ⟨k,hk,rfl,HA,hbox,hbw⟩:=hrel
  have hbz:=hbw.size
  obtain ⟨eh,e0,e1,e2,e3,e4,e5,ef,ezz⟩:=own6 (Below.refl wr.heap.size wr) (gz_ hbox).1 hbox
  have EH:=hd_ eh
  clear eh hbox
  by_cases hlt : k < hs.length
  ·
   obtain ⟨b,off,rfl,hbB,c0,c1,c2,c3,c4,c5,c6⟩:=Htlc.rd (HH.out.below hbw) hlt
   have hat:=htlcB_s cs hs[k]
   cases ht : twoB cs hs[k].In hs[k].Out
   ·
    have HT:=hd_ ht
    clear ht
    have HBAD:=hd_ (show htlcB cs hs[k] = false by rw [hat];simp [HT.out])
    clear hat
    go_wp2_with fail
    refine (zke bt bn bw cs hs os _ _ _ _ _ _ hs[k].In hs[k].Out _ (by omega) ((HR.out.below (bl_)).more (by first | omega | (simp;omega) | (simp;done)))).mono ?_
    rintro e w5 ⟨rfl,hb5⟩
    have z5:=hb5.size
    try simp at z5
    rw [HT.out]
    obtain ⟨lh,l0,l1,l2,l3,l4,l5,l6,lf,lz⟩:=own7 (g:=wr.heap.size) hb5 (by first | omega | (simp;omega) | (simp;done)) (hp_)
    obtain ⟨rh,r0,r1,r2,r3,r4,r5,rf,rz⟩:=own6 hb5 (by first | omega | (simp;omega) | (simp;done)) (zqc ezz EH.out)
    have RH:=hd_ rh
    have hbw5 : Below w.heap.size w w5:=bl_
    clear rh lh hb5
    go_wp2_with (go_at_call 32;refine (zxg _ _).mono ?_;rintro e w' ⟨rfl,rfl⟩)
    go_ret
    exact ⟨zqf (zwa hlt HBAD.out).symm,bl_⟩
   ·
    have HT:=hd_ ht
    clear ht
    cases ha : amtB hs[k].AmtIn
    ·
     skip
     have HBAD:=hd_ (show htlcB cs hs[k] = false by rw [hat];simp [HT.out,ha])
     clear hat
     go_wp2_with fail
     refine (zke bt bn bw cs hs os _ _ _ _ _ _ hs[k].In hs[k].Out _ (by omega) ((HR.out.below (bl_)).more (by first | omega | (simp;omega) | (simp;done)))).mono ?_
     rintro e w5 ⟨rfl,hb5⟩
     have z5:=hb5.size
     try simp at z5
     rw [HT.out]
     obtain ⟨lh,l0,l1,l2,l3,l4,l5,l6,lf,lz⟩:=own7 (g:=wr.heap.size) hb5 (by first | omega | (simp;omega) | (simp;done)) (hp_)
     obtain ⟨rh,r0,r1,r2,r3,r4,r5,rf,rz⟩:=own6 hb5 (by first | omega | (simp;omega) | (simp;done)) (zqc ezz EH.out)
     have RH:=hd_ rh
     have hbw5 : Below w.heap.size w w5:=bl_
     clear rh lh hb5
     go_wp2_with (go_at_call 32;refine (zxg _ _).mono ?_;rintro e w' ⟨rfl,rfl⟩)
     go_ret
     exact ⟨zqf (zwa hlt HBAD.out).symm,bl_⟩
    ·
     skip
     cases hc2 : amtB hs[k].AmtOut
     ·
      skip
      have HBAD:=hd_ (show htlcB cs hs[k] = false by rw [hat];simp [HT.out,ha,hc2])
      clear hat
      go_wp2_with fail
      refine (zke bt bn bw cs hs os _ _ _ _ _ _ hs[k].In hs[k].Out _ (by omega) ((HR.out.below (bl_)).more (by first | omega | (simp;omega) | (simp;done)))).mono ?_
      rintro e w5 ⟨rfl,hb5⟩
      have z5:=hb5.size
      try simp at z5
      rw [HT.out]
      obtain ⟨lh,l0,l1,l2,l3,l4,l5,l6,lf,lz⟩:=own7 (g:=wr.heap.size) hb5 (by first | omega | (simp;omega) | (simp;done)) (hp_)
      obtain ⟨rh,r0,r1,r2,r3,r4,r5,rf,rz⟩:=own6 hb5 (by first | omega | (simp;omega) | (simp;done)) (zqc ezz EH.out)
      have RH:=hd_ rh
      have hbw5 : Below w.heap.size w w5:=bl_
      clear rh lh hb5
      go_wp2_with (go_at_call 32;refine (zxg _ _).mono ?_;rintro e w' ⟨rfl,rfl⟩)
      go_ret
      exact ⟨zqf (zwa hlt HBAD.out).symm,bl_⟩
     ·
      skip
      cases hb : decide (hs[k].AmtOut < 1)
      ·
       skip
       cases hd : decide (hs[k].AmtIn < hs[k].AmtOut)
       ·
        skip
        cases he : amtB hs[k].Age
        ·
         skip
         have HBAD:=hd_ (show htlcB cs hs[k] = false by rw [hat];simp [HT.out,ha,hc2,hb,hd,he])
         clear hat
         go_wp2_with fail
         refine (zke bt bn bw cs hs os _ _ _ _ _ _ hs[k].In hs[k].Out _ (by omega) ((HR.out.below (bl_)).more (by first | omega | (simp;omega) | (simp;done)))).mono ?_
         rintro e w5 ⟨rfl,hb5⟩
         have z5:=hb5.size
         try simp at z5
         rw [HT.out]
         obtain ⟨lh,l0,l1,l2,l3,l4,l5,l6,lf,lz⟩:=own7 (g:=wr.heap.size) hb5 (by first | omega | (simp;omega) | (simp;done)) (hp_)
         obtain ⟨rh,r0,r1,r2,r3,r4,r5,rf,rz⟩:=own6 hb5 (by first | omega | (simp;omega) | (simp;done)) (zqc ezz EH.out)
         have RH:=hd_ rh
         have hbw5 : Below w.heap.size w w5:=bl_
         clear rh lh hb5
         go_wp2_with (go_at_call 32;refine (zxg _ _).mono ?_;rintro e w' ⟨rfl,rfl⟩)
         go_ret
         exact ⟨zqf (zwa hlt HBAD.out).symm,bl_⟩
        ·
         skip
         have HGOOD:=hd_ (show htlcB cs hs[k] = true by rw [hat];simp [HT.out,ha,hc2,hb,hd,he])
         clear hat
         go_wp2_with fail
         refine (zke bt bn bw cs hs os _ _ _ _ _ _ hs[k].In hs[k].Out _ (by omega) ((HR.out.below (bl_)).more (by first | omega | (simp;omega) | (simp;done)))).mono ?_
         rintro e w5 ⟨rfl,hb5⟩
         have z5:=hb5.size
         try simp at z5
         rw [HT.out]
         obtain ⟨lh,l0,l1,l2,l3,l4,l5,l6,lf,lz⟩:=own7 (g:=wr.heap.size) hb5 (by first | omega | (simp;omega) | (simp;done)) (hp_)
         obtain ⟨rh,r0,r1,r2,r3,r4,r5,rf,rz⟩:=own6 hb5 (by first | omega | (simp;omega) | (simp;done)) (zqc ezz EH.out)
         have RH:=hd_ rh
         have hbw5 : Below w.heap.size w w5:=bl_
         clear rh lh hb5
         go_wp2_with (go_at_call 32;refine (zxg _ _).mono ?_;rintro e w' ⟨rfl,rfl⟩)
         go_roundw
         case rel => exact ⟨k + 1,by omega,by go_num,hd_ (by rw [zkf hs _ hlt,HA.out,HGOOD.out];rfl),RH.out,bl_⟩
         case measure => simp [intOf];omega
       ·
        skip
        have HBAD:=hd_ (show htlcB cs hs[k] = false by rw [hat];simp [HT.out,ha,hc2,hb,hd])
        clear hat
        go_wp2_with fail
        refine (zke bt bn bw cs hs os _ _ _ _ _ _ hs[k].In hs[k].Out _ (by omega) ((HR.out.below (bl_)).more (by first | omega | (simp;omega) | (simp;done)))).mono ?_
        rintro e w5 ⟨rfl,hb5⟩
        have z5:=hb5.size
        try simp at z5
        rw [HT.out]
        obtain ⟨lh,l0,l1,l2,l3,l4,l5,l6,lf,lz⟩:=own7 (g:=wr.heap.size) hb5 (by first | omega | (simp;omega) | (simp;done)) (hp_)
        obtain ⟨rh,r0,r1,r2,r3,r4,r5,rf,rz⟩:=own6 hb5 (by first | omega | (simp;omega) | (simp;done)) (zqc ezz EH.out)
        have RH:=hd_ rh
        have hbw5 : Below w.heap.size w w5:=bl_
        clear rh lh hb5
        go_wp2_with (go_at_call 32;refine (zxg _ _).mono ?_;rintro e w' ⟨rfl,rfl⟩)
        go_ret
        exact ⟨zqf (zwa hlt HBAD.out).symm,bl_⟩
      ·
       skip
       have HBAD:=hd_ (show htlcB cs hs[k] = false by rw [hat];simp [HT.out,ha,hc2,hb])
       clear hat
       go_wp2_with fail
       refine (zke bt bn bw cs hs os _ _ _ _ _ _ hs[k].In hs[k].Out _ (by omega) ((HR.out.below (bl_)).more (by first | omega | (simp;omega) | (simp;done)))).mono ?_
       rintro e w5 ⟨rfl,hb5⟩
       have z5:=hb5.size
       try simp at z5
       rw [HT.out]
       obtain ⟨lh,l0,l1,l2,l3,l4,l5,l6,lf,lz⟩:=own7 (g:=wr.heap.size) hb5 (by first | omega | (simp;omega) | (simp;done)) (hp_)
       obtain ⟨rh,r0,r1,r2,r3,r4,r5,rf,rz⟩:=own6 hb5 (by first | omega | (simp;omega) | (simp;done)) (zqc ezz EH.out)
       have RH:=hd_ rh
       have hbw5 : Below w.heap.size w w5:=bl_
       clear rh lh hb5
       go_wp2_with (go_at_call 32;refine (zxg _ _).mono ?_;rintro e w' ⟨rfl,rfl⟩)
       go_ret
       exact ⟨zqf (zwa hlt HBAD.out).symm,bl_⟩
  ·
   obtain rfl : k = hs.length:=by omega
   have ha:=HA.out
   rw [List.take_length] at ha
   have HALL1:=hd_ ha
   clear ha HA
   go_wp2_with fail
   obtain ⟨wo,rfl⟩ : ∃ wo : World,wo = wr:=⟨_,rfl⟩
   go_loopw [58] (fun i wr => ∃ k : Nat,k ≤ os.length∧i = .int .i64 k∧Hid ((os.take k).all (circB cs) = true)∧wr.heap[w.heap.size]? = some (.cells #[.int .i64 bt,.int .i64 bn,.int .i64 bw,.slice A1 cs.length p1,.slice A2 hs.length p2,.slice A3 os.length p3] 34 (0,0))∧Below w.heap.size w wr) (fun i _ => os.length - (intOf i).toNat)
   case atStart => exact ⟨0,Nat.zero_le _,rfl,hd_ rfl,EH.out,bl_⟩
   case round =>
    obtain ⟨k,hk,rfl,HA,hbox,hbw⟩:=hrel
    have hbz:=hbw.size
    obtain ⟨eh,e0,e1,e2,e3,e4,e5,ef,ezz⟩:=own6 (Below.refl wr.heap.size wr) (gz_ hbox).1 hbox
    have EH:=hd_ eh
    clear eh hbox
    by_cases hlt : k < os.length
    ·
     obtain ⟨b,off,rfl,hbB,c0,c1,c2,c3,c4⟩:=Circle.rd (HO.out.below hbw) hlt
     have hat:=circB_s cs os[k]
     cases ht : twoB cs os[k].From os[k].To
     ·
      have HT:=hd_ ht
      clear ht
      have HBAD:=hd_ (show circB cs os[k] = false by rw [hat];simp [HT.out])
      clear hat
      go_wp2_with fail
      refine (zke bt bn bw cs hs os _ _ _ _ _ _ os[k].From os[k].To _ (by omega) ((HR.out.below (bl_)).more (by first | omega | (simp;omega) | (simp;done)))).mono ?_
      rintro e w5 ⟨rfl,hb5⟩
      have z5:=hb5.size
      try simp at z5
      rw [HT.out]
      obtain ⟨lh,l0,l1,l2,l3,l4,lf,lz⟩:=own5 (g:=wr.heap.size) hb5 (by first | omega | (simp;omega) | (simp;done)) (hp_)
      obtain ⟨rh,r0,r1,r2,r3,r4,r5,rf,rz⟩:=own6 hb5 (by first | omega | (simp;omega) | (simp;done)) (zqc ezz EH.out)
      have RH:=hd_ rh
      have hbw5 : Below w.heap.size w w5:=bl_
      clear rh lh hb5
      go_wp2_with (go_at_call 32;refine (zxg _ _).mono ?_;rintro e w' ⟨rfl,rfl⟩)
      go_ret
      exact ⟨zqf (zhg hlt HBAD.out).symm,bl_⟩
     ·
      have HT:=hd_ ht
      clear ht
      cases ha : amtB os[k].Amt
      ·
       skip
       have HBAD:=hd_ (show circB cs os[k] = false by rw [hat];simp [HT.out,ha])
       clear hat
       go_wp2_with fail
       refine (zke bt bn bw cs hs os _ _ _ _ _ _ os[k].From os[k].To _ (by omega) ((HR.out.below (bl_)).more (by first | omega | (simp;omega) | (simp;done)))).mono ?_
       rintro e w5 ⟨rfl,hb5⟩
       have z5:=hb5.size
       try simp at z5
       rw [HT.out]
       obtain ⟨lh,l0,l1,l2,l3,l4,lf,lz⟩:=own5 (g:=wr.heap.size) hb5 (by first | omega | (simp;omega) | (simp;done)) (hp_)
       obtain ⟨rh,r0,r1,r2,r3,r4,r5,rf,rz⟩:=own6 hb5 (by first | omega | (simp;omega) | (simp;done)) (zqc ezz EH.out)
       have RH:=hd_ rh
       have hbw5 : Below w.heap.size w w5:=bl_
       clear rh lh hb5
       go_wp2_with (go_at_call 32;refine (zxg _ _).mono ?_;rintro e w' ⟨rfl,rfl⟩)
       go_ret
       exact ⟨zqf (zhg hlt HBAD.out).symm,bl_⟩
      ·
       skip
       cases hb : decide (os[k].Amt < 1)
       ·
        skip
        cases he : amtB os[k].Fee
        ·
         skip
         have HBAD:=hd_ (show circB cs os[k] = false by rw [hat];simp [HT.out,ha,hb,he])
         clear hat
         go_wp2_with fail
         refine (zke bt bn bw cs hs os _ _ _ _ _ _ os[k].From os[k].To _ (by omega) ((HR.out.below (bl_)).more (by first | omega | (simp;omega) | (simp;done)))).mono ?_
         rintro e w5 ⟨rfl,hb5⟩
         have z5:=hb5.size
         try simp at z5
         rw [HT.out]
         obtain ⟨lh,l0,l1,l2,l3,l4,lf,lz⟩:=own5 (g:=wr.heap.size) hb5 (by first | omega | (simp;omega) | (simp;done)) (hp_)
         obtain ⟨rh,r0,r1,r2,r3,r4,r5,rf,rz⟩:=own6 hb5 (by first | omega | (simp;omega) | (simp;done)) (zqc ezz EH.out)
         have RH:=hd_ rh
         have hbw5 : Below w.heap.size w w5:=bl_
         clear rh lh hb5
         go_wp2_with (go_at_call 32;refine (zxg _ _).mono ?_;rintro e w' ⟨rfl,rfl⟩)
         go_ret
         exact ⟨zqf (zhg hlt HBAD.out).symm,bl_⟩
        ·
         skip
         have HGOOD:=hd_ (show circB cs os[k] = true by rw [hat];simp [HT.out,ha,hb,he])
         clear hat
         go_wp2_with fail
         refine (zke bt bn bw cs hs os _ _ _ _ _ _ os[k].From os[k].To _ (by omega) ((HR.out.below (bl_)).more (by first | omega | (simp;omega) | (simp;done)))).mono ?_
         rintro e w5 ⟨rfl,hb5⟩
         have z5:=hb5.size
         try simp at z5
         rw [HT.out]
         obtain ⟨lh,l0,l1,l2,l3,l4,lf,lz⟩:=own5 (g:=wr.heap.size) hb5 (by first | omega | (simp;omega) | (simp;done)) (hp_)
         obtain ⟨rh,r0,r1,r2,r3,r4,r5,rf,rz⟩:=own6 hb5 (by first | omega | (simp;omega) | (simp;done)) (zqc ezz EH.out)
         have RH:=hd_ rh
         have hbw5 : Below w.heap.size w w5:=bl_
         clear rh lh hb5
         go_wp2_with (go_at_call 32;refine (zxg _ _).mono ?_;rintro e w' ⟨rfl,rfl⟩)
         go_roundw
         case rel => exact ⟨k + 1,by omega,by go_num,hd_ (by rw [zkf os _ hlt,HA.out,HGOOD.out];rfl),RH.out,bl_⟩
         case measure => simp [intOf];omega
       ·
        skip
        have HBAD:=hd_ (show circB cs os[k] = false by rw [hat];simp [HT.out,ha,hb])
        clear hat
        go_wp2_with fail
        refine (zke bt bn bw cs hs os _ _ _ _ _ _ os[k].From os[k].To _ (by omega) ((HR.out.below (bl_)).more (by first | omega | (simp;omega) | (simp;done)))).mono ?_
        rintro e w5 ⟨rfl,hb5⟩
        have z5:=hb5.size
        try simp at z5
        rw [HT.out]
        obtain ⟨lh,l0,l1,l2,l3,l4,lf,lz⟩:=own5 (g:=wr.heap.size) hb5 (by first | omega | (simp;omega) | (simp;done)) (hp_)
        obtain ⟨rh,r0,r1,r2,r3,r4,r5,rf,rz⟩:=own6 hb5 (by first | omega | (simp;omega) | (simp;done)) (zqc ezz EH.out)
        have RH:=hd_ rh
        have hbw5 : Below w.heap.size w w5:=bl_
        clear rh lh hb5
        go_wp2_with (go_at_call 32;refine (zxg _ _).mono ?_;rintro e w' ⟨rfl,rfl⟩)
        go_ret
        exact ⟨zqf (zhg hlt HBAD.out).symm,bl_⟩
    ·
     obtain rfl : k = os.length:=by omega
     have ha:=HA.out
     rw [List.take_length] at ha
     have HALL2:=hd_ ha
     clear ha HA
     go_wp2_with fail
     refine (s_l07Keys bt bn bw cs hs os _ _ _ _ _ _ _ h60 h20 ((HR.out.below (bl_)).more (by first | omega | (simp;omega) | (simp;done)))).mono ?_
     rintro e w8 ⟨B,cp,rfl,how8,hb8⟩
     have HW:=hd_ how8
     have hbw8 : Below w.heap.size w w8:=bl_
     clear how8
     go_wp2_with fail
     obtain ⟨wo,rfl⟩ : ∃ wo : World,wo = w8:=⟨_,rfl⟩
     obtain ⟨KS,hKS⟩ : ∃ KS,keysOf hs os = KS:=⟨_,rfl⟩
     rw [hKS] at HW ⊢
     have hkl : KS.length ≤ 80:=by rw [← hKS];unfold keysOf;simp;omega
     have HKS:=hd_ hKS
     clear hKS
     have hcp : KS.length ≤ cp:=by
      obtain ⟨_,cp2,hv2,_,hc2,_⟩:=HW.out.form
      injection hv2 with _ _ hcc
      rw [hcc]
      rwa [List.length_map] at hc2
     have hcm : cp ≤ maxLen:=by
      obtain ⟨_,cp2,hv2,_,_,hm2⟩:=HW.out.form
      injection hv2 with _ _ hcc
      rwa [hcc]
     unfold maxLen at hcm
     have HRK:=hd_ HW.out.rd
     go_loopw [91] (fun i wr' => ∃ k : Nat,k ≤ KS.length∧i = .int .i64 k∧Hid (everyTo k (keyAt KS) = true)∧wr' = wo) (fun i _ => KS.length - (intOf i).toNat)
     case atStart => exact ⟨0,Nat.zero_le _,rfl,hd_ rfl,rfl⟩
     case round =>
      obtain ⟨k,hk,rfl,HEV,rfl⟩:=hrel
      by_cases hlt : k < KS.length
      ·
       obtain ⟨b,off,rfl,hbB,c0⟩:=ints_rd HRK.out hlt
       have i1 : (0 : Int) ≤ (k : Int):=by omega
       have i2 : (k : Int) < (KS.length : Int):=by omega
       have i3 : (k : Int) ≤ (cp : Int):=by omega
       have HAS:=fun W => zhd (KS.take k) KS[k] (some ⟨b,off,none⟩) cp W (by rw [List.length_take];omega)
       simp only [List.length_take,Nat.min_eq_left (Nat.le_of_lt hlt),List.map_take] at HAS
       have HHAS:=hd_ HAS
       clear HAS
       have hat:=keyAt_s hlt
       cases hq : decide (KS[k] < 1)
       ·
        skip
        cases hq2 : decide (1000000 < KS[k])
        ·
         skip
         cases hh : hasB (KS.take k) KS[k]
         ·
          have HH2:=hd_ hh
          clear hh
          have HGOOD:=hd_ (show keyAt KS k = true by rw [hat];simp [hq,hq2,HH2.out])
          clear hat
          go_wp2_with fail
          refine (HHAS.out _ (HRK.out.take k)).mono ?_
          rintro e w7 ⟨rfl,rfl⟩
          rw [HH2.out]
          go_wp2_with fail
          go_roundw
          case rel => exact ⟨k + 1,by omega,by go_num,hd_ (by rw [zvj,HEV.out,HGOOD.out];rfl),trivial⟩
          case measure => simp [intOf];omega
         ·
          have HH2:=hd_ hh
          clear hh
          have HBAD:=hd_ (show keyAt KS k = false by rw [hat];simp [hq,hq2,HH2.out])
          clear hat
          go_wp2_with fail
          refine (HHAS.out _ (HRK.out.take k)).mono ?_
          rintro e w7 ⟨rfl,rfl⟩
          rw [HH2.out]
          go_wp2_with fail
          go_ret
          exact ⟨zqf (by exact (partsB_k (by rw [HKS.out];exact hlt) (by rw [HKS.out];exact HBAD.out)).symm),bl_⟩
        ·
         skip
         have HBAD:=hd_ (show keyAt KS k = false by rw [hat];simp [hq,hq2])
         clear hat
         go_wp2_with fail
         go_ret
         exact ⟨zqf (by exact (partsB_k (by rw [HKS.out];exact hlt) (by rw [HKS.out];exact HBAD.out)).symm),bl_⟩
       ·
        skip
        have HBAD:=hd_ (show keyAt KS k = false by rw [hat];simp [hq])
        clear hat
        go_wp2_with fail
        go_ret
        exact ⟨zqf (by exact (partsB_k (by rw [HKS.out];exact hlt) (by rw [HKS.out];exact HBAD.out)).symm),bl_⟩
      ·
       obtain rfl : k = KS.length:=by omega
       go_wp2_with fail
       go_ret
       exact ⟨zqf (by unfold partsB;rw [HALL1.out,HALL2.out,HKS.out,HEV.out];rfl),bl_⟩
end Go.Proofs.Ytdbmkfmenfcbiaa
