/- Books: partsOk: the walk of the program. -/
import Derived.Test.YtdbmkfmenfcbiaaGreatRows
import Derived.Test.YtdbmkfmenfcbiaaGreatSM1
namespace Go.Proofs.YtdbmkfmenfcbiaaGreat
open Go.RowKit
theorem htlcB_i (cs : List Chan) (h : Htlc) : htlcB cs h = (amtB h.AmtIn && !decide (h.AmtOut < 1) && !decide (h.AmtIn < h.AmtOut) && amtB h.Age && twoB cs h.In h.Out):=by
 rw [Bool.eq_iff_iff]
 simp only [htlcB,Bool.and_eq_true,zxy,zxx,Bool.not_eq_true',decide_eq_false_iff_not]
 constructor
 ·
  rintro ⟨⟨⟨h1,h2⟩,h3⟩,h4⟩;exact ⟨⟨⟨⟨h2,by omega⟩,by omega⟩,h4⟩,h1⟩
 ·
  rintro ⟨⟨⟨⟨h2,h3⟩,h5⟩,h4⟩,h1⟩;exact ⟨⟨⟨h1,h2⟩,by omega⟩,h4⟩
theorem htlcB_s (cs : List Chan) (h : Htlc) : htlcB cs h = (twoB cs h.In h.Out && amtB h.AmtIn && amtB h.AmtOut && !decide (h.AmtOut < 1) && !decide (h.AmtIn < h.AmtOut) && amtB h.Age):=by
 rw [Bool.eq_iff_iff]
 simp only [htlcB,Bool.and_eq_true,zxy,zxx,Bool.not_eq_true',decide_eq_false_iff_not]
 constructor
 ·
  rintro ⟨⟨⟨h1,h2⟩,h3⟩,h4⟩;exact ⟨⟨⟨⟨⟨h1,h2⟩,by omega⟩,by omega⟩,by omega⟩,h4⟩
 ·
  rintro ⟨⟨⟨⟨⟨h1,h2⟩,h3⟩,h5⟩,h6⟩,h4⟩;exact ⟨⟨⟨h1,h2⟩,by omega⟩,h4⟩
theorem zpw (cs : List Chan) (c : Circle) : circB cs c = (amtB c.Amt && !decide (c.Amt < 1) && amtB c.Fee && twoB cs c.From c.To):=by
 rw [Bool.eq_iff_iff]
 simp only [circB,Bool.and_eq_true,zxy,zxx,Bool.not_eq_true',decide_eq_false_iff_not]
 constructor
 ·
  rintro ⟨⟨h1,h2⟩,h3⟩;exact ⟨⟨⟨by omega,by omega⟩,h3⟩,h1⟩
 ·
  rintro ⟨⟨⟨h2,h4⟩,h3⟩,h1⟩;exact ⟨⟨h1,by omega⟩,h3⟩
theorem circB_s (cs : List Chan) (c : Circle) : circB cs c = (twoB cs c.From c.To && amtB c.Amt && !decide (c.Amt < 1) && amtB c.Fee):=by
 rw [zpw]
 cases twoB cs c.From c.To <;> simp
theorem keyAt_s {ks : List Int} {i : Nat} (h : i < ks.length) : keyAt ks i = (!decide (ks[i] < 1) && !decide (1000000 < ks[i]) && !hasB (ks.take i) ks[i]):=by
 rw [zvj h]
 congr 1
 rw [Bool.eq_iff_iff]
 simp only [zxx,Bool.and_eq_true,Bool.not_eq_true',decide_eq_false_iff_not]
 omega
def partsOkB (cs : List Chan) (hs : List Htlc) (os : List Circle) : Bool:=decide (hs.length ≤ 60) && decide (os.length ≤ 20) && partsB cs hs os
theorem zxt {cs : List Chan} {hs : List Htlc} {os : List Circle} (h60 : hs.length ≤ 60) (h20 : os.length ≤ 20) : partsOkB cs hs os = partsB cs hs os:=by simp [partsOkB,h60,h20]
set_option maxRecDepth 100000 in
set_option maxHeartbeats 8000000 in
theorem zys (bt bn bw : Int) (cs : List Chan) (hs : List Htlc) (os : List Circle) (A1 A2 A3 : Option Addr) (p1 p2 p3 : Nat) (w : World) (hc : cs.length ≤ 20) (h60 : hs.length ≤ 60) (h20 : os.length ≤ 20) (hr : RdBook w w.heap.size A1 cs A2 hs A3 os) :
  Calls Tryz.prog 83 #[.agg #[.int .i64 bt,.int .i64 bn,.int .i64 bw,.slice A1 cs.length p1,.slice A2 hs.length p2,.slice A3 os.length p3]] w fun e w' => e = .returned (.bool (partsOkB cs hs os))∧Below w.heap.size w w':=by
 have HR:=hd_ hr
 have HH:=hd_ hr.h
 have HO:=hd_ hr.o
 clear hr
 obtain ⟨i0,hi,hz0,hz1,hz2⟩:=info_parts zwe
 have HI:=hd_ hi
 have HZ0:=hd_ hz0
 have HZ1:=hd_ hz1
 have HZ2:=hd_ hz2
 clear hi hz0 hz1 hz2
 go_enter Tryz.func83,Tryz.ntmps83
 go_wp2_with fail
 go_loopw [4,25] (fun vk i wr => ∃ (k : Nat) (B : Option Addr) (cp : Nat),k ≤ hs.length∧i = .int .i64 k∧vk = .slice B ([] ++ (hs.take k).map Htlc.Key).length cp∧Ow wr (w.heap.size + 1) 3 1 (.slice B ([] ++ (hs.take k).map Htlc.Key).length cp) (([] ++ (hs.take k).map Htlc.Key).map intCells)∧Hid ((hs.take k).all (htlcB cs) = true)∧wr.heap[w.heap.size]? = some (.cells #[.int .i64 bt,.int .i64 bn,.int .i64 bw,.slice A1 cs.length p1,.slice A2 hs.length p2,.slice A3 os.length p3] 39 (0,0))∧Below w.heap.size w wr) (fun _ i _ => hs.length - (intOf i).toNat)
 case atStart => exact ⟨0,none,0,Nat.zero_le _,rfl,rfl,Ow.nil_,hd_ rfl,zqm rfl,bl_⟩
 case round =>
  obtain ⟨k,B,cp,hk,rfl,rfl,how,HA,hbox,hbw⟩:=hrel
  have hbz:=hbw.size
  obtain ⟨eh,e0,e1,e2,e3,e4,e5,ef,ezz⟩:=own6 (Below.refl wr.heap.size wr) (gz_ hbox).1 hbox
  have EH:=hd_ eh
  clear eh hbox
  have hrl : ([] ++ (hs.take k).map Htlc.Key).length ≤ 80:=by rw [zvk _ _ _ hk];simp;omega
  have NE:=hd_ (how.ne_ EH.out (by decide))
  have OB:=hd_ how.block
  have HW:=hd_ how
  clear how
  by_cases hlt : k < hs.length
  ·
   obtain ⟨b,off,rfl,hbB,c0,c1,c2,c3,c4,c5,c6⟩:=Htlc.rd (HH.out.below hbw) hlt
   have HK:=hd_ (zky [] hs Htlc.Key hlt)
   obtain ⟨ROWS,hROWS⟩ : ∃ R,([] ++ (hs.take k).map Htlc.Key) = R:=⟨_,rfl⟩
   rw [hROWS] at hrl NE OB HW HK ⊢
   clear hROWS
   have hat:=htlcB_i cs hs[k]
   cases ha : amtB hs[k].AmtIn
   ·
    skip
    have HBAD:=hd_ (show htlcB cs hs[k] = false by rw [hat];simp [ha])
    clear hat
    go_wp2_with (go_at_call 50;refine (zqt _ _).mono ?_;rintro e w' ⟨rfl,rfl⟩)
    go_ret
    exact ⟨zqj (by rw [zxt h60 h20];exact (zjl hlt HBAD.out).symm),bl_⟩
   ·
    skip
    cases hb : decide (hs[k].AmtOut < 1)
    ·
     skip
     cases hd : decide (hs[k].AmtIn < hs[k].AmtOut)
     ·
      skip
      cases he : amtB hs[k].Age
      ·
       skip
       have HBAD:=hd_ (show htlcB cs hs[k] = false by rw [hat];simp [ha,hb,hd,he])
       clear hat
       go_wp2_with (go_at_call 50;refine (zqt _ _).mono ?_;rintro e w' ⟨rfl,rfl⟩)
       go_ret
       exact ⟨zqj (by rw [zxt h60 h20];exact (zjl hlt HBAD.out).symm),bl_⟩
      ·
       skip
       cases ht : twoB cs hs[k].In hs[k].Out
       ·
        have HT:=hd_ ht
        clear ht
        have HBAD:=hd_ (show htlcB cs hs[k] = false by rw [hat];simp [ha,hb,hd,he,HT.out])
        clear hat
        go_wp2_with (go_at_call 50;refine (zqt _ _).mono ?_;rintro e w' ⟨rfl,rfl⟩)
        refine (zhz bt bn bw cs hs os _ _ _ _ _ _ hs[k].In hs[k].Out _ w.heap.size (zqg ezz EH.out) (by omega) ((HR.out.below (bl_)).more (by first | omega | (simp;omega) | (simp;done)))).mono ?_
        rintro e w5 ⟨rfl,hb5⟩
        have z5:=hb5.size
        try simp at z5
        rw [HT.out]
        go_wp2_with fail
        go_ret
        exact ⟨zqj (by rw [zxt h60 h20];exact (zjl hlt HBAD.out).symm),bl_⟩
       ·
        have HT:=hd_ ht
        clear ht
        have HGOOD:=hd_ (show htlcB cs hs[k] = true by rw [hat];simp [ha,hb,hd,he,HT.out])
        clear hat
        go_wp2_with (go_at_call 50;refine (zqt _ _).mono ?_;rintro e w' ⟨rfl,rfl⟩)
        refine (zhz bt bn bw cs hs os _ _ _ _ _ _ hs[k].In hs[k].Out _ w.heap.size (zqg ezz EH.out) (by omega) ((HR.out.below (bl_)).more (by first | omega | (simp;omega) | (simp;done)))).mono ?_
        rintro e w5 ⟨rfl,hb5⟩
        have z5:=hb5.size
        try simp at z5
        rw [HT.out]
        obtain ⟨lh,l0,l1,l2,l3,l4,l5,l6,lf,lz⟩:=own7 (g:=wr.heap.size) hb5 (by first | omega | (simp;omega) | (simp;done)) (hp_)
        obtain ⟨rh,r0,r1,r2,r3,r4,r5,rf,rz⟩:=own6 hb5 (by first | omega | (simp;omega) | (simp;done)) (zqg ezz EH.out)
        have RH:=hd_ rh
        have hbw5 : Below w.heap.size w w5:=bl_
        have hbz5:=hbw5.size
        have HW5:=hd_ ((HW.out.alloc _).below hb5)
        have KE:=hd_ (fun o2 (w6 : World) (hgr : (w5.alloc o2).grownBy w6 (Value.slice B ROWS.length cp).ownBlock) => ownG6 hgr NE.out (zqg rz RH.out))
        have KB:=hd_ (fun o2 (w6 : World) (hgr : (w5.alloc o2).grownBy w6 (Value.slice B ROWS.length cp).ownBlock) => (hbw5.alloc hbz5 o2).grown hgr (by simp;omega) (fun k e => by have:=(OB.out k e).1;omega))
        clear rh lh hb5
        go_wp2_with (at_builtin;refine zqr rfl _ _ _ rfl (w.heap.size + 1) 3 i0 _ 1 8 Tryz.underlying41 HI.out HZ0.out HZ1.out HZ2.out rfl (by decide) (.slice B ROWS.length cp) (ROWS.map intCells) rfl (HW5.out.alloc _) w5.heap.size 1 [.int .i64 hs[k].Key] 3 rfl (zqm (by first | rfl | (simp;done))) rfl (by simp [Value.oneCell']) (by rw [List.length_map];omega) (by decide) (by first | omega | (simp;omega) | (simp;done)) ?_;intro g cap' w6 how6 hgr6 hat6 hlt6;rw [List.length_map] at how6;rw [List.length_map];obtain ⟨xh,x0,x1,x2,x3,x4,x5,xf,xz⟩:=KE.out _ _ hgr6;have hb6:=KB.out _ _ hgr6;have XH:=hd_ xh;have O6:=hd_ how6;clear xh how6 hgr6 hat6)
        go_roundw
        case rel =>
         refine ⟨k + 1,some ⟨g,0,none⟩,cap',by omega,by go_num,by rw [HK.out,List.length_append];rfl,?_,hd_ (by rw [zjb hs _ hlt,HA.out,HGOOD.out];rfl),XH.out,hb6⟩
         rw [HK.out,List.map_append,List.length_append]
         exact O6.out
        case measure => simp [intOf];omega
     ·
      skip
      have HBAD:=hd_ (show htlcB cs hs[k] = false by rw [hat];simp [ha,hb,hd])
      clear hat
      go_wp2_with (go_at_call 50;refine (zqt _ _).mono ?_;rintro e w' ⟨rfl,rfl⟩)
      go_ret
      exact ⟨zqj (by rw [zxt h60 h20];exact (zjl hlt HBAD.out).symm),bl_⟩
    ·
     skip
     have HBAD:=hd_ (show htlcB cs hs[k] = false by rw [hat];simp [ha,hb])
     clear hat
     go_wp2_with (go_at_call 50;refine (zqt _ _).mono ?_;rintro e w' ⟨rfl,rfl⟩)
     go_ret
     exact ⟨zqj (by rw [zxt h60 h20];exact (zjl hlt HBAD.out).symm),bl_⟩
  ·
   obtain rfl : k = hs.length:=by omega
   have ha:=HA.out
   rw [List.take_length] at ha
   have HALL1:=hd_ ha
   clear ha HA
   rw [List.take_length,List.nil_append] at HW hrl ⊢
   rw [List.length_map] at hrl
   go_wp2_with fail
   obtain ⟨wo,rfl⟩ : ∃ wo : World,wo = wr:=⟨_,rfl⟩
   go_loopw [4,69] (fun vk i wr => ∃ (k : Nat) (B : Option Addr) (cp : Nat),k ≤ os.length∧i = .int .i64 k∧vk = .slice B ((hs.map Htlc.Key) ++ (os.take k).map Circle.Key).length cp∧Ow wr (w.heap.size + 1) 3 1 (.slice B ((hs.map Htlc.Key) ++ (os.take k).map Circle.Key).length cp) (((hs.map Htlc.Key) ++ (os.take k).map Circle.Key).map intCells)∧Hid ((os.take k).all (circB cs) = true)∧wr.heap[w.heap.size]? = some (.cells #[.int .i64 bt,.int .i64 bn,.int .i64 bw,.slice A1 cs.length p1,.slice A2 hs.length p2,.slice A3 os.length p3] 39 (0,0))∧Below w.heap.size w wr) (fun _ i _ => os.length - (intOf i).toNat)
   case atStart => exact ⟨0,B,cp,Nat.zero_le _,rfl,by simp,by simpa using HW.out,hd_ rfl,EH.out,hbw⟩
   case round =>
    obtain ⟨k,B,cp,hk,rfl,rfl,how,HA,hbox,hbw⟩:=hrel
    have hbz:=hbw.size
    obtain ⟨eh,e0,e1,e2,e3,e4,e5,ef,ezz⟩:=own6 (Below.refl wr.heap.size wr) (gz_ hbox).1 hbox
    have EH:=hd_ eh
    clear eh hbox
    have hrl : ((hs.map Htlc.Key) ++ (os.take k).map Circle.Key).length ≤ 80:=by rw [zvk _ _ _ hk];rw [List.length_map];omega
    have NE:=hd_ (how.ne_ EH.out (by decide))
    have OB:=hd_ how.block
    have HW:=hd_ how
    clear how
    by_cases hlt : k < os.length
    ·
     obtain ⟨b,off,rfl,hbB,c0,c1,c2,c3,c4⟩:=Circle.rd (HO.out.below hbw) hlt
     have HK:=hd_ (zky (hs.map Htlc.Key) os Circle.Key hlt)
     obtain ⟨ROWS,hROWS⟩ : ∃ R,((hs.map Htlc.Key) ++ (os.take k).map Circle.Key) = R:=⟨_,rfl⟩
     rw [hROWS] at hrl NE OB HW HK ⊢
     clear hROWS
     have hat:=zpw cs os[k]
     cases ha : amtB os[k].Amt
     ·
      skip
      have HBAD:=hd_ (show circB cs os[k] = false by rw [hat];simp [ha])
      clear hat
      go_wp2_with (go_at_call 50;refine (zqt _ _).mono ?_;rintro e w' ⟨rfl,rfl⟩)
      go_ret
      exact ⟨zqj (by rw [zxt h60 h20];exact (zkg hlt HBAD.out).symm),bl_⟩
     ·
      skip
      cases hb : decide (os[k].Amt < 1)
      ·
       skip
       cases he : amtB os[k].Fee
       ·
        skip
        have HBAD:=hd_ (show circB cs os[k] = false by rw [hat];simp [ha,hb,he])
        clear hat
        go_wp2_with (go_at_call 50;refine (zqt _ _).mono ?_;rintro e w' ⟨rfl,rfl⟩)
        go_ret
        exact ⟨zqj (by rw [zxt h60 h20];exact (zkg hlt HBAD.out).symm),bl_⟩
       ·
        skip
        cases ht : twoB cs os[k].From os[k].To
        ·
         have HT:=hd_ ht
         clear ht
         have HBAD:=hd_ (show circB cs os[k] = false by rw [hat];simp [ha,hb,he,HT.out])
         clear hat
         go_wp2_with (go_at_call 50;refine (zqt _ _).mono ?_;rintro e w' ⟨rfl,rfl⟩)
         refine (zhz bt bn bw cs hs os _ _ _ _ _ _ os[k].From os[k].To _ w.heap.size (zqg ezz EH.out) (by omega) ((HR.out.below (bl_)).more (by first | omega | (simp;omega) | (simp;done)))).mono ?_
         rintro e w5 ⟨rfl,hb5⟩
         have z5:=hb5.size
         try simp at z5
         rw [HT.out]
         go_wp2_with fail
         go_ret
         exact ⟨zqj (by rw [zxt h60 h20];exact (zkg hlt HBAD.out).symm),bl_⟩
        ·
         have HT:=hd_ ht
         clear ht
         have HGOOD:=hd_ (show circB cs os[k] = true by rw [hat];simp [ha,hb,he,HT.out])
         clear hat
         go_wp2_with (go_at_call 50;refine (zqt _ _).mono ?_;rintro e w' ⟨rfl,rfl⟩)
         refine (zhz bt bn bw cs hs os _ _ _ _ _ _ os[k].From os[k].To _ w.heap.size (zqg ezz EH.out) (by omega) ((HR.out.below (bl_)).more (by first | omega | (simp;omega) | (simp;done)))).mono ?_
         rintro e w5 ⟨rfl,hb5⟩
         have z5:=hb5.size
         try simp at z5
         rw [HT.out]
         obtain ⟨lh,l0,l1,l2,l3,l4,lf,lz⟩:=own5 (g:=wr.heap.size) hb5 (by first | omega | (simp;omega) | (simp;done)) (hp_)
         obtain ⟨rh,r0,r1,r2,r3,r4,r5,rf,rz⟩:=own6 hb5 (by first | omega | (simp;omega) | (simp;done)) (zqg ezz EH.out)
         have RH:=hd_ rh
         have hbw5 : Below w.heap.size w w5:=bl_
         have hbz5:=hbw5.size
         have HW5:=hd_ ((HW.out.alloc _).below hb5)
         have KE:=hd_ (fun o2 (w6 : World) (hgr : (w5.alloc o2).grownBy w6 (Value.slice B ROWS.length cp).ownBlock) => ownG6 hgr NE.out (zqg rz RH.out))
         have KB:=hd_ (fun o2 (w6 : World) (hgr : (w5.alloc o2).grownBy w6 (Value.slice B ROWS.length cp).ownBlock) => (hbw5.alloc hbz5 o2).grown hgr (by simp;omega) (fun k e => by have:=(OB.out k e).1;omega))
         clear rh lh hb5
         go_wp2_with (at_builtin;refine zqr rfl _ _ _ rfl (w.heap.size + 1) 3 i0 _ 1 8 Tryz.underlying41 HI.out HZ0.out HZ1.out HZ2.out rfl (by decide) (.slice B ROWS.length cp) (ROWS.map intCells) rfl (HW5.out.alloc _) w5.heap.size 1 [.int .i64 os[k].Key] 3 rfl (zqm (by first | rfl | (simp;done))) rfl (by simp [Value.oneCell']) (by rw [List.length_map];omega) (by decide) (by first | omega | (simp;omega) | (simp;done)) ?_;intro g cap' w6 how6 hgr6 hat6 hlt6;rw [List.length_map] at how6;rw [List.length_map];obtain ⟨xh,x0,x1,x2,x3,x4,x5,xf,xz⟩:=KE.out _ _ hgr6;have hb6:=KB.out _ _ hgr6;have XH:=hd_ xh;have O6:=hd_ how6;clear xh how6 hgr6 hat6)
         go_roundw
         case rel =>
          refine ⟨k + 1,some ⟨g,0,none⟩,cap',by omega,by go_num,by rw [HK.out,List.length_append];rfl,?_,hd_ (by rw [zjb os _ hlt,HA.out,HGOOD.out];rfl),XH.out,hb6⟩
          rw [HK.out,List.map_append,List.length_append]
          exact O6.out
         case measure => simp [intOf];omega
      ·
       skip
       have HBAD:=hd_ (show circB cs os[k] = false by rw [hat];simp [ha,hb])
       clear hat
       go_wp2_with (go_at_call 50;refine (zqt _ _).mono ?_;rintro e w' ⟨rfl,rfl⟩)
       go_ret
       exact ⟨zqj (by rw [zxt h60 h20];exact (zkg hlt HBAD.out).symm),bl_⟩
    ·
     obtain rfl : k = os.length:=by omega
     have ha:=HA.out
     rw [List.take_length] at ha
     have HALL2:=hd_ ha
     clear ha HA
     have hkeys : (hs.map Htlc.Key) ++ (os.take os.length).map Circle.Key = keysOf hs os:=by rw [List.take_length];rfl
     rw [hkeys] at HW ⊢
     clear hkeys NE OB hrl
     go_wp2_with fail
     obtain ⟨wo,rfl⟩ : ∃ wo : World,wo = wr:=⟨_,rfl⟩
     obtain ⟨KS,hKS⟩ : ∃ KS,keysOf hs os = KS:=⟨_,rfl⟩
     rw [hKS] at HW ⊢
     have hkl : KS.length ≤ 80:=by rw [← hKS];unfold keysOf;simp;omega
     have HKS:=hd_ hKS
     clear hKS
     have hcp : KS.length ≤ cp:=by
      obtain ⟨_,cp2,hv2,_,hc2,_⟩:=HW.out.form
      injection hv2 with _ _ hcc
      rw [hcc]
      rwa [List.length_map] at hc2
     have hcm : cp ≤ maxLen:=by
      obtain ⟨_,cp2,hv2,_,_,hm2⟩:=HW.out.form
      injection hv2 with _ _ hcc
      rwa [hcc]
     unfold maxLen at hcm
     have HRK:=hd_ HW.out.rd
     go_loopw [105] (fun i wr' => ∃ k : Nat,k ≤ KS.length∧i = .int .i64 k∧Hid (everyTo k (keyAt KS) = true)∧wr' = wo) (fun i _ => KS.length - (intOf i).toNat)
     case atStart => exact ⟨0,Nat.zero_le _,rfl,hd_ rfl,rfl⟩
     case round =>
      obtain ⟨k,hk,rfl,HEV,rfl⟩:=hrel
      by_cases hlt : k < KS.length
      ·
       obtain ⟨b,off,rfl,hbB,c0⟩:=zvu HRK.out hlt
       have i1 : (0 : Int) ≤ (k : Int):=by omega
       have i2 : (k : Int) < (KS.length : Int):=by omega
       have i3 : (k : Int) ≤ (cp : Int):=by omega
       have HAS:=fun W => i_hasInt (KS.take k) KS[k] (some ⟨b,off,none⟩) cp W (by rw [List.length_take];omega)
       simp only [List.length_take,Nat.min_eq_left (Nat.le_of_lt hlt),List.map_take] at HAS
       have HHAS:=hd_ HAS
       clear HAS
       have hat:=zvj hlt
       cases hq : inB KS[k] 1 1000000
       ·
        skip
        have HBAD:=hd_ (show keyAt KS k = false by rw [hat];simp [hq])
        clear hat
        go_wp2_with (go_at_call 140;refine (zxg _ _).mono ?_;rintro e w' ⟨rfl,rfl⟩)
        go_ret
        exact ⟨zqj (by rw [zxt h60 h20];exact (zvo (by rw [HKS.out];exact hlt) (by rw [HKS.out];exact HBAD.out)).symm),bl_⟩
       ·
        skip
        cases hh : hasB (KS.take k) KS[k]
        ·
         have HH2:=hd_ hh
         clear hh
         have HGOOD:=hd_ (show keyAt KS k = true by rw [hat];simp [hq,HH2.out])
         clear hat
         go_wp2_with (go_at_call 140;refine (zxg _ _).mono ?_;rintro e w' ⟨rfl,rfl⟩)
         refine (HHAS.out _ (HRK.out.take k)).mono ?_
         rintro e w7 ⟨rfl,rfl⟩
         rw [HH2.out]
         go_wp2_with fail
         go_roundw
         case rel => exact ⟨k + 1,by omega,by go_num,hd_ (by rw [zjh,HEV.out,HGOOD.out];rfl),trivial⟩
         case measure => simp [intOf];omega
        ·
         have HH2:=hd_ hh
         clear hh
         have HBAD:=hd_ (show keyAt KS k = false by rw [hat];simp [hq,HH2.out])
         clear hat
         go_wp2_with (go_at_call 140;refine (zxg _ _).mono ?_;rintro e w' ⟨rfl,rfl⟩)
         refine (HHAS.out _ (HRK.out.take k)).mono ?_
         rintro e w7 ⟨rfl,rfl⟩
         rw [HH2.out]
         go_wp2_with fail
         go_ret
         exact ⟨zqj (by rw [zxt h60 h20];exact (zvo (by rw [HKS.out];exact hlt) (by rw [HKS.out];exact HBAD.out)).symm),bl_⟩
      ·
       obtain rfl : k = KS.length:=by omega
       go_wp2_with fail
       go_ret
       exact ⟨zqj (by rw [zxt h60 h20];unfold partsB;rw [HALL1.out,HALL2.out,HKS.out,HEV.out];rfl),bl_⟩
theorem zyr (bt bn bw : Int) (cs : List Chan) (hs : List Htlc) (os : List Circle) (A1 A2 A3 : Option Addr) (p1 p2 p3 : Nat) (w : World) (hc : cs.length ≤ 20) (hh : hs.length ≤ 1048576) (ho : os.length ≤ 1048576) (hr : RdBook w w.heap.size A1 cs A2 hs A3 os) :
  Calls Tryz.prog 83 #[.agg #[.int .i64 bt,.int .i64 bn,.int .i64 bw,.slice A1 cs.length p1,.slice A2 hs.length p2,.slice A3 os.length p3]] w fun e w' => e = .returned (.bool (partsOkB cs hs os))∧Below w.heap.size w w':=by
 by_cases h60 : hs.length ≤ 60
 ·
  by_cases h20 : os.length ≤ 20
  ·
   exact zys bt bn bw cs hs os A1 A2 A3 p1 p2 p3 w hc h60 h20 hr
  ·
   clear hr
   have h1 : decide ((60 : Int) < (hs.length : Int)) = false:=decide_eq_false (by omega)
   have h2 : decide ((20 : Int) < (os.length : Int)) = true:=decide_eq_true (by omega)
   have HE:=hd_ (show partsOkB cs hs os = false by simp [partsOkB,h20])
   go_enter Tryz.func83,Tryz.ntmps83
   go_wp2_with fail
   go_ret
   exact ⟨zqj HE.out.symm,bl_⟩
 ·
  clear hr
  have h1 : decide ((60 : Int) < (hs.length : Int)) = true:=decide_eq_true (by omega)
  have HE:=hd_ (show partsOkB cs hs os = false by simp [partsOkB,h60])
  go_enter Tryz.func83,Tryz.ntmps83
  go_wp2_with fail
  go_ret
  exact ⟨zqj HE.out.symm,bl_⟩
end Go.Proofs.YtdbmkfmenfcbiaaGreat
