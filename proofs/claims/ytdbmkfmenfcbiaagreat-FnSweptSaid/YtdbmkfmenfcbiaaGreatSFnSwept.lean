/- For every draw: swept payments are removed, all of them can be, and nothing that is owned is lost: the walk. -/
import Derived.Test.YtdbmkfmenfcbiaaGreatRows
import Derived.Test.YtdbmkfmenfcbiaaGreatSDrawSw
import Derived.Test.YtdbmkfmenfcbiaaGreatSM4
import Derived.Test.YtdbmkfmenfcbiaaGreatSIAl7
import Derived.Test.YtdbmkfmenfcbiaaGreatSM3
import Derived.Test.YtdbmkfmenfcbiaaGreatSBookOs
namespace Go.Proofs.YtdbmkfmenfcbiaaGreat
open Go.RowKit Go.Deep
theorem zpk {bt bn bw : Int} {cs : List Chan} {hs : List Htlc} {os : List Circle} {age : Int} : ∀ e ∈ sweepOf bt bn bw cs hs os age,e.Kind = 7:=by
 intro e he
 unfold sweepOf at he
 obtain ⟨k,_,rfl⟩:=List.mem_map.1 he
 rfl
theorem zpl {bt bn bw : Int} {cs : List Chan} {hs : List Htlc} {os : List Circle} {age : Int} (h : bookB bt bn bw cs hs os = false) : sweepOf bt bn bw cs hs os age = []:=by
 unfold sweepOf agedOf
 rw [if_neg (by rw [h];decide)]
 rfl
theorem zhd {bt bn bw : Int} {cs : List Chan} {hs : List Htlc} {os : List Circle} {age : Int} (h : bookB bt bn bw cs hs os = true) {ES : List Event} (hES : sweepOf bt bn bw cs hs os age = ES) {r : Bk × List (Int × List Line) × List Int} (hr : r = allF ⟨bt,bn,bw,cs,hs,os⟩ ES) (hn : bn + (ES.length : Int) < 1125899906842624) :
  (∀ c ∈ r.2.2,c = 0)∧agedOf r.1.t r.1.n r.1.w r.1.cs r.1.hs r.1.os age = []∧totalOf r.1.t r.1.n r.1.w r.1.cs r.1.hs r.1.os = totalOf bt bn bw cs hs os∧r.2.1.length = ES.length:=by
 have e1 : ES = (agedF age hs).map evOf:=by
  rw [← hES]
  unfold sweepOf agedOf
  rw [if_pos h]
 have hl : ES.length = (agedF age hs).length:=by rw [e1,List.length_map]
 obtain ⟨k1,k2,k3,k4,k5⟩:=zsk (b:=⟨bt,bn,bw,cs,hs,os⟩) h age (by simp only;rw [← hl];exact hn)
 rw [← e1] at k1 k2 k3 k4 k5
 subst hr
 refine ⟨k1,?_,?_,k5.trans hl.symm⟩
 ·
  unfold agedOf
  rw [k3]
  split <;> rfl
 ·
  unfold totalOf
  rw [if_pos h]
  exact (if_pos (show bookB _ _ _ _ _ _ = true from k2)).trans k4
set_option maxRecDepth 100000 in
set_option maxHeartbeats 4000000 in
theorem zgn (A : Option Addr) (n cap : Nat) (w : World) (hc : CodeIn w A n cap) :
  Calls Tryz.prog 5 #[.slice A n cap] w fun e w' => e = .returned (.bool true)∧Below w.heap.size w w':=by
 have hnm:=hc.len
 unfold maxLen at hnm
 by_cases hn : n ≤ 1048576
 ·
  have HC:=hd_ (hc.code hn)
  clear hc
  go_enter Tryz.func5,Tryz.ntmps5
  go_wp2_with fail
  refine (ztw A n cap _ HC.out).mono ?_
  rintro e w1 ⟨⟨bt,bn,bw,cs,hs,os⟩,age,C1,C2,C3,q1,q2,q3,rfl,hob,hlen,-,hb1⟩
  obtain ⟨lc,lh,lo⟩:=hlen
  dsimp only at lc lh lo ⊢
  have HG_w1:=hd_ hb1
  have OW_w1:=hd_ hob
  clear hob hb1 HC
  obtain ⟨ES,hES⟩ : ∃ ES,sweepOf bt bn bw cs hs os age = ES:=⟨_,rfl⟩
  have hlE : ES.length ≤ 61:=by rw [← hES];exact Nat.le_trans (zmd bt bn bw cs hs os age) lh
  have HK7 : Hid (∀ e ∈ ES,e.Kind = 7):=hd_ (by rw [← hES];exact zpk)
  have HES:=hd_ hES
  clear hES
  go_upto_region 4 with fail
  refine nm_ ?_
  intro w2 hw
  have HG_w2 : Hid (Below w.heap.size w w2):=hd_ (by rw [hw];exact (HG_w1.out).alloc (by have:=HG_w1.out.size;first | omega | (simp;done) | (simp;omega)) _)
  have OW_w2 : Hid (OwB w2 w.heap.size ⟨bt,bn,bw,cs,hs,os⟩ C1 C2 C3 q1 q2 q3):=hd_ (by rw [hw];exact (OW_w1.out).alloc _)
  obtain ⟨NB,h9N⟩ : ∃ v,v = w1.heap.size:=⟨_,rfl⟩
  have HN_w2 : Hid (Hx w2 NB #[.int .i64 bt,.int .i64 bn,.int .i64 bw,.slice C1 cs.length q1,.slice C2 hs.length q2,.slice C3 os.length q3] 39):=hd_ (by rw [hw,h9N];first | done | exact zqm (by first | rfl | (simp;done)))
  have HLN : Hid (w.heap.size ≤ NB):=hd_ (by have:=HG_w1.out.size;omega)
  try rw [← h9N]
  clear hw h9N
  obtain ⟨N0,N1,N2,N3,N4,N5,Nf,Nz⟩:=box6_ HN_w2.out
  go_wp2_with fail
  refine (i_Sweep bt bn bw cs hs os _ _ _ _ _ _ age _ (by omega) (by omega) (by omega) ⟨OW_w2.out.c.rd,OW_w2.out.h.rd,OW_w2.out.o.rd⟩).mono ?_
  rintro e' w3 ⟨AE,pe,rfl,ho,hb⟩
  rw [HES.out] at ho ⊢
  have OE_w3 : Hid (Ow w3 w.heap.size 64 7 (.slice AE ES.length pe) (ES.map Event.cells)):=hd_ (ho.more HG_w2.out.size)
  clear ho
  have HG_w3:=hd_ (HG_w2.out.trans (hb.mono HG_w2.out.size))
  have HN_w3:=hd_ (zqe hb (gz_ HN_w2.out).1 HN_w2.out)
  have OW_w3:=hd_ (OW_w2.out.below hb)
  clear hb
  clear N0 N1 N2 N3 N4 N5 Nf Nz
  obtain ⟨N0,N1,N2,N3,N4,N5,Nf,Nz⟩:=box6_ HN_w3.out
  go_wp2_with fail
  refine (s_Sweep bt bn bw cs hs os _ _ _ _ _ _ age _ (by omega) (by omega) (by omega) ⟨OW_w3.out.c.rd,OW_w3.out.h.rd,OW_w3.out.o.rd⟩).mono ?_
  rintro e' w4 ⟨AE2,pe2,rfl,ho,hb⟩
  rw [HES.out]
  clear ho
  have HG_w4:=hd_ (HG_w3.out.trans (hb.mono HG_w3.out.size))
  have HN_w4:=hd_ (zqe hb (gz_ HN_w3.out).1 HN_w3.out)
  have OW_w4:=hd_ (OW_w3.out.below hb)
  have OE_w4:=hd_ (OE_w3.out.below hb)
  clear hb
  clear N0 N1 N2 N3 N4 N5 Nf Nz
  obtain ⟨N0,N1,N2,N3,N4,N5,Nf,Nz⟩:=box6_ HN_w4.out
  go_wp2_with fail
  refine (ztt ⟨bt,bn,bw,cs,hs,os⟩ ES _ _ _ _ _ _ _ _ _ (by simp only;omega) (by simp only;omega) (by simp only;omega) (by omega) ⟨OW_w4.out.c.rd,OW_w4.out.h.rd,OW_w4.out.o.rd⟩ OE_w4.out.rd HK7.out).mono ?_
  rintro e' w5 ⟨⟨nt,nn,nw,ncs,nhs,nos⟩,ps,cds,D1,D2,D3,P1,P2,s1,s2,s3,d1,d2,rfl,hob2,-,-,hcd,hb,hlen2,hres⟩
  obtain ⟨lc2,lh2,lo2⟩:=hlen2
  dsimp only at lc2 lh2 lo2 hres ⊢
  have OY_w5 : Hid (OwB w5 w.heap.size ⟨nt,nn,nw,ncs,nhs,nos⟩ D1 D2 D3 s1 s2 s3):=hd_ (hob2.more HG_w4.out.size)
  have OC_w5 : Hid (Ow w5 w.heap.size 3 1 (.slice P2 cds.length d2) (cds.map intCells)):=hd_ (hcd.more HG_w4.out.size)
  have HRES:=hd_ hres
  clear hob2 hcd hres
  have HG_w5:=hd_ (HG_w4.out.trans (hb.mono HG_w4.out.size))
  have HN_w5:=hd_ (zqe hb (gz_ HN_w4.out).1 HN_w4.out)
  have OW_w5:=hd_ (OW_w4.out.below hb)
  have OE_w5:=hd_ (OE_w4.out.below hb)
  clear hb
  clear N0 N1 N2 N3 N4 N5 Nf Nz
  obtain ⟨N0,N1,N2,N3,N4,N5,Nf,Nz⟩:=box6_ HN_w5.out
  go_upto_region 8 with fail
  refine nm_ ?_
  intro w6 hw
  have HG_w6 : Hid (Below w.heap.size w w6):=hd_ (by rw [hw];exact (HG_w5.out).alloc (by have:=HG_w5.out.size;first | omega | (simp;done) | (simp;omega)) _)
  have HN_w6 : Hid (Hx w6 NB #[.int .i64 bt,.int .i64 bn,.int .i64 bw,.slice C1 cs.length q1,.slice C2 hs.length q2,.slice C3 os.length q3] 39):=hd_ (by rw [hw];exact zqg (by have:=(gz_ HN_w5.out).1;first | omega | (simp;omega)) (HN_w5.out))
  have OW_w6 : Hid (OwB w6 w.heap.size ⟨bt,bn,bw,cs,hs,os⟩ C1 C2 C3 q1 q2 q3):=hd_ (by rw [hw];exact (OW_w5.out).alloc _)
  have OY_w6 : Hid (OwB w6 w.heap.size ⟨nt,nn,nw,ncs,nhs,nos⟩ D1 D2 D3 s1 s2 s3):=hd_ (by rw [hw];exact (OY_w5.out).alloc _)
  have OC_w6 : Hid (Ow w6 w.heap.size 3 1 (.slice P2 cds.length d2) (cds.map intCells)):=hd_ (by rw [hw];exact (OC_w5.out).alloc _)
  obtain ⟨MB,h9M⟩ : ∃ v,v = w5.heap.size:=⟨_,rfl⟩
  have HM_w6 : Hid (Hx w6 MB #[.int .i64 nt,.int .i64 nn,.int .i64 nw,.slice D1 ncs.length s1,.slice D2 nhs.length s2,.slice D3 nos.length s3] 39):=hd_ (by rw [hw,h9M];first | done | exact zqm (by first | rfl | (simp;done)))
  have HLM : Hid (w.heap.size ≤ MB):=hd_ (by have:=HG_w5.out.size;omega)
  try rw [← h9M]
  have HNMN : Hid (MB ≠ NB):=hd_ (by have:=(gz_ HN_w5.out).1;omega)
  clear hw h9M
  clear N0 N1 N2 N3 N4 N5 Nf Nz
  obtain ⟨N0,N1,N2,N3,N4,N5,Nf,Nz⟩:=box6_ HN_w6.out
  obtain ⟨M0,M1,M2,M3,M4,M5,Mf,Mz⟩:=box6_ HM_w6.out
  have hlcd : cds.length ≤ 61:=by
   have h9:=HRES.out
   cases hbk : bookB bt bn bw cs hs os
   ·
    have h8 : (Bk.ok ⟨bt,bn,bw,cs,hs,os⟩) = false:=hbk
    rw [h8] at h9
    simp at h9
    rw [h9.2.2];simp
   ·
    have h8 : (Bk.ok ⟨bt,bn,bw,cs,hs,os⟩) = true:=hbk
    rw [h8,if_pos rfl] at h9
    have h7:=zsp ⟨bt,bn,bw,cs,hs,os⟩ ES
    rw [← h9] at h7
    simp only at h7
    omega
  have HLC:=hd_ hlcd
  clear hlcd
  go_wp2_with fail
  clear N0 N1 N2 N3 N4 N5 M0 M1 M2 M3 M4 M5 Nf Mf Nz Mz
  go_loopw [10,38] (fun vc i wr => ∃ k : Nat,k ≤ cds.length∧i = .int .i64 k∧Hid (Hx wr NB #[.int .i64 bt,.int .i64 bn,.int .i64 bw,.slice C1 cs.length q1,.slice C2 hs.length q2,.slice C3 os.length q3] 39)∧Hid (Hx wr MB #[.int .i64 nt,.int .i64 nn,.int .i64 nw,.slice D1 ncs.length s1,.slice D2 nhs.length s2,.slice D3 nos.length s3] 39)∧Hid (OwB wr w.heap.size ⟨bt,bn,bw,cs,hs,os⟩ C1 C2 C3 q1 q2 q3)∧Hid (OwB wr w.heap.size ⟨nt,nn,nw,ncs,nhs,nos⟩ D1 D2 D3 s1 s2 s3)∧Hid (Ow wr w.heap.size 3 1 (.slice P2 cds.length d2) (cds.map intCells))∧Hid (Below w.heap.size w wr)) (fun _ i _ => cds.length - (intOf i).toNat)
  case atStart => exact ⟨0,Nat.zero_le _,rfl,HN_w6,HM_w6,OW_w6,OY_w6,OC_w6,HG_w6⟩
  case round =>
   clear HN_w6 HM_w6 OW_w6 OY_w6 OC_w6 HG_w6
   obtain ⟨k,hk,rfl,HN_wr,HM_wr,OW_wr,OY_wr,OC_wr,HG_wr⟩:=hrel
   have hlcd:=HLC.out
   by_cases hlt : k < cds.length
   ·
    obtain ⟨N0,N1,N2,N3,N4,N5,Nf,Nz⟩:=box6_ HN_wr.out
    obtain ⟨M0,M1,M2,M3,M4,M5,Mf,Mz⟩:=box6_ HM_wr.out
    obtain ⟨g,hA,-⟩:=OC_wr.out.headW (by rw [List.length_map];omega)
    subst hA
    have cc : wr.cell? ⟨g,k,none⟩ = some (.int .i64 cds[k]):=by
     have h9:=OC_wr.out.cellAt (show (cds.map intCells)[k]? = some (intCells cds[k]) by rw [List.getElem?_map,List.getElem?_eq_getElem hlt];rfl) (j:=0) (by decide)
     rw [Nat.mul_one,Nat.add_zero] at h9
     exact h9
    have k0 : (0 : Int) ≤ (k : Int):=by omega
    have k1 : (k : Int) < (cds.length : Int):=by omega
    obtain ⟨c,hcc⟩ : ∃ c,c = cds[k]:=⟨_,rfl⟩
    have HCC:=hd_ hcc
    rw [← hcc] at cc
    clear hcc
    cases tc : (c == 0)
    ·
     have hbk : bookB bt bn bw cs hs os = true:=by
      cases h9 : bookB bt bn bw cs hs os
      ·
       have h8:=HRES.out
       have h7 : (Bk.ok ⟨bt,bn,bw,cs,hs,os⟩) = false:=h9
       rw [h7] at h8
       simp at h8
       rw [h8.2.2] at hlt
       exact absurd hlt (by simp)
      ·
       rfl
     have hnn:=(zxp hbk).n
     have hbig : ¬ bn + (ES.length : Int) < 1125899906842624:=fun h9 => by
      have h8:=HRES.out
      have h7 : (Bk.ok ⟨bt,bn,bw,cs,hs,os⟩) = true:=hbk
      rw [h7,if_pos rfl] at h8
      have h6:=(zhd hbk HES.out h8 h9).1 c (by rw [HCC.out];exact List.getElem_mem hlt)
      rw [h6] at tc
      exact absurd tc (by decide)
     have tn : (c != 0) = true:=by simp [bne,tc]
     have ws : IntKind.i64.wrap (bn + (ES.length : Int)) = bn + (ES.length : Int):=IntWalk.i64_in _ ⟨by omega,by omega⟩
     have td : decide (bn + (ES.length : Int) < 1125899906842624) = false:=decide_eq_false hbig
     clear hbig hnn hbk
     go_wp2_with fail
     go_roundw
     case rel => exact ⟨k + 1,by omega,by go_num,HN_wr,HM_wr,OW_wr,OY_wr,OC_wr,HG_wr⟩
     case measure => simp [intOf];omega
    ·
     have tn : (c != 0) = false:=by simp [bne,tc]
     go_wp2_with fail
     go_roundw
     case rel => exact ⟨k + 1,by omega,by go_num,HN_wr,HM_wr,OW_wr,OY_wr,OC_wr,HG_wr⟩
     case measure => simp [intOf];omega
   ·
    obtain rfl : k = cds.length:=by omega
    cases hbk : bookB bt bn bw cs hs os
    ·
     obtain ⟨N0,N1,N2,N3,N4,N5,Nf,Nz⟩:=box6_ HN_wr.out
     obtain ⟨M0,M1,M2,M3,M4,M5,Mf,Mz⟩:=box6_ HM_wr.out
     have HBK:=hd_ hbk
     have he0 : ES.length = 0:=by rw [← HES.out,zpl hbk];rfl
     clear hbk
     have te : ((ES.length : Int) == 0) = true:=by rw [he0];rfl
     clear he0
     go_wp2_with fail
     refine (zjm bt bn bw cs hs os _ _ _ _ _ _ _ (by omega) (by omega) (by omega) ⟨OW_wr.out.c.rd,OW_wr.out.h.rd,OW_wr.out.o.rd⟩).mono ?_
     rintro e' w101 ⟨rfl,hb⟩
     rw [HBK.out]
     have HG_w101:=hd_ (HG_wr.out.trans (hb.mono HG_wr.out.size))
     have HN_w101:=hd_ (zqe hb (gz_ HN_wr.out).1 HN_wr.out)
     have HM_w101:=hd_ (zqe hb (gz_ HM_wr.out).1 HM_wr.out)
     have OW_w101:=hd_ (OW_wr.out.below hb)
     have OY_w101:=hd_ (OY_wr.out.below hb)
     have OC_w101:=hd_ (OC_wr.out.below hb)
     clear hb
     clear N0 N1 N2 N3 N4 N5 M0 M1 M2 M3 M4 M5 Nf Mf Nz Mz
     obtain ⟨N0,N1,N2,N3,N4,N5,Nf,Nz⟩:=box6_ HN_w101.out
     obtain ⟨M0,M1,M2,M3,M4,M5,Mf,Mz⟩:=box6_ HM_w101.out
     go_wp2_with fail
     go_ret
     exact ⟨rfl,HG_w101.out⟩
    ·
     obtain ⟨N0,N1,N2,N3,N4,N5,Nf,Nz⟩:=box6_ HN_wr.out
     obtain ⟨M0,M1,M2,M3,M4,M5,Mf,Mz⟩:=box6_ HM_wr.out
     have HBK:=hd_ hbk
     have hnn:=(zxp hbk).n
     have ws : IntKind.i64.wrap (bn + (ES.length : Int)) = bn + (ES.length : Int):=IntWalk.i64_in _ ⟨by omega,by omega⟩
     by_cases hbig : bn + (ES.length : Int) < 1125899906842624
     ·
      have hs9:=zhd hbk HES.out (show ((⟨nt,nn,nw,ncs,nhs,nos⟩,ps.map Pst.pl,cds) : Bk × List (Int × List Line) × List Int) = allF ⟨bt,bn,bw,cs,hs,os⟩ ES by
       have h8:=HRES.out
       have h7 : (Bk.ok ⟨bt,bn,bw,cs,hs,os⟩) = true:=hbk
       rw [h7,if_pos rfl] at h8
       exact h8) hbig
      simp only [List.length_map] at hs9
      obtain ⟨-,hag,hto,hpl⟩:=hs9
      have HAG:=hd_ hag
      obtain ⟨T,hT⟩ : ∃ T,totalOf bt bn bw cs hs os = T:=⟨_,rfl⟩
      rw [hT] at hto
      have HTA:=hd_ hT
      have HTB:=hd_ hto
      have td : decide ((1125899906842624 : Int) ≤ bn + (ES.length : Int)) = false:=decide_eq_false (by omega)
      have tp : ((ps.length : Int) == (ES.length : Int)) = true:=by rw [hpl];simp
      clear hbig hbk hnn hag hto hT hpl
      go_wp2_with fail
      refine (zjm bt bn bw cs hs os _ _ _ _ _ _ _ (by omega) (by omega) (by omega) ⟨OW_wr.out.c.rd,OW_wr.out.h.rd,OW_wr.out.o.rd⟩).mono ?_
      rintro e' w101 ⟨rfl,hb⟩
      rw [HBK.out]
      have HG_w101:=hd_ (HG_wr.out.trans (hb.mono HG_wr.out.size))
      have HN_w101:=hd_ (zqe hb (gz_ HN_wr.out).1 HN_wr.out)
      have HM_w101:=hd_ (zqe hb (gz_ HM_wr.out).1 HM_wr.out)
      have OW_w101:=hd_ (OW_wr.out.below hb)
      have OY_w101:=hd_ (OY_wr.out.below hb)
      have OC_w101:=hd_ (OC_wr.out.below hb)
      clear hb
      clear N0 N1 N2 N3 N4 N5 M0 M1 M2 M3 M4 M5 Nf Mf Nz Mz
      obtain ⟨N0,N1,N2,N3,N4,N5,Nf,Nz⟩:=box6_ HN_w101.out
      obtain ⟨M0,M1,M2,M3,M4,M5,Mf,Mz⟩:=box6_ HM_w101.out
      go_wp2_with fail
      refine zqw (fun w' => kqiiisss w' NB bt bn bw C1 cs.length q1 C2 hs.length q2 C3 os.length q3 (kqiiisss_ w' MB nt nn nw D1 ncs.length s1 D2 nhs.length s2 D3 nos.length s3)) [yF 0 71,yF 1 72,yT 2 73,yF 3 74,yF 4 75,yF 5 76,yG 6 77 76,yG 8 79 76,(7,some 78,true,some (76,true)),(9,some 80,true,some (76,true)),yG 10 81 76,yF 11 82,yF 12 83,yG 13 84 83,yG 14 85 83,yG 15 86 83,yG 16 87 83,yG 17 88 83,yF 18 89,yF 19 2] (by kernel_rfl) (by kernel_rfl) (by kernel_rfl) ⟨N0,N1,N2,N3,N4,N5,M0,M1,M2,M3,M4,M5⟩ (fun hHeld => ?_)
      obtain ⟨w102,hwd⟩ : ∃ wd,w101.drew = wd:=⟨_,rfl⟩
      have HG_w102 : Hid (Below w.heap.size w w102):=hd_ (by rw [← hwd];exact HG_w101.out.drew)
      have HN_w102 : Hid (Hx w102 NB #[.int .i64 bt,.int .i64 bn,.int .i64 bw,.slice C1 cs.length q1,.slice C2 hs.length q2,.slice C3 os.length q3] 39):=hd_ (by rw [← hwd];exact zqk HN_w101.out)
      have HM_w102 : Hid (Hx w102 MB #[.int .i64 nt,.int .i64 nn,.int .i64 nw,.slice D1 ncs.length s1,.slice D2 nhs.length s2,.slice D3 nos.length s3] 39):=hd_ (by rw [← hwd];exact zqk HM_w101.out)
      have OW_w102 : Hid (OwB w102 w.heap.size ⟨bt,bn,bw,cs,hs,os⟩ C1 C2 C3 q1 q2 q3):=hd_ (by rw [← hwd];exact OW_w101.out.drew)
      have OY_w102 : Hid (OwB w102 w.heap.size ⟨nt,nn,nw,ncs,nhs,nos⟩ D1 D2 D3 s1 s2 s3):=hd_ (by rw [← hwd];exact OY_w101.out.drew)
      have OC_w102 : Hid (Ow w102 w.heap.size 3 1 (.slice P2 cds.length d2) (cds.map intCells)):=hd_ (by rw [← hwd];exact OC_w101.out.drew_)
      clear N0 N1 N2 N3 N4 N5 M0 M1 M2 M3 M4 M5 Nf Mf Nz Mz
      rw [hwd] at hHeld ⊢
      clear hwd
      obtain ⟨N0,N1,N2,N3,N4,N5,Nf,Nz⟩:=box6_ HN_w102.out
      obtain ⟨M0,M1,M2,M3,M4,M5,Mf,Mz⟩:=box6_ HM_w102.out
      refine tk_ ?_
      refine Sq.step rfl (by rfl) (fun K hK => ?_)
      go_simp
      refine (i_Aged nt nn nw ncs nhs nos _ _ _ _ _ _ age _ (by omega) (by omega) (by omega) ⟨OY_w102.out.c.rd,OY_w102.out.h.rd,OY_w102.out.o.rd⟩).mono ?_
      rintro e' w103 ⟨AG,cg,rfl,-,hb⟩
      rw [HAG.out,List.length_nil]
      have HG_w103:=hd_ (HG_w102.out.trans (hb.mono HG_w102.out.size))
      have HN_w103:=hd_ (zqe hb (gz_ HN_w102.out).1 HN_w102.out)
      have HM_w103:=hd_ (zqe hb (gz_ HM_w102.out).1 HM_w102.out)
      have OW_w103:=hd_ (OW_w102.out.below hb)
      have OY_w103:=hd_ (OY_w102.out.below hb)
      have OC_w103:=hd_ (OC_w102.out.below hb)
      clear hb
      clear N0 N1 N2 N3 N4 N5 M0 M1 M2 M3 M4 M5 Nf Mf Nz Mz
      obtain ⟨N0,N1,N2,N3,N4,N5,Nf,Nz⟩:=box6_ HN_w103.out
      obtain ⟨M0,M1,M2,M3,M4,M5,Mf,Mz⟩:=box6_ HM_w103.out
      go_simp
      refine hK.out _ _ ⟨N0,N1,N2,N3,N4,N5,M0,M1,M2,M3,M4,M5⟩ (fun hHeld => ?_)
      clear hK K
      refine tk_ ?_
      refine Sq.step rfl (by rfl) (fun K hK => ?_)
      go_simp
      refine (zgl nt nn nw ncs nhs nos _ _ _ _ _ _ _ (by omega) (by omega) (by omega) ⟨OY_w103.out.c.rd,OY_w103.out.h.rd,OY_w103.out.o.rd⟩).mono ?_
      rintro e' w104 ⟨rfl,hb⟩
      rw [HTB.out]
      have HG_w104:=hd_ (HG_w103.out.trans (hb.mono HG_w103.out.size))
      have HN_w104:=hd_ (zqe hb (gz_ HN_w103.out).1 HN_w103.out)
      have HM_w104:=hd_ (zqe hb (gz_ HM_w103.out).1 HM_w103.out)
      have OW_w104:=hd_ (OW_w103.out.below hb)
      have OY_w104:=hd_ (OY_w103.out.below hb)
      have OC_w104:=hd_ (OC_w103.out.below hb)
      clear hb
      clear N0 N1 N2 N3 N4 N5 M0 M1 M2 M3 M4 M5 Nf Mf Nz Mz
      obtain ⟨N0,N1,N2,N3,N4,N5,Nf,Nz⟩:=box6_ HN_w104.out
      obtain ⟨M0,M1,M2,M3,M4,M5,Mf,Mz⟩:=box6_ HM_w104.out
      go_simp
      refine hK.out _ _ ⟨N0,N1,N2,N3,N4,N5,M0,M1,M2,M3,M4,M5⟩ (fun hHeld => ?_)
      clear hK K
      refine tk_ ?_
      refine Sq.step rfl (by rfl) (fun K hK => ?_)
      go_simp
      refine (zgl bt bn bw cs hs os _ _ _ _ _ _ _ (by omega) (by omega) (by omega) ⟨OW_w104.out.c.rd,OW_w104.out.h.rd,OW_w104.out.o.rd⟩).mono ?_
      rintro e' w105 ⟨rfl,hb⟩
      rw [HTA.out]
      have HG_w105:=hd_ (HG_w104.out.trans (hb.mono HG_w104.out.size))
      have HN_w105:=hd_ (zqe hb (gz_ HN_w104.out).1 HN_w104.out)
      have HM_w105:=hd_ (zqe hb (gz_ HM_w104.out).1 HM_w104.out)
      have OW_w105:=hd_ (OW_w104.out.below hb)
      have OY_w105:=hd_ (OY_w104.out.below hb)
      have OC_w105:=hd_ (OC_w104.out.below hb)
      clear hb
      clear N0 N1 N2 N3 N4 N5 M0 M1 M2 M3 M4 M5 Nf Mf Nz Mz
      obtain ⟨N0,N1,N2,N3,N4,N5,Nf,Nz⟩:=box6_ HN_w105.out
      obtain ⟨M0,M1,M2,M3,M4,M5,Mf,Mz⟩:=box6_ HM_w105.out
      go_simp
      refine hK.out _ _ ⟨N0,N1,N2,N3,N4,N5,M0,M1,M2,M3,M4,M5⟩ (fun hHeld => ?_)
      clear hK K
      refine tk_ ?_
      refine Sq.done (NoPanic.normal ?_)
      go_wp2_with fail
      go_ret
      exact ⟨rfl,HG_w105.out⟩
     ·
      have td : decide ((1125899906842624 : Int) ≤ bn + (ES.length : Int)) = true:=decide_eq_true (by omega)
      clear hbig hbk hnn
      go_wp2_with fail
      refine (zjm bt bn bw cs hs os _ _ _ _ _ _ _ (by omega) (by omega) (by omega) ⟨OW_wr.out.c.rd,OW_wr.out.h.rd,OW_wr.out.o.rd⟩).mono ?_
      rintro e' w101 ⟨rfl,hb⟩
      rw [HBK.out]
      have HG_w101:=hd_ (HG_wr.out.trans (hb.mono HG_wr.out.size))
      have HN_w101:=hd_ (zqe hb (gz_ HN_wr.out).1 HN_wr.out)
      have HM_w101:=hd_ (zqe hb (gz_ HM_wr.out).1 HM_wr.out)
      have OW_w101:=hd_ (OW_wr.out.below hb)
      have OY_w101:=hd_ (OY_wr.out.below hb)
      have OC_w101:=hd_ (OC_wr.out.below hb)
      clear hb
      clear N0 N1 N2 N3 N4 N5 M0 M1 M2 M3 M4 M5 Nf Mf Nz Mz
      obtain ⟨N0,N1,N2,N3,N4,N5,Nf,Nz⟩:=box6_ HN_w101.out
      obtain ⟨M0,M1,M2,M3,M4,M5,Mf,Mz⟩:=box6_ HM_w101.out
      cases te : ((ES.length : Int) == 0)
      ·
       go_wp2_with fail
       refine (zjm bt bn bw cs hs os _ _ _ _ _ _ _ (by omega) (by omega) (by omega) ⟨OW_w101.out.c.rd,OW_w101.out.h.rd,OW_w101.out.o.rd⟩).mono ?_
       rintro e' w102 ⟨rfl,hb⟩
       rw [HBK.out]
       have HG_w102:=hd_ (HG_w101.out.trans (hb.mono HG_w101.out.size))
       have HN_w102:=hd_ (zqe hb (gz_ HN_w101.out).1 HN_w101.out)
       have HM_w102:=hd_ (zqe hb (gz_ HM_w101.out).1 HM_w101.out)
       have OW_w102:=hd_ (OW_w101.out.below hb)
       have OY_w102:=hd_ (OY_w101.out.below hb)
       have OC_w102:=hd_ (OC_w101.out.below hb)
       clear hb
       clear N0 N1 N2 N3 N4 N5 M0 M1 M2 M3 M4 M5 Nf Mf Nz Mz
       obtain ⟨N0,N1,N2,N3,N4,N5,Nf,Nz⟩:=box6_ HN_w102.out
       obtain ⟨M0,M1,M2,M3,M4,M5,Mf,Mz⟩:=box6_ HM_w102.out
       go_wp2_with fail
       go_ret
       exact ⟨rfl,HG_w102.out⟩
      ·
       go_wp2_with fail
       go_ret
       exact ⟨rfl,HG_w101.out⟩
 ·
  clear hc
  go_enter Tryz.func5,Tryz.ntmps5
  go_wp2_with fail
  go_ret
  exact ⟨rfl,Below.refl _ _⟩
end Go.Proofs.YtdbmkfmenfcbiaaGreat
