/- Gains: the reference's walk over the events. -/
import Derived.Test.YtdbmkfmenfcbiaaGreatRows
import Derived.Test.YtdbmkfmenfcbiaaGreatGSGn
import Derived.Test.YtdbmkfmenfcbiaaGreatGM5
namespace Go.Proofs.YtdbmkfmenfcbiaaGreat
open Go.RowKit Go.Deep
theorem lenOk1 : LenOk bk1:=⟨by decide,by decide,by decide⟩
theorem zmh {b : Bk} {e : Event} (h : (applyS b e).code = 0) : Small b.hs b.os:=(zxw (zhg h)).small
theorem zpx {b : Bk} {e : Event} (h : (applyS b e).code = 0) {key : Int} {x : Htlc} (hx : htlcF b.hs key = some x) : (0 ≤ x.AmtOut∧x.AmtOut ≤ 1125899906842624)∧(0 ≤ x.AmtIn∧x.AmtIn ≤ 1125899906842624):=by
 obtain ⟨k,hk,rfl⟩:=List.mem_iff_getElem.1 (zhn hx)
 exact (zmh h).h k hk
set_option maxRecDepth 100000 in
set_option maxHeartbeats 4000000 in
theorem s_Gains (es : List Event) (AE : Option Addr) (pe : Nat) (w : World) (hle : es.length ≤ 1048576) (hre : Rd w w.heap.size 7 AE (es.map Event.cells)) :
  Calls Tryz.prog 7 #[.slice AE es.length pe] w (GsP w (gainsF es)):=by
 have HRe:=hd_ hre
 clear hre
 go_enter Tryz.func7,Tryz.ntmps7
 go_wp2_with fail
 have HG_w : Hid (Below w.heap.size w w):=hd_ (Below.refl _ _)
 refine nm_ ?_
 intro w1 hw
 have HG_w1 : Hid (Below w.heap.size w w1):=hd_ (by rw [hw];exact HG_w.out.alloc (Nat.le_refl _) _)
 have OS_w1 : Hid (Ow w1 w.heap.size 79 4 (.slice (some ⟨w.heap.size,0,none⟩) 0 0) (List.map Gain.cells [])):=hd_ (by rw [hw];exact Ow.empty_ rfl (Nat.le_refl _))
 clear hw HG_w
 refine (s_BookNew _).mono ?_
 rintro e' w2 ⟨rfl,hb⟩
 have HG_w2:=hd_ (HG_w1.out.trans (hb.mono HG_w1.out.size))
 have OS_w2:=hd_ (OS_w1.out.below hb)
 clear hb
 go_wp2_with fail
 obtain ⟨NB,hNB⟩ : ∃ v,v = w2.heap.size:=⟨_,rfl⟩
 have HGN : Hid (w.heap.size ≤ NB):=hd_ (by have:=HG_w2.out.size;omega)
 have hbz0:=HG_w2.out.size
 rw [← hNB]
 go_loopw [3,16] (fun vs i wr => ∃ (k : Nat) (b : Bk) (L : List Gain) (C1 C2 C3 A : Option Addr) (q1 q2 q3 c : Nat),k ≤ es.length∧i = .int .i64 k∧vs = .slice A L.length c∧L.length ≤ k∧Hid ((es.take k).foldl gainStep (bk1,[]) = (b,L))∧Hid (LenOk b)∧Hid (OwB wr w.heap.size b C1 C2 C3 q1 q2 q3)∧Hid (Ow wr w.heap.size 79 4 (.slice A L.length c) (L.map Gain.cells))∧Hid (Hx wr NB (bkC b C1 q1 C2 q2 C3 q3) 39)∧Hid (Below w.heap.size w wr)) (fun _ i _ => es.length - (intOf i).toNat)
 case atStart => exact ⟨0,bk1,[],none,none,none,_,0,0,0,0,Nat.zero_le _,rfl,rfl,Nat.le_refl _,hd_ rfl,hd_ lenOk1,hd_ (OwB.nil_ _ _ _ _ _),hd_ (OS_w2.out.alloc _),hd_ (zqk hNB),hd_ (HG_w2.out.alloc (by omega) _)⟩
 case round =>
  clear hNB hbz0 HG_w1 OS_w1 HG_w2 OS_w2
  obtain ⟨k,b,L,C1,C2,C3,A,q1,q2,q3,c,hk,rfl,rfl,hLk,HF,HL,OW_wr,OS_wr,HN_wr,HG_wr⟩:=hrel
  have hgz:=HG_wr.out.size
  by_cases hlt : k < es.length
  ·
   obtain ⟨bb,off,hA1,hbB,e0,e1,e2,e3,e4,e5,e6⟩:=Event.rd (HRe.out.below HG_wr.out) hlt
   subst hA1
   have Fx:=hd_ (zqp es gainStep (bk1,[]) hlt)
   obtain ⟨x,hx⟩ : ∃ x,es[k] = x:=⟨_,rfl⟩
   rw [hx] at e0 e1 e2 e3 e4 e5 e6 Fx
   clear hx
   obtain ⟨l1,l2,l3⟩:=HL.out
   have HLN : Hid (w.heap.size ≤ NB):=HGN
   obtain ⟨N0,N1,N2,N3,N4,N5,Nf,Nz⟩:=box6_ HN_wr.out
   go_upto_region 6 with fail
   clear e0 e1 e2 e3 e4 e5 e6
   refine nm_ ?_
   intro w51 hw
   have HG_w51 : Hid (Below w.heap.size w w51):=hd_ (by rw [hw];exact (HG_wr.out).alloc (by have:=HG_wr.out.size;first | omega | (simp;omega)) _)
   have HN_w51 : Hid (Hx w51 NB (bkC b C1 q1 C2 q2 C3 q3) 39):=hd_ (by rw [hw];exact zqe (by have:=(gz_ HN_wr.out).1;first | omega | (simp;omega)) (HN_wr.out))
   have OS_w51 : Hid (Ow w51 w.heap.size 79 4 (.slice A L.length c) (L.map Gain.cells)):=hd_ (by rw [hw];exact (OS_wr.out).alloc _)
   have OW_w51 : Hid (OwB w51 w.heap.size b C1 C2 C3 q1 q2 q3):=hd_ (by rw [hw];exact (OW_wr.out).alloc _)
   obtain ⟨EB,h9E⟩ : ∃ v,v = wr.heap.size:=⟨_,rfl⟩
   have HE_w51 : Hid (Hx w51 EB (evC x) 64):=hd_ (by rw [hw,h9E];exact zqk (by first | rfl | (simp;done)))
   have HLE : Hid (w.heap.size ≤ EB):=hd_ (by have:=HG_wr.out.size;omega)
   try rw [← h9E]
   have HNEN : Hid (EB ≠ NB):=hd_ (by have:=(gz_ HN_wr.out).1;omega)
   clear hw h9E
   clear N0 N1 N2 N3 N4 N5 Nf Nz
   obtain ⟨N0,N1,N2,N3,N4,N5,Nf,Nz⟩:=box6_ HN_w51.out
   obtain ⟨E0,E1,E2,E3,E4,E5,E6,Ef,Ez⟩:=box7_ HE_w51.out
   go_wp2_with fail
   have HSZ:=hd_ HG_w51.out.size
   refine (s_Apply b x _ _ _ _ _ _ _ (by omega) (by omega) (by omega) ⟨OW_w51.out.c.rd,OW_w51.out.h.rd,OW_w51.out.o.rd⟩).mono ?_
   rintro e' w52 ⟨b2,L2,id,D1,D2,D3,D4,s1,s2,s3,s4,rfl,hob,hol,hb,rfl,rfl,-⟩
   have HG_w52:=hd_ (HG_w51.out.trans (hb.mono HG_w51.out.size))
   have HN_w52:=hd_ (zqc hb (gz_ HN_w51.out).1 HN_w51.out)
   have HE_w52:=hd_ (zqc hb (gz_ HE_w51.out).1 HE_w51.out)
   have OS_w52:=hd_ (OS_w51.out.below hb)
   have OW_w52:=hd_ (OW_w51.out.below hb)
   clear hb
   clear N0 N1 N2 N3 N4 N5 E0 E1 E2 E3 E4 E5 E6 Nf Ef Nz Ez
   obtain ⟨N0,N1,N2,N3,N4,N5,Nf,Nz⟩:=box6_ HN_w52.out
   obtain ⟨E0,E1,E2,E3,E4,E5,E6,Ef,Ez⟩:=box7_ HE_w52.out
   have OV_w52:=hd_ (hob.more HSZ.out)
   clear hob hol
   have hl2:=hd_ (zyp b x)
   obtain ⟨o,ho⟩ : ∃ o,applyS b x = o:=⟨_,rfl⟩
   rw [ho] at OV_w52 hl2 ⊢
   have HO:=hd_ ho
   clear ho
   go_upto_region 7 with fail
   refine nm_ ?_
   intro w53 hw
   have HG_w53 : Hid (Below w.heap.size w w53):=hd_ (by rw [hw];exact ((HG_w52.out).alloc (by have:=HG_w52.out.size;first | omega | (simp;omega)) _).alloc (by have:=HG_w52.out.size;first | omega | (simp;omega)) _)
   have HN_w53 : Hid (Hx w53 NB (bkC b C1 q1 C2 q2 C3 q3) 39):=hd_ (by rw [hw];exact zqe (by have:=(gz_ HN_w52.out).1;first | omega | (simp;omega)) (zqe (by have:=(gz_ HN_w52.out).1;first | omega | (simp;omega)) (HN_w52.out)))
   have HE_w53 : Hid (Hx w53 EB (evC x) 64):=hd_ (by rw [hw];exact zqe (by have:=(gz_ HE_w52.out).1;first | omega | (simp;omega)) (zqe (by have:=(gz_ HE_w52.out).1;first | omega | (simp;omega)) (HE_w52.out)))
   have OS_w53 : Hid (Ow w53 w.heap.size 79 4 (.slice A L.length c) (L.map Gain.cells)):=hd_ (by rw [hw];exact ((OS_w52.out).alloc _).alloc _)
   have OW_w53 : Hid (OwB w53 w.heap.size b C1 C2 C3 q1 q2 q3):=hd_ (by rw [hw];exact ((OW_w52.out).alloc _).alloc _)
   have OV_w53 : Hid (OwB w53 w.heap.size o.b D1 D2 D3 s1 s2 s3):=hd_ (by rw [hw];exact ((OV_w52.out).alloc _).alloc _)
   obtain ⟨MB,h9M⟩ : ∃ v,v = w52.heap.size:=⟨_,rfl⟩
   have HM_w53 : Hid (Hx w53 MB (bkC o.b D1 s1 D2 s2 D3 s3) 39):=hd_ (by rw [hw,h9M];exact zqe (by simp) (zqk (by first | rfl | (simp;done))))
   have HLM : Hid (w.heap.size ≤ MB):=hd_ (by have:=HG_w52.out.size;omega)
   try rw [← h9M]
   have HNMN : Hid (MB ≠ NB):=hd_ (by have:=(gz_ HN_w52.out).1;omega)
   have HNME : Hid (MB ≠ EB):=hd_ (by have:=(gz_ HE_w52.out).1;omega)
   clear hw h9M
   clear N0 N1 N2 N3 N4 N5 E0 E1 E2 E3 E4 E5 E6 Nf Ef Nz Ez
   obtain ⟨N0,N1,N2,N3,N4,N5,Nf,Nz⟩:=box6_ HN_w53.out
   obtain ⟨E0,E1,E2,E3,E4,E5,E6,Ef,Ez⟩:=box7_ HE_w53.out
   obtain ⟨M0,M1,M2,M3,M4,M5,Mf,Mz⟩:=box6_ HM_w53.out
   cases t0 : (o.code == 0)
   ·
    have FS:=hd_ (show gainStep (b,L) x = (b,L) by unfold gainStep;rw [if_neg (by rw [HO.out];exact beq_eq_false_iff_ne.1 t0)])
    go_wp2_with fail
    go_roundw
    case rel => exact ⟨k + 1,b,L,C1,C2,C3,A,q1,q2,q3,c,by omega,by go_num,rfl,by omega,hd_ (by rw [Fx.out,HF.out];exact FS.out),HL,OW_w53,OS_w53,HN_w53,HG_w53⟩
    case measure => simp [intOf];omega
   ·
    have HC0:=hd_ (show (applyS b x).code = 0 by rw [HO.out];exact eq_of_beq t0)
    have HFS:=hd_ (show gainStep (b,L) x = (o.b,gainEv b.hs x L) by unfold gainStep;rw [if_pos HC0.out,HO.out])
    go_wp2_with fail
    refine (s_l22Htlc b.t b.n b.w b.cs b.hs b.os _ _ _ _ _ _ x.Key _ (by omega) ⟨OW_w53.out.c.rd,OW_w53.out.h.rd,OW_w53.out.o.rd⟩).mono ?_
    rintro e' w54 ⟨rfl,hb⟩
    have HG_w54:=hd_ (HG_w53.out.trans (hb.mono HG_w53.out.size))
    have HN_w54:=hd_ (zqc hb (gz_ HN_w53.out).1 HN_w53.out)
    have HE_w54:=hd_ (zqc hb (gz_ HE_w53.out).1 HE_w53.out)
    have HM_w54:=hd_ (zqc hb (gz_ HM_w53.out).1 HM_w53.out)
    have OS_w54:=hd_ (OS_w53.out.below hb)
    have OW_w54:=hd_ (OW_w53.out.below hb)
    have OV_w54:=hd_ (OV_w53.out.below hb)
    clear hb
    clear N0 N1 N2 N3 N4 N5 E0 E1 E2 E3 E4 E5 E6 M0 M1 M2 M3 M4 M5 Nf Ef Mf Nz Ez Mz
    obtain ⟨N0,N1,N2,N3,N4,N5,Nf,Nz⟩:=box6_ HN_w54.out
    obtain ⟨E0,E1,E2,E3,E4,E5,E6,Ef,Ez⟩:=box7_ HE_w54.out
    obtain ⟨M0,M1,M2,M3,M4,M5,Mf,Mz⟩:=box6_ HM_w54.out
    obtain ⟨hv,hh⟩ : ∃ hv,htlcD b.hs x.Key = hv:=⟨_,rfl⟩
    rw [hh]
    have HH:=hd_ hh
    clear hh
    go_upto_region 9 with fail
    refine nm_ ?_
    intro w55 hw
    have HG_w55 : Hid (Below w.heap.size w w55):=hd_ (by rw [hw];exact (HG_w54.out).alloc (by have:=HG_w54.out.size;first | omega | (simp;omega)) _)
    have HN_w55 : Hid (Hx w55 NB (bkC b C1 q1 C2 q2 C3 q3) 39):=hd_ (by rw [hw];exact zqe (by have:=(gz_ HN_w54.out).1;first | omega | (simp;omega)) (HN_w54.out))
    have HE_w55 : Hid (Hx w55 EB (evC x) 64):=hd_ (by rw [hw];exact zqe (by have:=(gz_ HE_w54.out).1;first | omega | (simp;omega)) (HE_w54.out))
    have HM_w55 : Hid (Hx w55 MB (bkC o.b D1 s1 D2 s2 D3 s3) 39):=hd_ (by rw [hw];exact zqe (by have:=(gz_ HM_w54.out).1;first | omega | (simp;omega)) (HM_w54.out))
    have OS_w55 : Hid (Ow w55 w.heap.size 79 4 (.slice A L.length c) (L.map Gain.cells)):=hd_ (by rw [hw];exact (OS_w54.out).alloc _)
    have OW_w55 : Hid (OwB w55 w.heap.size b C1 C2 C3 q1 q2 q3):=hd_ (by rw [hw];exact (OW_w54.out).alloc _)
    have OV_w55 : Hid (OwB w55 w.heap.size o.b D1 D2 D3 s1 s2 s3):=hd_ (by rw [hw];exact (OV_w54.out).alloc _)
    obtain ⟨HB,h9H⟩ : ∃ v,v = w54.heap.size:=⟨_,rfl⟩
    have HH_w55 : Hid (Hx w55 HB #[.int .i64 hv.Key,.int .i64 hv.In,.int .i64 hv.Out,.int .i64 hv.AmtIn,.int .i64 hv.AmtOut,.bool hv.Kept,.int .i64 hv.Age] 70):=hd_ (by rw [hw,h9H];exact zqk (by first | rfl | (simp;done)))
    have HLH : Hid (w.heap.size ≤ HB):=hd_ (by have:=HG_w54.out.size;omega)
    try rw [← h9H]
    have HNHN : Hid (HB ≠ NB):=hd_ (by have:=(gz_ HN_w54.out).1;omega)
    have HNHE : Hid (HB ≠ EB):=hd_ (by have:=(gz_ HE_w54.out).1;omega)
    have HNHM : Hid (HB ≠ MB):=hd_ (by have:=(gz_ HM_w54.out).1;omega)
    clear hw h9H
    clear N0 N1 N2 N3 N4 N5 E0 E1 E2 E3 E4 E5 E6 M0 M1 M2 M3 M4 M5 Nf Ef Mf Nz Ez Mz
    obtain ⟨N0,N1,N2,N3,N4,N5,Nf,Nz⟩:=box6_ HN_w55.out
    obtain ⟨E0,E1,E2,E3,E4,E5,E6,Ef,Ez⟩:=box7_ HE_w55.out
    obtain ⟨M0,M1,M2,M3,M4,M5,Mf,Mz⟩:=box6_ HM_w55.out
    obtain ⟨H0,H1,H2,H3,H4,H5,H6,Hf,Hz⟩:=box7_ HH_w55.out
    cases hf : htlcF b.hs x.Key with
    | none =>
     have HFN:=hd_ hf
     have tN : (none : Option Htlc).isSome = false:=rfl
     rw [tN]
     have FS:=hd_ (show gainStep (b,L) x = (o.b,L) by rw [HFS.out];unfold gainEv;rw [HFN.out])
     go_upto_region 12 with fail
     refine nm_ ?_
     intro w56 hw
     have HG_w56 : Hid (Below w.heap.size w w56):=hd_ (by rw [hw];exact ((((((HG_w55.out).setCell HLN.out _).setCell HLN.out _).setCell HLN.out _).setCell HLN.out _).setCell HLN.out _).setCell HLN.out _)
     have HN_w56 : Hid (Hx w56 NB (bkC o.b D1 s1 D2 s2 D3 s3) 39):=hd_ (by rw [hw];exact zqa (zqa (zqa (zqa (zqa (zqa (HN_w55.out)))))))
     have HE_w56 : Hid (Hx w56 EB (evC x) 64):=hd_ (by rw [hw];exact zqb (by first | exact HNEN.out | exact fun e9 => HNNE.out e9.symm) (zqb (by first | exact HNEN.out | exact fun e9 => HNNE.out e9.symm) (zqb (by first | exact HNEN.out | exact fun e9 => HNNE.out e9.symm) (zqb (by first | exact HNEN.out | exact fun e9 => HNNE.out e9.symm) (zqb (by first | exact HNEN.out | exact fun e9 => HNNE.out e9.symm) (zqb (by first | exact HNEN.out | exact fun e9 => HNNE.out e9.symm) (HE_w55.out)))))))
     have HM_w56 : Hid (Hx w56 MB (bkC o.b D1 s1 D2 s2 D3 s3) 39):=hd_ (by rw [hw];exact zqb (by first | exact HNMN.out | exact fun e9 => HNNM.out e9.symm) (zqb (by first | exact HNMN.out | exact fun e9 => HNNM.out e9.symm) (zqb (by first | exact HNMN.out | exact fun e9 => HNNM.out e9.symm) (zqb (by first | exact HNMN.out | exact fun e9 => HNNM.out e9.symm) (zqb (by first | exact HNMN.out | exact fun e9 => HNNM.out e9.symm) (zqb (by first | exact HNMN.out | exact fun e9 => HNNM.out e9.symm) (HM_w55.out)))))))
     have HH_w56 : Hid (Hx w56 HB #[.int .i64 hv.Key,.int .i64 hv.In,.int .i64 hv.Out,.int .i64 hv.AmtIn,.int .i64 hv.AmtOut,.bool hv.Kept,.int .i64 hv.Age] 70):=hd_ (by rw [hw];exact zqb (by first | exact HNHN.out | exact fun e9 => HNNH.out e9.symm) (zqb (by first | exact HNHN.out | exact fun e9 => HNNH.out e9.symm) (zqb (by first | exact HNHN.out | exact fun e9 => HNNH.out e9.symm) (zqb (by first | exact HNHN.out | exact fun e9 => HNNH.out e9.symm) (zqb (by first | exact HNHN.out | exact fun e9 => HNNH.out e9.symm) (zqb (by first | exact HNHN.out | exact fun e9 => HNNH.out e9.symm) (HH_w55.out)))))))
     have OS_w56 : Hid (Ow w56 w.heap.size 79 4 (.slice A L.length c) (L.map Gain.cells)):=hd_ (by rw [hw];exact ((((((OS_w55.out).aside (HN_w55.out) (by decide) _).aside (zqa (HN_w55.out)) (by decide) _).aside (zqa (zqa (HN_w55.out))) (by decide) _).aside (zqa (zqa (zqa (HN_w55.out)))) (by decide) _).aside (zqa (zqa (zqa (zqa (HN_w55.out))))) (by decide) _).aside (zqa (zqa (zqa (zqa (zqa (HN_w55.out)))))) (by decide) _)
     have OW_w56 : Hid (OwB w56 w.heap.size b C1 C2 C3 q1 q2 q3):=hd_ (by rw [hw];exact ((((((OW_w55.out).aside (HN_w55.out) (by decide) (by decide) (by decide) _).aside (zqa (HN_w55.out)) (by decide) (by decide) (by decide) _).aside (zqa (zqa (HN_w55.out))) (by decide) (by decide) (by decide) _).aside (zqa (zqa (zqa (HN_w55.out)))) (by decide) (by decide) (by decide) _).aside (zqa (zqa (zqa (zqa (HN_w55.out))))) (by decide) (by decide) (by decide) _).aside (zqa (zqa (zqa (zqa (zqa (HN_w55.out)))))) (by decide) (by decide) (by decide) _)
     have OV_w56 : Hid (OwB w56 w.heap.size o.b D1 D2 D3 s1 s2 s3):=hd_ (by rw [hw];exact ((((((OV_w55.out).aside (HN_w55.out) (by decide) (by decide) (by decide) _).aside (zqa (HN_w55.out)) (by decide) (by decide) (by decide) _).aside (zqa (zqa (HN_w55.out))) (by decide) (by decide) (by decide) _).aside (zqa (zqa (zqa (HN_w55.out)))) (by decide) (by decide) (by decide) _).aside (zqa (zqa (zqa (zqa (HN_w55.out))))) (by decide) (by decide) (by decide) _).aside (zqa (zqa (zqa (zqa (zqa (HN_w55.out)))))) (by decide) (by decide) (by decide) _)
     clear hw
     clear N0 N1 N2 N3 N4 N5 E0 E1 E2 E3 E4 E5 E6 M0 M1 M2 M3 M4 M5 H0 H1 H2 H3 H4 H5 H6 Nf Ef Mf Hf Nz Ez Mz Hz
     obtain ⟨N0,N1,N2,N3,N4,N5,Nf,Nz⟩:=box6_ HN_w56.out
     obtain ⟨E0,E1,E2,E3,E4,E5,E6,Ef,Ez⟩:=box7_ HE_w56.out
     obtain ⟨M0,M1,M2,M3,M4,M5,Mf,Mz⟩:=box6_ HM_w56.out
     obtain ⟨H0,H1,H2,H3,H4,H5,H6,Hf,Hz⟩:=box7_ HH_w56.out
     go_wp2_with fail
     go_roundw
     case rel => exact ⟨k + 1,o.b,L,D1,D2,D3,A,s1,s2,s3,c,by omega,by go_num,rfl,by omega,hd_ (by rw [Fx.out,HF.out];exact FS.out),hl2,OV_w56,OS_w56,HN_w56,HG_w56⟩
     case measure => simp [intOf];omega
    | some h =>
     have HFN:=hd_ hf
     have tN : (some h : Option Htlc).isSome = true:=rfl
     rw [tN]
     have hvh : hv = h:=by rw [← HH.out];unfold htlcD;rw [HFN.out];rfl
     subst hvh
     have HSM:=hd_ (zpx HC0.out hf)
     clear hf tN
     have HSZ9:=hd_ HG_w55.out.size
     cases t6 : (x.Kind == 6)
     ·
      cases t7 : (x.Kind == 7)
      ·
       have FS:=hd_ (show gainStep (b,L) x = (o.b,L) by rw [HFS.out];unfold gainEv;rw [HFN.out];dsimp only;rw [if_neg (beq_eq_false_iff_ne.1 t6),if_neg (beq_eq_false_iff_ne.1 t7)])
       go_upto_region 12 with fail
       refine nm_ ?_
       intro w56 hw
       have HG_w56 : Hid (Below w.heap.size w w56):=hd_ (by rw [hw];exact ((((((HG_w55.out).setCell HLN.out _).setCell HLN.out _).setCell HLN.out _).setCell HLN.out _).setCell HLN.out _).setCell HLN.out _)
       have HN_w56 : Hid (Hx w56 NB (bkC o.b D1 s1 D2 s2 D3 s3) 39):=hd_ (by rw [hw];exact zqa (zqa (zqa (zqa (zqa (zqa (HN_w55.out)))))))
       have HE_w56 : Hid (Hx w56 EB (evC x) 64):=hd_ (by rw [hw];exact zqb (by first | exact HNEN.out | exact fun e9 => HNNE.out e9.symm) (zqb (by first | exact HNEN.out | exact fun e9 => HNNE.out e9.symm) (zqb (by first | exact HNEN.out | exact fun e9 => HNNE.out e9.symm) (zqb (by first | exact HNEN.out | exact fun e9 => HNNE.out e9.symm) (zqb (by first | exact HNEN.out | exact fun e9 => HNNE.out e9.symm) (zqb (by first | exact HNEN.out | exact fun e9 => HNNE.out e9.symm) (HE_w55.out)))))))
       have HM_w56 : Hid (Hx w56 MB (bkC o.b D1 s1 D2 s2 D3 s3) 39):=hd_ (by rw [hw];exact zqb (by first | exact HNMN.out | exact fun e9 => HNNM.out e9.symm) (zqb (by first | exact HNMN.out | exact fun e9 => HNNM.out e9.symm) (zqb (by first | exact HNMN.out | exact fun e9 => HNNM.out e9.symm) (zqb (by first | exact HNMN.out | exact fun e9 => HNNM.out e9.symm) (zqb (by first | exact HNMN.out | exact fun e9 => HNNM.out e9.symm) (zqb (by first | exact HNMN.out | exact fun e9 => HNNM.out e9.symm) (HM_w55.out)))))))
       have HH_w56 : Hid (Hx w56 HB #[.int .i64 hv.Key,.int .i64 hv.In,.int .i64 hv.Out,.int .i64 hv.AmtIn,.int .i64 hv.AmtOut,.bool hv.Kept,.int .i64 hv.Age] 70):=hd_ (by rw [hw];exact zqb (by first | exact HNHN.out | exact fun e9 => HNNH.out e9.symm) (zqb (by first | exact HNHN.out | exact fun e9 => HNNH.out e9.symm) (zqb (by first | exact HNHN.out | exact fun e9 => HNNH.out e9.symm) (zqb (by first | exact HNHN.out | exact fun e9 => HNNH.out e9.symm) (zqb (by first | exact HNHN.out | exact fun e9 => HNNH.out e9.symm) (zqb (by first | exact HNHN.out | exact fun e9 => HNNH.out e9.symm) (HH_w55.out)))))))
       have OS_w56 : Hid (Ow w56 w.heap.size 79 4 (.slice A L.length c) (L.map Gain.cells)):=hd_ (by rw [hw];exact ((((((OS_w55.out).aside (HN_w55.out) (by decide) _).aside (zqa (HN_w55.out)) (by decide) _).aside (zqa (zqa (HN_w55.out))) (by decide) _).aside (zqa (zqa (zqa (HN_w55.out)))) (by decide) _).aside (zqa (zqa (zqa (zqa (HN_w55.out))))) (by decide) _).aside (zqa (zqa (zqa (zqa (zqa (HN_w55.out)))))) (by decide) _)
       have OW_w56 : Hid (OwB w56 w.heap.size b C1 C2 C3 q1 q2 q3):=hd_ (by rw [hw];exact ((((((OW_w55.out).aside (HN_w55.out) (by decide) (by decide) (by decide) _).aside (zqa (HN_w55.out)) (by decide) (by decide) (by decide) _).aside (zqa (zqa (HN_w55.out))) (by decide) (by decide) (by decide) _).aside (zqa (zqa (zqa (HN_w55.out)))) (by decide) (by decide) (by decide) _).aside (zqa (zqa (zqa (zqa (HN_w55.out))))) (by decide) (by decide) (by decide) _).aside (zqa (zqa (zqa (zqa (zqa (HN_w55.out)))))) (by decide) (by decide) (by decide) _)
       have OV_w56 : Hid (OwB w56 w.heap.size o.b D1 D2 D3 s1 s2 s3):=hd_ (by rw [hw];exact ((((((OV_w55.out).aside (HN_w55.out) (by decide) (by decide) (by decide) _).aside (zqa (HN_w55.out)) (by decide) (by decide) (by decide) _).aside (zqa (zqa (HN_w55.out))) (by decide) (by decide) (by decide) _).aside (zqa (zqa (zqa (HN_w55.out)))) (by decide) (by decide) (by decide) _).aside (zqa (zqa (zqa (zqa (HN_w55.out))))) (by decide) (by decide) (by decide) _).aside (zqa (zqa (zqa (zqa (zqa (HN_w55.out)))))) (by decide) (by decide) (by decide) _)
       clear hw
       clear N0 N1 N2 N3 N4 N5 E0 E1 E2 E3 E4 E5 E6 M0 M1 M2 M3 M4 M5 H0 H1 H2 H3 H4 H5 H6 Nf Ef Mf Hf Nz Ez Mz Hz
       obtain ⟨N0,N1,N2,N3,N4,N5,Nf,Nz⟩:=box6_ HN_w56.out
       obtain ⟨E0,E1,E2,E3,E4,E5,E6,Ef,Ez⟩:=box7_ HE_w56.out
       obtain ⟨M0,M1,M2,M3,M4,M5,Mf,Mz⟩:=box6_ HM_w56.out
       obtain ⟨H0,H1,H2,H3,H4,H5,H6,Hf,Hz⟩:=box7_ HH_w56.out
       go_wp2_with fail
       go_roundw
       case rel => exact ⟨k + 1,o.b,L,D1,D2,D3,A,s1,s2,s3,c,by omega,by go_num,rfl,by omega,hd_ (by rw [Fx.out,HF.out];exact FS.out),hl2,OV_w56,OS_w56,HN_w56,HG_w56⟩
       case measure => simp [intOf];omega
      ·
       have FS0:=hd_ (show gainStep (b,L) x = (o.b,addG L (gainOf hv false)) by rw [HFS.out];unfold gainEv;rw [HFN.out];dsimp only;rw [if_neg (beq_eq_false_iff_ne.1 t6),if_pos (eq_of_beq t7)])
       go_wp2_with fail
       refine (zso L hv _ _ _ _ (by omega) HSM.out OS_w55.out.rd).mono ?_
       rintro e' w56 ⟨AL,cL,rfl,hos,hb⟩
       have HG_w56:=hd_ (HG_w55.out.trans (hb.mono HG_w55.out.size))
       have HN_w56:=hd_ (zqc hb (gz_ HN_w55.out).1 HN_w55.out)
       have HE_w56:=hd_ (zqc hb (gz_ HE_w55.out).1 HE_w55.out)
       have HM_w56:=hd_ (zqc hb (gz_ HM_w55.out).1 HM_w55.out)
       have HH_w56:=hd_ (zqc hb (gz_ HH_w55.out).1 HH_w55.out)
       have OS_w56:=hd_ (OS_w55.out.below hb)
       have OW_w56:=hd_ (OW_w55.out.below hb)
       have OV_w56:=hd_ (OV_w55.out.below hb)
       clear hb
       clear N0 N1 N2 N3 N4 N5 E0 E1 E2 E3 E4 E5 E6 M0 M1 M2 M3 M4 M5 H0 H1 H2 H3 H4 H5 H6 Nf Ef Mf Hf Nz Ez Mz Hz
       obtain ⟨N0,N1,N2,N3,N4,N5,Nf,Nz⟩:=box6_ HN_w56.out
       obtain ⟨E0,E1,E2,E3,E4,E5,E6,Ef,Ez⟩:=box7_ HE_w56.out
       obtain ⟨M0,M1,M2,M3,M4,M5,Mf,Mz⟩:=box6_ HM_w56.out
       obtain ⟨H0,H1,H2,H3,H4,H5,H6,Hf,Hz⟩:=box7_ HH_w56.out
       have OT_w56:=hd_ (hos.more HSZ9.out)
       have hlA:=zwv L (gainOf hv false)
       obtain ⟨LL,hLL⟩ : ∃ LL,addG L (gainOf hv false) = LL:=⟨_,rfl⟩
       rw [hLL] at OT_w56 hlA FS0 ⊢
       have FS:=FS0
       clear hos hLL OS_w56
       have OS_w56:=OT_w56
       go_upto_region 12 with fail
       refine nm_ ?_
       intro w57 hw
       have HG_w57 : Hid (Below w.heap.size w w57):=hd_ (by rw [hw];exact ((((((HG_w56.out).setCell HLN.out _).setCell HLN.out _).setCell HLN.out _).setCell HLN.out _).setCell HLN.out _).setCell HLN.out _)
       have HN_w57 : Hid (Hx w57 NB (bkC o.b D1 s1 D2 s2 D3 s3) 39):=hd_ (by rw [hw];exact zqa (zqa (zqa (zqa (zqa (zqa (HN_w56.out)))))))
       have HE_w57 : Hid (Hx w57 EB (evC x) 64):=hd_ (by rw [hw];exact zqb (by first | exact HNEN.out | exact fun e9 => HNNE.out e9.symm) (zqb (by first | exact HNEN.out | exact fun e9 => HNNE.out e9.symm) (zqb (by first | exact HNEN.out | exact fun e9 => HNNE.out e9.symm) (zqb (by first | exact HNEN.out | exact fun e9 => HNNE.out e9.symm) (zqb (by first | exact HNEN.out | exact fun e9 => HNNE.out e9.symm) (zqb (by first | exact HNEN.out | exact fun e9 => HNNE.out e9.symm) (HE_w56.out)))))))
       have HM_w57 : Hid (Hx w57 MB (bkC o.b D1 s1 D2 s2 D3 s3) 39):=hd_ (by rw [hw];exact zqb (by first | exact HNMN.out | exact fun e9 => HNNM.out e9.symm) (zqb (by first | exact HNMN.out | exact fun e9 => HNNM.out e9.symm) (zqb (by first | exact HNMN.out | exact fun e9 => HNNM.out e9.symm) (zqb (by first | exact HNMN.out | exact fun e9 => HNNM.out e9.symm) (zqb (by first | exact HNMN.out | exact fun e9 => HNNM.out e9.symm) (zqb (by first | exact HNMN.out | exact fun e9 => HNNM.out e9.symm) (HM_w56.out)))))))
       have HH_w57 : Hid (Hx w57 HB #[.int .i64 hv.Key,.int .i64 hv.In,.int .i64 hv.Out,.int .i64 hv.AmtIn,.int .i64 hv.AmtOut,.bool hv.Kept,.int .i64 hv.Age] 70):=hd_ (by rw [hw];exact zqb (by first | exact HNHN.out | exact fun e9 => HNNH.out e9.symm) (zqb (by first | exact HNHN.out | exact fun e9 => HNNH.out e9.symm) (zqb (by first | exact HNHN.out | exact fun e9 => HNNH.out e9.symm) (zqb (by first | exact HNHN.out | exact fun e9 => HNNH.out e9.symm) (zqb (by first | exact HNHN.out | exact fun e9 => HNNH.out e9.symm) (zqb (by first | exact HNHN.out | exact fun e9 => HNNH.out e9.symm) (HH_w56.out)))))))
       have OS_w57 : Hid (Ow w57 w.heap.size 79 4 (.slice AL LL.length cL) (LL.map Gain.cells)):=hd_ (by rw [hw];exact ((((((OS_w56.out).aside (HN_w56.out) (by decide) _).aside (zqa (HN_w56.out)) (by decide) _).aside (zqa (zqa (HN_w56.out))) (by decide) _).aside (zqa (zqa (zqa (HN_w56.out)))) (by decide) _).aside (zqa (zqa (zqa (zqa (HN_w56.out))))) (by decide) _).aside (zqa (zqa (zqa (zqa (zqa (HN_w56.out)))))) (by decide) _)
       have OW_w57 : Hid (OwB w57 w.heap.size b C1 C2 C3 q1 q2 q3):=hd_ (by rw [hw];exact ((((((OW_w56.out).aside (HN_w56.out) (by decide) (by decide) (by decide) _).aside (zqa (HN_w56.out)) (by decide) (by decide) (by decide) _).aside (zqa (zqa (HN_w56.out))) (by decide) (by decide) (by decide) _).aside (zqa (zqa (zqa (HN_w56.out)))) (by decide) (by decide) (by decide) _).aside (zqa (zqa (zqa (zqa (HN_w56.out))))) (by decide) (by decide) (by decide) _).aside (zqa (zqa (zqa (zqa (zqa (HN_w56.out)))))) (by decide) (by decide) (by decide) _)
       have OV_w57 : Hid (OwB w57 w.heap.size o.b D1 D2 D3 s1 s2 s3):=hd_ (by rw [hw];exact ((((((OV_w56.out).aside (HN_w56.out) (by decide) (by decide) (by decide) _).aside (zqa (HN_w56.out)) (by decide) (by decide) (by decide) _).aside (zqa (zqa (HN_w56.out))) (by decide) (by decide) (by decide) _).aside (zqa (zqa (zqa (HN_w56.out)))) (by decide) (by decide) (by decide) _).aside (zqa (zqa (zqa (zqa (HN_w56.out))))) (by decide) (by decide) (by decide) _).aside (zqa (zqa (zqa (zqa (zqa (HN_w56.out)))))) (by decide) (by decide) (by decide) _)
       clear hw
       clear N0 N1 N2 N3 N4 N5 E0 E1 E2 E3 E4 E5 E6 M0 M1 M2 M3 M4 M5 H0 H1 H2 H3 H4 H5 H6 Nf Ef Mf Hf Nz Ez Mz Hz
       obtain ⟨N0,N1,N2,N3,N4,N5,Nf,Nz⟩:=box6_ HN_w57.out
       obtain ⟨E0,E1,E2,E3,E4,E5,E6,Ef,Ez⟩:=box7_ HE_w57.out
       obtain ⟨M0,M1,M2,M3,M4,M5,Mf,Mz⟩:=box6_ HM_w57.out
       obtain ⟨H0,H1,H2,H3,H4,H5,H6,Hf,Hz⟩:=box7_ HH_w57.out
       go_wp2_with fail
       go_roundw
       case rel => exact ⟨k + 1,o.b,LL,D1,D2,D3,AL,s1,s2,s3,cL,by omega,by go_num,rfl,by omega,hd_ (by rw [Fx.out,HF.out];exact FS.out),hl2,OV_w57,OS_w57,HN_w57,HG_w57⟩
       case measure => simp [intOf];omega
     ·
      have FS0:=hd_ (show gainStep (b,L) x = (o.b,addG L (gainOf hv true)) by rw [HFS.out];unfold gainEv;rw [HFN.out];dsimp only;rw [if_pos (eq_of_beq t6)])
      go_wp2_with fail
      refine (zso L hv _ _ _ _ (by omega) HSM.out OS_w55.out.rd).mono ?_
      rintro e' w56 ⟨AL,cL,rfl,hos,hb⟩
      have HG_w56:=hd_ (HG_w55.out.trans (hb.mono HG_w55.out.size))
      have HN_w56:=hd_ (zqc hb (gz_ HN_w55.out).1 HN_w55.out)
      have HE_w56:=hd_ (zqc hb (gz_ HE_w55.out).1 HE_w55.out)
      have HM_w56:=hd_ (zqc hb (gz_ HM_w55.out).1 HM_w55.out)
      have HH_w56:=hd_ (zqc hb (gz_ HH_w55.out).1 HH_w55.out)
      have OS_w56:=hd_ (OS_w55.out.below hb)
      have OW_w56:=hd_ (OW_w55.out.below hb)
      have OV_w56:=hd_ (OV_w55.out.below hb)
      clear hb
      clear N0 N1 N2 N3 N4 N5 E0 E1 E2 E3 E4 E5 E6 M0 M1 M2 M3 M4 M5 H0 H1 H2 H3 H4 H5 H6 Nf Ef Mf Hf Nz Ez Mz Hz
      obtain ⟨N0,N1,N2,N3,N4,N5,Nf,Nz⟩:=box6_ HN_w56.out
      obtain ⟨E0,E1,E2,E3,E4,E5,E6,Ef,Ez⟩:=box7_ HE_w56.out
      obtain ⟨M0,M1,M2,M3,M4,M5,Mf,Mz⟩:=box6_ HM_w56.out
      obtain ⟨H0,H1,H2,H3,H4,H5,H6,Hf,Hz⟩:=box7_ HH_w56.out
      have OT_w56:=hd_ (hos.more HSZ9.out)
      have hlA:=zwv L (gainOf hv true)
      obtain ⟨LL,hLL⟩ : ∃ LL,addG L (gainOf hv true) = LL:=⟨_,rfl⟩
      rw [hLL] at OT_w56 hlA FS0 ⊢
      have FS:=FS0
      clear hos hLL OS_w56
      have OS_w56:=OT_w56
      go_upto_region 12 with fail
      refine nm_ ?_
      intro w57 hw
      have HG_w57 : Hid (Below w.heap.size w w57):=hd_ (by rw [hw];exact ((((((HG_w56.out).setCell HLN.out _).setCell HLN.out _).setCell HLN.out _).setCell HLN.out _).setCell HLN.out _).setCell HLN.out _)
      have HN_w57 : Hid (Hx w57 NB (bkC o.b D1 s1 D2 s2 D3 s3) 39):=hd_ (by rw [hw];exact zqa (zqa (zqa (zqa (zqa (zqa (HN_w56.out)))))))
      have HE_w57 : Hid (Hx w57 EB (evC x) 64):=hd_ (by rw [hw];exact zqb (by first | exact HNEN.out | exact fun e9 => HNNE.out e9.symm) (zqb (by first | exact HNEN.out | exact fun e9 => HNNE.out e9.symm) (zqb (by first | exact HNEN.out | exact fun e9 => HNNE.out e9.symm) (zqb (by first | exact HNEN.out | exact fun e9 => HNNE.out e9.symm) (zqb (by first | exact HNEN.out | exact fun e9 => HNNE.out e9.symm) (zqb (by first | exact HNEN.out | exact fun e9 => HNNE.out e9.symm) (HE_w56.out)))))))
      have HM_w57 : Hid (Hx w57 MB (bkC o.b D1 s1 D2 s2 D3 s3) 39):=hd_ (by rw [hw];exact zqb (by first | exact HNMN.out | exact fun e9 => HNNM.out e9.symm) (zqb (by first | exact HNMN.out | exact fun e9 => HNNM.out e9.symm) (zqb (by first | exact HNMN.out | exact fun e9 => HNNM.out e9.symm) (zqb (by first | exact HNMN.out | exact fun e9 => HNNM.out e9.symm) (zqb (by first | exact HNMN.out | exact fun e9 => HNNM.out e9.symm) (zqb (by first | exact HNMN.out | exact fun e9 => HNNM.out e9.symm) (HM_w56.out)))))))
      have HH_w57 : Hid (Hx w57 HB #[.int .i64 hv.Key,.int .i64 hv.In,.int .i64 hv.Out,.int .i64 hv.AmtIn,.int .i64 hv.AmtOut,.bool hv.Kept,.int .i64 hv.Age] 70):=hd_ (by rw [hw];exact zqb (by first | exact HNHN.out | exact fun e9 => HNNH.out e9.symm) (zqb (by first | exact HNHN.out | exact fun e9 => HNNH.out e9.symm) (zqb (by first | exact HNHN.out | exact fun e9 => HNNH.out e9.symm) (zqb (by first | exact HNHN.out | exact fun e9 => HNNH.out e9.symm) (zqb (by first | exact HNHN.out | exact fun e9 => HNNH.out e9.symm) (zqb (by first | exact HNHN.out | exact fun e9 => HNNH.out e9.symm) (HH_w56.out)))))))
      have OS_w57 : Hid (Ow w57 w.heap.size 79 4 (.slice AL LL.length cL) (LL.map Gain.cells)):=hd_ (by rw [hw];exact ((((((OS_w56.out).aside (HN_w56.out) (by decide) _).aside (zqa (HN_w56.out)) (by decide) _).aside (zqa (zqa (HN_w56.out))) (by decide) _).aside (zqa (zqa (zqa (HN_w56.out)))) (by decide) _).aside (zqa (zqa (zqa (zqa (HN_w56.out))))) (by decide) _).aside (zqa (zqa (zqa (zqa (zqa (HN_w56.out)))))) (by decide) _)
      have OW_w57 : Hid (OwB w57 w.heap.size b C1 C2 C3 q1 q2 q3):=hd_ (by rw [hw];exact ((((((OW_w56.out).aside (HN_w56.out) (by decide) (by decide) (by decide) _).aside (zqa (HN_w56.out)) (by decide) (by decide) (by decide) _).aside (zqa (zqa (HN_w56.out))) (by decide) (by decide) (by decide) _).aside (zqa (zqa (zqa (HN_w56.out)))) (by decide) (by decide) (by decide) _).aside (zqa (zqa (zqa (zqa (HN_w56.out))))) (by decide) (by decide) (by decide) _).aside (zqa (zqa (zqa (zqa (zqa (HN_w56.out)))))) (by decide) (by decide) (by decide) _)
      have OV_w57 : Hid (OwB w57 w.heap.size o.b D1 D2 D3 s1 s2 s3):=hd_ (by rw [hw];exact ((((((OV_w56.out).aside (HN_w56.out) (by decide) (by decide) (by decide) _).aside (zqa (HN_w56.out)) (by decide) (by decide) (by decide) _).aside (zqa (zqa (HN_w56.out))) (by decide) (by decide) (by decide) _).aside (zqa (zqa (zqa (HN_w56.out)))) (by decide) (by decide) (by decide) _).aside (zqa (zqa (zqa (zqa (HN_w56.out))))) (by decide) (by decide) (by decide) _).aside (zqa (zqa (zqa (zqa (zqa (HN_w56.out)))))) (by decide) (by decide) (by decide) _)
      clear hw
      clear N0 N1 N2 N3 N4 N5 E0 E1 E2 E3 E4 E5 E6 M0 M1 M2 M3 M4 M5 H0 H1 H2 H3 H4 H5 H6 Nf Ef Mf Hf Nz Ez Mz Hz
      obtain ⟨N0,N1,N2,N3,N4,N5,Nf,Nz⟩:=box6_ HN_w57.out
      obtain ⟨E0,E1,E2,E3,E4,E5,E6,Ef,Ez⟩:=box7_ HE_w57.out
      obtain ⟨M0,M1,M2,M3,M4,M5,Mf,Mz⟩:=box6_ HM_w57.out
      obtain ⟨H0,H1,H2,H3,H4,H5,H6,Hf,Hz⟩:=box7_ HH_w57.out
      go_wp2_with fail
      go_roundw
      case rel => exact ⟨k + 1,o.b,LL,D1,D2,D3,AL,s1,s2,s3,cL,by omega,by go_num,rfl,by omega,hd_ (by rw [Fx.out,HF.out];exact FS.out),hl2,OV_w57,OS_w57,HN_w57,HG_w57⟩
      case measure => simp [intOf];omega
  ·
   obtain rfl : k = es.length:=by omega
   have hf:=HF.out
   rw [List.take_length] at hf
   have HZ : Hid (gainsF es = L):=hd_ (by unfold gainsF;rw [hf])
   clear hf HF
   go_wp2_with fail
   go_ret
   rw [HZ.out]
   exact ⟨_,_,rfl,OS_wr.out,HG_wr.out⟩
end Go.Proofs.YtdbmkfmenfcbiaaGreat
