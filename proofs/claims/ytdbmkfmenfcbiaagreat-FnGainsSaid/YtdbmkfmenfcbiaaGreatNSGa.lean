/- Gains: the reference's walk over the events. -/
import Derived.Test.YtdbmkfmenfcbiaaGreatRows
import Derived.Test.YtdbmkfmenfcbiaaGreatNSGn
import Derived.Test.YtdbmkfmenfcbiaaGreatNM5
import Derived.Test.YtdbmkfmenfcbiaaGreatNM6
namespace Go.Proofs.YtdbmkfmenfcbiaaGreat
open Go.RowKit Go.Deep
theorem lenOk1 : LenOk bk1:=⟨by decide,by decide,by decide⟩
theorem zpv {b : Bk} {e : Event} (h : (applyS b e).code = 0) : Small b.hs b.os:=(zxw (zyj h)).small
theorem htlcD_small {b : Bk} {e : Event} (h : (applyS b e).code = 0) {key : Int} {x : Htlc} (hx : htlcF b.hs key = some x) : (0 ≤ x.AmtOut∧x.AmtOut ≤ 1125899906842624)∧(0 ≤ x.AmtIn∧x.AmtIn ≤ 1125899906842624):=by
 obtain ⟨k,hk,rfl⟩:=List.mem_iff_getElem.1 (zyr hx)
 exact (zpv h).h k hk
set_option maxRecDepth 100000 in
set_option maxHeartbeats 4000000 in
theorem s_Gains (es : List Event) (AE : Option Addr) (pe : Nat) (w : World) (hle : es.length ≤ 1048576) (hre : Rd w w.heap.size 7 AE (es.map Event.cells)) :
  Calls Tryz.prog 7 #[.slice AE es.length pe] w (GsP w (gainsF es)):=by
 have HRe:=hd_ hre
 clear hre
 go_enter Tryz.func7,Tryz.ntmps7
 go_wp2_with fail
 have HG_w : Hid (Below w.heap.size w w):=hd_ (Below.refl _ _)
 refine nm_ ?_
 intro w1 hw
 have HG1 : Hid (Below w.heap.size w w1):=hd_ (by rw [hw];exact HG_w.out.alloc (Nat.le_refl _) _)
 have OS1 : Hid (Ow w1 w.heap.size 79 4 (.slice (some ⟨w.heap.size,0,none⟩) 0 0) (List.map Gain.cells [])):=hd_ (by rw [hw];exact Ow.empty_ rfl (Nat.le_refl _))
 clear hw HG_w
 refine (s_BookNew _).mono ?_
 rintro e' w2 ⟨rfl,hb⟩
 have HG2:=hd_ (HG1.out.trans (hb.mono HG1.out.size))
 have OS2:=hd_ (OS1.out.below hb)
 clear hb
 go_wp2_with fail
 obtain ⟨NB,hNB⟩ : ∃ v,v = w2.heap.size:=⟨_,rfl⟩
 have HGN : Hid (w.heap.size ≤ NB):=hd_ (by have:=HG2.out.size;omega)
 have hbz0:=HG2.out.size
 rw [← hNB]
 go_loopw [3,16] (fun vs i wr => ∃ (k : Nat) (b : Bk) (L : List Gain) (C1 C2 C3 A : Option Addr) (q1 q2 q3 c : Nat),k ≤ es.length∧i = .int .i64 k∧vs = .slice A L.length c∧L.length ≤ k∧Hid ((es.take k).foldl gainStep (bk1,[]) = (b,L))∧Hid (LenOk b)∧Hid (OwB wr w.heap.size b C1 C2 C3 q1 q2 q3)∧Hid (Ow wr w.heap.size 79 4 (.slice A L.length c) (L.map Gain.cells))∧Hid (Hx wr NB (bkC b C1 q1 C2 q2 C3 q3) 39)∧Hid (Below w.heap.size w wr)) (fun _ i _ => es.length - (intOf i).toNat)
 case atStart => exact ⟨0,bk1,[],none,none,none,_,0,0,0,0,Nat.zero_le _,rfl,rfl,Nat.le_refl _,hd_ rfl,hd_ lenOk1,hd_ (OwB.nil_ _ _ _ _ _),hd_ (OS2.out.alloc _),hd_ (zqi hNB),hd_ (HG2.out.alloc (by omega) _)⟩
 case round =>
  clear hNB hbz0 HG1 OS1 HG2 OS2
  obtain ⟨k,b,L,C1,C2,C3,A,q1,q2,q3,c,hk,rfl,rfl,hLk,HF,HL,OW_wr,OS_wr,HN_wr,HG_wr⟩:=hrel
  have hgz:=HG_wr.out.size
  by_cases hlt : k < es.length
  rotate_left
  ·
   obtain rfl : k = es.length:=by omega
   have hf:=HF.out
   rw [List.take_length] at hf
   have HZ : Hid (gainsF es = L):=hd_ (by unfold gainsF;rw [hf])
   clear hf HF
   go_wp2_with fail
   go_ret
   rw [HZ.out]
   exact ⟨_,_,rfl,OS_wr.out,HG_wr.out⟩
  obtain ⟨bb,off,hA1,hbB,e0,e1,e2,e3,e4,e5,e6⟩:=Event.rd (HRe.out.below HG_wr) hlt
  subst hA1
  have Fx:=hd_ (zqq es gainStep (bk1,[]) hlt)
  obtain ⟨x,hx⟩ : ∃ x,es[k] = x:=⟨_,rfl⟩
  rw [hx] at e0 e1 e2 e3 e4 e5 e6 Fx
  clear hx
  obtain ⟨l1,l2,l3⟩:=HL.out
  have HLN : Hid (w.heap.size ≤ NB):=HGN
  obtain ⟨N,Nf,Nz⟩:=bc6_ HN_wr
  go_upto_region 6 with fail
  clear e0 e1 e2 e3 e4 e5 e6
  refine nm_ ?_
  intro w51 hw
  have HG51 : Hid (Below w.heap.size w w51):=hd_ (by rw [hw];exact (HG_wr.out).alloc (by have:=HG_wr.out.size;first | omega | (simp;omega)) _)
  have HN51 : Hid (Hx w51 NB (bkC b C1 q1 C2 q2 C3 q3) 39):=hd_ (by rw [hw];exact zqd (by have:=(gz_ HN_wr).1;first | omega | (simp;omega)) (HN_wr.out))
  have OS51 : Hid (Ow w51 w.heap.size 79 4 (.slice A L.length c) (L.map Gain.cells)):=hd_ (by rw [hw];exact (OS_wr.out).alloc _)
  have OW51:=oba_ hw OW_wr
  obtain ⟨EB,h9E⟩ : ∃ v,v = wr.heap.size:=⟨_,rfl⟩
  have HE51 : Hid (Hx w51 EB (evC x) 64):=hd_ (by rw [hw,h9E];exact zqi (by first | rfl | (simp;done)))
  try rw [← h9E]
  have HNEN : Hid (EB ≠ NB):=hd_ (by have:=(gz_ HN_wr).1;omega)
  clear hw h9E
  clear N Nf Nz
  obtain ⟨N,Nf,Nz⟩:=bc6_ HN51
  obtain ⟨E,Ef,Ez⟩:=bc7_ HE51
  go_wp2_with fail
  have HSZ:=hd_ HG51.out.size
  refine (s_Apply b x _ _ _ _ _ _ _ (by omega) (by omega) (by omega) ⟨OW51.out.c.rd,OW51.out.h.rd,OW51.out.o.rd⟩).mono ?_
  rintro e' w52 ⟨b2,L2,id,D1,D2,D3,D4,s1,s2,s3,s4,rfl,hob,hol,hb,rfl,rfl,-⟩
  have HG52:=hd_ (HG51.out.trans (hb.mono HG51.out.size))
  have HN52:=hb_ hb HN51
  have HE52:=hb_ hb HE51
  have OS52:=hd_ (OS51.out.below hb)
  have OW52:=hd_ (OW51.out.below hb)
  clear hb
  clear N E Nf Ef Nz Ez
  obtain ⟨N,Nf,Nz⟩:=bc6_ HN52
  obtain ⟨E,Ef,Ez⟩:=bc7_ HE52
  have OV52:=hd_ (hob.more HSZ)
  clear hob hol
  have hl2:=hd_ (zvz b x)
  obtain ⟨o,ho⟩ : ∃ o,applyS b x = o:=⟨_,rfl⟩
  rw [ho] at OV52 hl2 ⊢
  have HO:=hd_ ho
  clear ho
  go_upto_region 7 with fail
  refine nm_ ?_
  intro w53 hw
  have HG53 : Hid (Below w.heap.size w w53):=hd_ (by rw [hw];exact ((HG52.out).alloc (by have:=HG52.out.size;first | omega | (simp;omega)) _).alloc (by have:=HG52.out.size;first | omega | (simp;omega)) _)
  have HN53 : Hid (Hx w53 NB (bkC b C1 q1 C2 q2 C3 q3) 39):=hd_ (by rw [hw];exact zqd (by have:=(gz_ HN52).1;first | omega | (simp;omega)) (zqd (by have:=(gz_ HN52).1;first | omega | (simp;omega)) (HN52.out)))
  have HE53 : Hid (Hx w53 EB (evC x) 64):=hd_ (by rw [hw];exact zqd (by have:=(gz_ HE52).1;first | omega | (simp;omega)) (zqd (by have:=(gz_ HE52).1;first | omega | (simp;omega)) (HE52.out)))
  have OS53 : Hid (Ow w53 w.heap.size 79 4 (.slice A L.length c) (L.map Gain.cells)):=hd_ (by rw [hw];exact ((OS52.out).alloc _).alloc _)
  have OW53 : Hid (OwB w53 w.heap.size b C1 C2 C3 q1 q2 q3):=hd_ (by rw [hw];exact ((OW52.out).alloc _).alloc _)
  have OV53 : Hid (OwB w53 w.heap.size o.b D1 D2 D3 s1 s2 s3):=hd_ (by rw [hw];exact ((OV52.out).alloc _).alloc _)
  obtain ⟨MB,h9M⟩ : ∃ v,v = w52.heap.size:=⟨_,rfl⟩
  have HM53 : Hid (Hx w53 MB (bkC o.b D1 s1 D2 s2 D3 s3) 39):=hd_ (by rw [hw,h9M];exact zqd (by simp) (zqi (by first | rfl | (simp;done))))
  try rw [← h9M]
  have HNMN : Hid (MB ≠ NB):=hd_ (by have:=(gz_ HN52).1;omega)
  clear hw h9M
  clear N E Nf Ef Nz Ez
  obtain ⟨N,Nf,Nz⟩:=bc6_ HN53
  obtain ⟨E,Ef,Ez⟩:=bc7_ HE53
  obtain ⟨M,Mf,Mz⟩:=bc6_ HM53
  cases t0 : (o.code == 0)
  ·
   have FS:=hd_ (show gainStep (b,L) x = (b,L) by unfold gainStep;rw [if_neg (by rw [HO.out];exact beq_eq_false_iff_ne.1 t0)])
   go_wp2_with fail
   go_roundw
   case rel => exact ⟨k + 1,b,L,C1,C2,C3,A,q1,q2,q3,c,by omega,by go_num,rfl,by omega,hd_ (by rw [Fx.out,HF.out];exact FS.out),HL,OW53,OS53,HN53,HG53⟩
   case measure => simp [intOf];omega
  have HC0:=hd_ (show (applyS b x).code = 0 by rw [HO.out];exact eq_of_beq t0)
  have HFS:=hd_ (show gainStep (b,L) x = (o.b,gainEv b.hs x L) by unfold gainStep;rw [if_pos HC0.out,HO.out])
  go_wp2_with fail
  refine (s_l22Htlc b.t b.n b.w b.cs b.hs b.os _ _ _ _ _ _ x.Key _ (by omega) ⟨OW53.out.c.rd,OW53.out.h.rd,OW53.out.o.rd⟩).mono ?_
  rintro e' w54 ⟨rfl,hb⟩
  have HG54:=hd_ (HG53.out.trans (hb.mono HG53.out.size))
  have HN54:=hb_ hb HN53
  have HE54:=hb_ hb HE53
  have HM54:=hb_ hb HM53
  have OS54:=hd_ (OS53.out.below hb)
  have OW54:=hd_ (OW53.out.below hb)
  have OV54:=hd_ (OV53.out.below hb)
  clear hb
  clear N E M Nf Ef Mf Nz Ez Mz
  obtain ⟨N,Nf,Nz⟩:=bc6_ HN54
  obtain ⟨E,Ef,Ez⟩:=bc7_ HE54
  obtain ⟨M,Mf,Mz⟩:=bc6_ HM54
  obtain ⟨hv,hh⟩ : ∃ hv,htlcD b.hs x.Key = hv:=⟨_,rfl⟩
  rw [hh]
  have HH:=hd_ hh
  clear hh
  go_upto_region 9 with fail
  refine nm_ ?_
  intro w55 hw
  have HG55 : Hid (Below w.heap.size w w55):=hd_ (by rw [hw];exact (HG54.out).alloc (by have:=HG54.out.size;first | omega | (simp;omega)) _)
  have HN55 : Hid (Hx w55 NB (bkC b C1 q1 C2 q2 C3 q3) 39):=hd_ (by rw [hw];exact zqd (by have:=(gz_ HN54).1;first | omega | (simp;omega)) (HN54.out))
  have HE55 : Hid (Hx w55 EB (evC x) 64):=hd_ (by rw [hw];exact zqd (by have:=(gz_ HE54).1;first | omega | (simp;omega)) (HE54.out))
  have HM55 : Hid (Hx w55 MB (bkC o.b D1 s1 D2 s2 D3 s3) 39):=hd_ (by rw [hw];exact zqd (by have:=(gz_ HM54).1;first | omega | (simp;omega)) (HM54.out))
  have OS55 : Hid (Ow w55 w.heap.size 79 4 (.slice A L.length c) (L.map Gain.cells)):=hd_ (by rw [hw];exact (OS54.out).alloc _)
  have OW55:=oba_ hw OW54
  have OV55:=oba_ hw OV54
  obtain ⟨HB,h9H⟩ : ∃ v,v = w54.heap.size:=⟨_,rfl⟩
  have HH55 : Hid (Hx w55 HB (qaiiiiibi hv.Key hv.In hv.Out hv.AmtIn hv.AmtOut hv.Kept hv.Age) 70):=hd_ (by rw [hw,h9H];exact zqi (by first | rfl | (simp;done)))
  try rw [← h9H]
  have HNHN : Hid (HB ≠ NB):=hd_ (by have:=(gz_ HN54).1;omega)
  clear hw h9H
  clear N E M Nf Ef Mf Nz Ez Mz
  obtain ⟨N,Nf,Nz⟩:=bc6_ HN55
  obtain ⟨E,Ef,Ez⟩:=bc7_ HE55
  obtain ⟨M,Mf,Mz⟩:=bc6_ HM55
  obtain ⟨H,Hf,Hz⟩:=bc7_ HH55
  cases hf : htlcF b.hs x.Key with
  | none =>
   have HFN:=hd_ hf
   have tN : (none : Option Htlc).isSome = false:=rfl
   rw [tN]
   have FS:=hd_ (show gainStep (b,L) x = (o.b,L) by rw [HFS.out];unfold gainEv;rw [HFN.out])
   go_upto_region 12 with fail
   refine nm_ ?_
   intro w56 hw
   have HG56 : Hid (Below w.heap.size w w56):=hd_ (by rw [hw];exact ((((((HG55.out).setCell HLN.out _).setCell HLN.out _).setCell HLN.out _).setCell HLN.out _).setCell HLN.out _).setCell HLN.out _)
   have HN56 : Hid (Hx w56 NB (bkC o.b D1 s1 D2 s2 D3 s3) 39):=hd_ (by rw [hw];exact zqa (zqa (zqa (zqa (zqa (zqa (HN55.out)))))))
   have HE56 : Hid (Hx w56 EB (evC x) 64):=hd_ (by rw [hw];exact zqb HNEN (zqb HNEN (zqb HNEN (zqb HNEN (zqb HNEN (zqb HNEN (HE55.out)))))))
   have HM56 : Hid (Hx w56 MB (bkC o.b D1 s1 D2 s2 D3 s3) 39):=hd_ (by rw [hw];exact zqb HNMN (zqb HNMN (zqb HNMN (zqb HNMN (zqb HNMN (zqb HNMN (HM55.out)))))))
   have HH56 : Hid (Hx w56 HB (qaiiiiibi hv.Key hv.In hv.Out hv.AmtIn hv.AmtOut hv.Kept hv.Age) 70):=hd_ (by rw [hw];exact zqb HNHN (zqb HNHN (zqb HNHN (zqb HNHN (zqb HNHN (zqb HNHN (HH55.out)))))))
   have OS56 : Hid (Ow w56 w.heap.size 79 4 (.slice A L.length c) (L.map Gain.cells)):=hd_ (by rw [hw];exact ((((((OS55.out).aside (HN55.out) (by decide) _).aside (zqa (HN55.out)) (by decide) _).aside (zqa (zqa (HN55.out))) (by decide) _).aside (zqa (zqa (zqa (HN55.out)))) (by decide) _).aside (zqa (zqa (zqa (zqa (HN55.out))))) (by decide) _).aside (zqa (zqa (zqa (zqa (zqa (HN55.out)))))) (by decide) _)
   have OW56 : Hid (OwB w56 w.heap.size b C1 C2 C3 q1 q2 q3):=hd_ (by rw [hw];exact ((((((OW55.out).aside (HN55.out) (by decide) (by decide) (by decide) _).aside (zqa (HN55.out)) (by decide) (by decide) (by decide) _).aside (zqa (zqa (HN55.out))) (by decide) (by decide) (by decide) _).aside (zqa (zqa (zqa (HN55.out)))) (by decide) (by decide) (by decide) _).aside (zqa (zqa (zqa (zqa (HN55.out))))) (by decide) (by decide) (by decide) _).aside (zqa (zqa (zqa (zqa (zqa (HN55.out)))))) (by decide) (by decide) (by decide) _)
   have OV56 : Hid (OwB w56 w.heap.size o.b D1 D2 D3 s1 s2 s3):=hd_ (by rw [hw];exact ((((((OV55.out).aside (HN55.out) (by decide) (by decide) (by decide) _).aside (zqa (HN55.out)) (by decide) (by decide) (by decide) _).aside (zqa (zqa (HN55.out))) (by decide) (by decide) (by decide) _).aside (zqa (zqa (zqa (HN55.out)))) (by decide) (by decide) (by decide) _).aside (zqa (zqa (zqa (zqa (HN55.out))))) (by decide) (by decide) (by decide) _).aside (zqa (zqa (zqa (zqa (zqa (HN55.out)))))) (by decide) (by decide) (by decide) _)
   clear hw
   clear N E M H Nf Ef Mf Hf Nz Ez Mz Hz
   obtain ⟨N,Nf,Nz⟩:=bc6_ HN56
   obtain ⟨E,Ef,Ez⟩:=bc7_ HE56
   obtain ⟨M,Mf,Mz⟩:=bc6_ HM56
   obtain ⟨H,Hf,Hz⟩:=bc7_ HH56
   go_wp2_with fail
   go_roundw
   case rel => exact ⟨k + 1,o.b,L,D1,D2,D3,A,s1,s2,s3,c,by omega,by go_num,rfl,by omega,hd_ (by rw [Fx.out,HF.out];exact FS.out),hl2,OV56,OS56,HN56,HG56⟩
   case measure => simp [intOf];omega
  | some h =>
   have HFN:=hd_ hf
   have tN : (some h : Option Htlc).isSome = true:=rfl
   rw [tN]
   have hvh : hv = h:=by rw [← HH.out];unfold htlcD;rw [HFN.out];rfl
   subst hvh
   have HSM:=hd_ (htlcD_small HC0 hf)
   clear hf tN
   have HSZ9:=hd_ HG55.out.size
   cases t6 : (x.Kind == 6)
   rotate_left
   ·
    have FS0:=hd_ (show gainStep (b,L) x = (o.b,addG L (gainOf hv true)) by rw [HFS.out];unfold gainEv;rw [HFN.out];dsimp only;rw [if_pos (eq_of_beq t6)])
    go_wp2_with fail
    refine (s_l22Add L hv _ _ _ _ (by omega) HSM OS55.out.rd).mono ?_
    rintro e' w56 ⟨AL,cL,rfl,hos,hb⟩
    have HG56:=hd_ (HG55.out.trans (hb.mono HG55.out.size))
    have HN56:=hb_ hb HN55
    have HE56:=hb_ hb HE55
    have HM56:=hb_ hb HM55
    have HH56:=hb_ hb HH55
    have OS56:=hd_ (OS55.out.below hb)
    have OW56:=hd_ (OW55.out.below hb)
    have OV56:=hd_ (OV55.out.below hb)
    clear hb
    clear N E M H Nf Ef Mf Hf Nz Ez Mz Hz
    obtain ⟨N,Nf,Nz⟩:=bc6_ HN56
    obtain ⟨E,Ef,Ez⟩:=bc7_ HE56
    obtain ⟨M,Mf,Mz⟩:=bc6_ HM56
    obtain ⟨H,Hf,Hz⟩:=bc7_ HH56
    have OT56:=hd_ (hos.more HSZ9)
    have hlA:=zhx L (gainOf hv true)
    obtain ⟨LL,hLL⟩ : ∃ LL,addG L (gainOf hv true) = LL:=⟨_,rfl⟩
    rw [hLL] at OT56 hlA FS0 ⊢
    have FS:=FS0
    clear hos hLL OS56
    have OS56:=OT56
    go_upto_region 12 with fail
    refine nm_ ?_
    intro w57 hw
    have HG57 : Hid (Below w.heap.size w w57):=hd_ (by rw [hw];exact ((((((HG56.out).setCell HLN.out _).setCell HLN.out _).setCell HLN.out _).setCell HLN.out _).setCell HLN.out _).setCell HLN.out _)
    have HN57 : Hid (Hx w57 NB (bkC o.b D1 s1 D2 s2 D3 s3) 39):=hd_ (by rw [hw];exact zqa (zqa (zqa (zqa (zqa (zqa (HN56.out)))))))
    have HE57 : Hid (Hx w57 EB (evC x) 64):=hd_ (by rw [hw];exact zqb HNEN (zqb HNEN (zqb HNEN (zqb HNEN (zqb HNEN (zqb HNEN (HE56.out)))))))
    have HM57 : Hid (Hx w57 MB (bkC o.b D1 s1 D2 s2 D3 s3) 39):=hd_ (by rw [hw];exact zqb HNMN (zqb HNMN (zqb HNMN (zqb HNMN (zqb HNMN (zqb HNMN (HM56.out)))))))
    have HH57 : Hid (Hx w57 HB (qaiiiiibi hv.Key hv.In hv.Out hv.AmtIn hv.AmtOut hv.Kept hv.Age) 70):=hd_ (by rw [hw];exact zqb HNHN (zqb HNHN (zqb HNHN (zqb HNHN (zqb HNHN (zqb HNHN (HH56.out)))))))
    have OS57 : Hid (Ow w57 w.heap.size 79 4 (.slice AL LL.length cL) (LL.map Gain.cells)):=hd_ (by rw [hw];exact ((((((OS56.out).aside (HN56.out) (by decide) _).aside (zqa (HN56.out)) (by decide) _).aside (zqa (zqa (HN56.out))) (by decide) _).aside (zqa (zqa (zqa (HN56.out)))) (by decide) _).aside (zqa (zqa (zqa (zqa (HN56.out))))) (by decide) _).aside (zqa (zqa (zqa (zqa (zqa (HN56.out)))))) (by decide) _)
    have OW57 : Hid (OwB w57 w.heap.size b C1 C2 C3 q1 q2 q3):=hd_ (by rw [hw];exact ((((((OW56.out).aside (HN56.out) (by decide) (by decide) (by decide) _).aside (zqa (HN56.out)) (by decide) (by decide) (by decide) _).aside (zqa (zqa (HN56.out))) (by decide) (by decide) (by decide) _).aside (zqa (zqa (zqa (HN56.out)))) (by decide) (by decide) (by decide) _).aside (zqa (zqa (zqa (zqa (HN56.out))))) (by decide) (by decide) (by decide) _).aside (zqa (zqa (zqa (zqa (zqa (HN56.out)))))) (by decide) (by decide) (by decide) _)
    have OV57 : Hid (OwB w57 w.heap.size o.b D1 D2 D3 s1 s2 s3):=hd_ (by rw [hw];exact ((((((OV56.out).aside (HN56.out) (by decide) (by decide) (by decide) _).aside (zqa (HN56.out)) (by decide) (by decide) (by decide) _).aside (zqa (zqa (HN56.out))) (by decide) (by decide) (by decide) _).aside (zqa (zqa (zqa (HN56.out)))) (by decide) (by decide) (by decide) _).aside (zqa (zqa (zqa (zqa (HN56.out))))) (by decide) (by decide) (by decide) _).aside (zqa (zqa (zqa (zqa (zqa (HN56.out)))))) (by decide) (by decide) (by decide) _)
    clear hw
    clear N E M H Nf Ef Mf Hf Nz Ez Mz Hz
    obtain ⟨N,Nf,Nz⟩:=bc6_ HN57
    obtain ⟨E,Ef,Ez⟩:=bc7_ HE57
    obtain ⟨M,Mf,Mz⟩:=bc6_ HM57
    obtain ⟨H,Hf,Hz⟩:=bc7_ HH57
    go_wp2_with fail
    go_roundw
    case rel => exact ⟨k + 1,o.b,LL,D1,D2,D3,AL,s1,s2,s3,cL,by omega,by go_num,rfl,by omega,hd_ (by rw [Fx.out,HF.out];exact FS.out),hl2,OV57,OS57,HN57,HG57⟩
    case measure => simp [intOf];omega
   cases t7 : (x.Kind == 7)
   ·
    have FS:=hd_ (show gainStep (b,L) x = (o.b,L) by rw [HFS.out];unfold gainEv;rw [HFN.out];dsimp only;rw [if_neg (beq_eq_false_iff_ne.1 t6),if_neg (beq_eq_false_iff_ne.1 t7)])
    go_upto_region 12 with fail
    refine nm_ ?_
    intro w56 hw
    have HG56 : Hid (Below w.heap.size w w56):=hd_ (by rw [hw];exact ((((((HG55.out).setCell HLN.out _).setCell HLN.out _).setCell HLN.out _).setCell HLN.out _).setCell HLN.out _).setCell HLN.out _)
    have HN56 : Hid (Hx w56 NB (bkC o.b D1 s1 D2 s2 D3 s3) 39):=hd_ (by rw [hw];exact zqa (zqa (zqa (zqa (zqa (zqa (HN55.out)))))))
    have HE56 : Hid (Hx w56 EB (evC x) 64):=hd_ (by rw [hw];exact zqb HNEN (zqb HNEN (zqb HNEN (zqb HNEN (zqb HNEN (zqb HNEN (HE55.out)))))))
    have HM56 : Hid (Hx w56 MB (bkC o.b D1 s1 D2 s2 D3 s3) 39):=hd_ (by rw [hw];exact zqb HNMN (zqb HNMN (zqb HNMN (zqb HNMN (zqb HNMN (zqb HNMN (HM55.out)))))))
    have HH56 : Hid (Hx w56 HB (qaiiiiibi hv.Key hv.In hv.Out hv.AmtIn hv.AmtOut hv.Kept hv.Age) 70):=hd_ (by rw [hw];exact zqb HNHN (zqb HNHN (zqb HNHN (zqb HNHN (zqb HNHN (zqb HNHN (HH55.out)))))))
    have OS56 : Hid (Ow w56 w.heap.size 79 4 (.slice A L.length c) (L.map Gain.cells)):=hd_ (by rw [hw];exact ((((((OS55.out).aside (HN55.out) (by decide) _).aside (zqa (HN55.out)) (by decide) _).aside (zqa (zqa (HN55.out))) (by decide) _).aside (zqa (zqa (zqa (HN55.out)))) (by decide) _).aside (zqa (zqa (zqa (zqa (HN55.out))))) (by decide) _).aside (zqa (zqa (zqa (zqa (zqa (HN55.out)))))) (by decide) _)
    have OW56 : Hid (OwB w56 w.heap.size b C1 C2 C3 q1 q2 q3):=hd_ (by rw [hw];exact ((((((OW55.out).aside (HN55.out) (by decide) (by decide) (by decide) _).aside (zqa (HN55.out)) (by decide) (by decide) (by decide) _).aside (zqa (zqa (HN55.out))) (by decide) (by decide) (by decide) _).aside (zqa (zqa (zqa (HN55.out)))) (by decide) (by decide) (by decide) _).aside (zqa (zqa (zqa (zqa (HN55.out))))) (by decide) (by decide) (by decide) _).aside (zqa (zqa (zqa (zqa (zqa (HN55.out)))))) (by decide) (by decide) (by decide) _)
    have OV56 : Hid (OwB w56 w.heap.size o.b D1 D2 D3 s1 s2 s3):=hd_ (by rw [hw];exact ((((((OV55.out).aside (HN55.out) (by decide) (by decide) (by decide) _).aside (zqa (HN55.out)) (by decide) (by decide) (by decide) _).aside (zqa (zqa (HN55.out))) (by decide) (by decide) (by decide) _).aside (zqa (zqa (zqa (HN55.out)))) (by decide) (by decide) (by decide) _).aside (zqa (zqa (zqa (zqa (HN55.out))))) (by decide) (by decide) (by decide) _).aside (zqa (zqa (zqa (zqa (zqa (HN55.out)))))) (by decide) (by decide) (by decide) _)
    clear hw
    clear N E M H Nf Ef Mf Hf Nz Ez Mz Hz
    obtain ⟨N,Nf,Nz⟩:=bc6_ HN56
    obtain ⟨E,Ef,Ez⟩:=bc7_ HE56
    obtain ⟨M,Mf,Mz⟩:=bc6_ HM56
    obtain ⟨H,Hf,Hz⟩:=bc7_ HH56
    go_wp2_with fail
    go_roundw
    case rel => exact ⟨k + 1,o.b,L,D1,D2,D3,A,s1,s2,s3,c,by omega,by go_num,rfl,by omega,hd_ (by rw [Fx.out,HF.out];exact FS.out),hl2,OV56,OS56,HN56,HG56⟩
    case measure => simp [intOf];omega
   have FS0:=hd_ (show gainStep (b,L) x = (o.b,addG L (gainOf hv false)) by rw [HFS.out];unfold gainEv;rw [HFN.out];dsimp only;rw [if_neg (beq_eq_false_iff_ne.1 t6),if_pos (eq_of_beq t7)])
   go_wp2_with fail
   refine (s_l22Add L hv _ _ _ _ (by omega) HSM OS55.out.rd).mono ?_
   rintro e' w56 ⟨AL,cL,rfl,hos,hb⟩
   have HG56:=hd_ (HG55.out.trans (hb.mono HG55.out.size))
   have HN56:=hb_ hb HN55
   have HE56:=hb_ hb HE55
   have HM56:=hb_ hb HM55
   have HH56:=hb_ hb HH55
   have OS56:=hd_ (OS55.out.below hb)
   have OW56:=hd_ (OW55.out.below hb)
   have OV56:=hd_ (OV55.out.below hb)
   clear hb
   clear N E M H Nf Ef Mf Hf Nz Ez Mz Hz
   obtain ⟨N,Nf,Nz⟩:=bc6_ HN56
   obtain ⟨E,Ef,Ez⟩:=bc7_ HE56
   obtain ⟨M,Mf,Mz⟩:=bc6_ HM56
   obtain ⟨H,Hf,Hz⟩:=bc7_ HH56
   have OT56:=hd_ (hos.more HSZ9)
   have hlA:=zhx L (gainOf hv false)
   obtain ⟨LL,hLL⟩ : ∃ LL,addG L (gainOf hv false) = LL:=⟨_,rfl⟩
   rw [hLL] at OT56 hlA FS0 ⊢
   have FS:=FS0
   clear hos hLL OS56
   have OS56:=OT56
   go_upto_region 12 with fail
   refine nm_ ?_
   intro w57 hw
   have HG57 : Hid (Below w.heap.size w w57):=hd_ (by rw [hw];exact ((((((HG56.out).setCell HLN.out _).setCell HLN.out _).setCell HLN.out _).setCell HLN.out _).setCell HLN.out _).setCell HLN.out _)
   have HN57 : Hid (Hx w57 NB (bkC o.b D1 s1 D2 s2 D3 s3) 39):=hd_ (by rw [hw];exact zqa (zqa (zqa (zqa (zqa (zqa (HN56.out)))))))
   have HE57 : Hid (Hx w57 EB (evC x) 64):=hd_ (by rw [hw];exact zqb HNEN (zqb HNEN (zqb HNEN (zqb HNEN (zqb HNEN (zqb HNEN (HE56.out)))))))
   have HM57 : Hid (Hx w57 MB (bkC o.b D1 s1 D2 s2 D3 s3) 39):=hd_ (by rw [hw];exact zqb HNMN (zqb HNMN (zqb HNMN (zqb HNMN (zqb HNMN (zqb HNMN (HM56.out)))))))
   have HH57 : Hid (Hx w57 HB (qaiiiiibi hv.Key hv.In hv.Out hv.AmtIn hv.AmtOut hv.Kept hv.Age) 70):=hd_ (by rw [hw];exact zqb HNHN (zqb HNHN (zqb HNHN (zqb HNHN (zqb HNHN (zqb HNHN (HH56.out)))))))
   have OS57 : Hid (Ow w57 w.heap.size 79 4 (.slice AL LL.length cL) (LL.map Gain.cells)):=hd_ (by rw [hw];exact ((((((OS56.out).aside (HN56.out) (by decide) _).aside (zqa (HN56.out)) (by decide) _).aside (zqa (zqa (HN56.out))) (by decide) _).aside (zqa (zqa (zqa (HN56.out)))) (by decide) _).aside (zqa (zqa (zqa (zqa (HN56.out))))) (by decide) _).aside (zqa (zqa (zqa (zqa (zqa (HN56.out)))))) (by decide) _)
   have OW57 : Hid (OwB w57 w.heap.size b C1 C2 C3 q1 q2 q3):=hd_ (by rw [hw];exact ((((((OW56.out).aside (HN56.out) (by decide) (by decide) (by decide) _).aside (zqa (HN56.out)) (by decide) (by decide) (by decide) _).aside (zqa (zqa (HN56.out))) (by decide) (by decide) (by decide) _).aside (zqa (zqa (zqa (HN56.out)))) (by decide) (by decide) (by decide) _).aside (zqa (zqa (zqa (zqa (HN56.out))))) (by decide) (by decide) (by decide) _).aside (zqa (zqa (zqa (zqa (zqa (HN56.out)))))) (by decide) (by decide) (by decide) _)
   have OV57 : Hid (OwB w57 w.heap.size o.b D1 D2 D3 s1 s2 s3):=hd_ (by rw [hw];exact ((((((OV56.out).aside (HN56.out) (by decide) (by decide) (by decide) _).aside (zqa (HN56.out)) (by decide) (by decide) (by decide) _).aside (zqa (zqa (HN56.out))) (by decide) (by decide) (by decide) _).aside (zqa (zqa (zqa (HN56.out)))) (by decide) (by decide) (by decide) _).aside (zqa (zqa (zqa (zqa (HN56.out))))) (by decide) (by decide) (by decide) _).aside (zqa (zqa (zqa (zqa (zqa (HN56.out)))))) (by decide) (by decide) (by decide) _)
   clear hw
   clear N E M H Nf Ef Mf Hf Nz Ez Mz Hz
   obtain ⟨N,Nf,Nz⟩:=bc6_ HN57
   obtain ⟨E,Ef,Ez⟩:=bc7_ HE57
   obtain ⟨M,Mf,Mz⟩:=bc6_ HM57
   obtain ⟨H,Hf,Hz⟩:=bc7_ HH57
   go_wp2_with fail
   go_roundw
   case rel => exact ⟨k + 1,o.b,LL,D1,D2,D3,AL,s1,s2,s3,cL,by omega,by go_num,rfl,by omega,hd_ (by rw [Fx.out,HF.out];exact FS.out),hl2,OV57,OS57,HN57,HG57⟩
   case measure => simp [intOf];omega
end Go.Proofs.YtdbmkfmenfcbiaaGreat
