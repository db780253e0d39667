/- Payments that have gone round: the program's walk. -/
import Derived.Test.YtdbmkfmenfcbiaaRows
import Derived.Test.YtdbmkfmenfcbiaaQM5
import Derived.Test.YtdbmkfmenfcbiaaQIAp
import Derived.Test.YtdbmkfmenfcbiaaQM1
namespace Go.Proofs.Ytdbmkfmenfcbiaa
open Go.RowKit Go.Deep
theorem Ow.two {w w' : World} {B size G1 G2 B' : Nat} {e : TypeId} {v : Value} {rows : List (List Value)} (h : Ow w B e size v rows) (h1 : G1 < B) (h2 : G2 < B) (ht : Two B' G1 G2 w w') : Ow w' B e size v rows:=by
 refine ⟨h.1,h.2.1,?_⟩
 rcases h.2.2 with hn | ⟨g,cap,cur,rfl,hg,hh,r⟩
 ·
  exact .inl hn
 ·
  exact .inr ⟨g,cap,cur,rfl,hg,ht.o g _ (by omega) (by omega) hh,r⟩
theorem OwB.two {w w' : World} {B G1 G2 B' : Nat} {b : Bk} {A1 A2 A3 : Option Addr} {p1 p2 p3 : Nat} (h : OwB w B b A1 A2 A3 p1 p2 p3) (h1 : G1 < B) (h2 : G2 < B) (ht : Two B' G1 G2 w w') : OwB w' B b A1 A2 A3 p1 p2 p3:=⟨h.c.two h1 h2 ht,h.h.two h1 h2 ht,h.o.two h1 h2 ht⟩
theorem i_BookNew (w : World) : Calls Try.prog 30 #[] w fun e w' => e = .returned (.agg #[.int .i64 0,.int .i64 1,.int .i64 0,.slice none 0 0,.slice none 0 0,.slice none 0 0])∧Below w.heap.size w w':=by
 go_enter Try.func30,Try.ntmps30
 go_wp2_with fail
 refine name_ret (fun wz hw => ?_)
 have hz : wz.heap[w.heap.size]? = some (.cells #[.int .i64 0,.int .i64 1,.int .i64 0,.slice none 0 0,.slice none 0 0,.slice none 0 0] 34 (0,0)):=by rw [hw];first | exact zqm rfl | exact zqd (zqd (zqd (zqd (zqd (zqd (zqm rfl))))))
 have hB : Below w.heap.size w wz:=by rw [hw];exact bl_
 clear hw
 have r0 : wz.cell? ⟨w.heap.size,0,none⟩ = some (.int .i64 0):=zqa hz 0
 have r1 : wz.cell? ⟨w.heap.size,1,none⟩ = some (.int .i64 1):=zqa hz 1
 have r2 : wz.cell? ⟨w.heap.size,2,none⟩ = some (.int .i64 0):=zqa hz 2
 have r3 : wz.cell? ⟨w.heap.size,3,none⟩ = some (.slice none 0 0):=zqa hz 3
 have r4 : wz.cell? ⟨w.heap.size,4,none⟩ = some (.slice none 0 0):=zqa hz 4
 have r5 : wz.cell? ⟨w.heap.size,5,none⟩ = some (.slice none 0 0):=zqa hz 5
 exact bodyPost_ret (v:=.agg #[.int .i64 0,.int .i64 1,.int .i64 0,.slice none 0 0,.slice none 0 0,.slice none 0 0]) (by simp [results,Try.results30,go_sem,r0,r1,r2,r3,r4,r5]) rfl ⟨rfl,hB⟩
set_option maxRecDepth 100000 in
set_option maxHeartbeats 4000000 in
theorem i_replayRt (B G1 G2 : Nat) (es : List Event) (AE : Option Addr) (pe : Nat) (w : World) (hB1 : B ≤ G1) (hB2 : B ≤ G2) (hne : G1 ≠ G2) (h1 : w.heap[G1]? = some (.cells #[.int .i64 0] 3 (0,0))) (h2 : w.heap[G2]? = some (.cells #[.int .i64 0] 3 (0,0))) (hle : es.length ≤ 1048576) (hre : Rd w B 7 AE (es.map Event.cells)) :
  Calls Try.prog 12 #[.slice AE es.length pe,.func (.func 13) #[] #[.pointer (some ⟨G1,0,none⟩),.pointer (some ⟨G2,0,none⟩)]] w fun e' w' => e' = .returned (.tuple #[])∧w'.heap[G1]? = some (.cells #[.int .i64 (rtF es).1.1] 3 (0,0))∧w'.heap[G2]? = some (.cells #[.int .i64 (rtF es).1.2] 3 (0,0))∧Two B G1 G2 w w':=by
 have HRe:=hd_ hre
 have HNE:=hd_ hne
 have hg1:=(gz_ h1).1
 have hg2:=(gz_ h2).1
 have H1w:=hd_ h1
 have H2w:=hd_ h2
 clear hre hne h1 h2
 go_enter Try.func12,Try.ntmps12
 go_wp2_with fail
 refine (i_BookNew _).mono ?_
 rintro e' w1 ⟨rfl,hb⟩
 have HT1 : Hid (Two B G1 G2 w w1):=hd_ (Two.below hb (by omega))
 have H11:=hd_ (zqb hb hg1 H1w.out)
 have H21:=hd_ (zqb hb hg2 H2w.out)
 have hz1:=hb.size
 clear hb
 go_upto_region 1 with fail
 refine nm_ ?_
 intro wl hw
 obtain ⟨NB,hNB⟩ : ∃ v,v = w1.heap.size:=⟨_,rfl⟩
 have HN : Hid (wl.heap[NB]? = some (.cells #[.int .i64 0,.int .i64 1,.int .i64 0,.slice none 0 0,.slice none 0 0,.slice none 0 0] 34 (0,0))):=hd_ (by rw [hw,hNB];exact zqm rfl)
 have H1l : Hid (wl.heap[G1]? = some (.cells #[.int .i64 0] 3 (0,0))):=hd_ (by rw [hw];exact zqc (gz_ H11.out).1 H11.out)
 have H2l : Hid (wl.heap[G2]? = some (.cells #[.int .i64 0] 3 (0,0))):=hd_ (by rw [hw];exact zqc (gz_ H21.out).1 H21.out)
 have HTl : Hid (Two B G1 G2 w wl):=hd_ (by rw [hw];exact HT1.out.trans (Two.below ((Below.refl _ _).alloc (Nat.le_refl _) _) (by omega)))
 have HGN : Hid (w.heap.size ≤ NB):=hd_ (by omega)
 have HX1 : Hid (NB ≠ G1∧NB ≠ G2):=hd_ ⟨by omega,by omega⟩
 try rw [← hNB]
 clear hw hNB HT1 H11 H21 hz1 H1w H2w
 go_wp2_with fail
 go_loopw [13] (fun i wr => ∃ (k : Nat) (n s : Int) (b : Bk) (C1 C2 C3 : Option Addr) (q1 q2 q3 : Nat),k ≤ es.length∧i = .int .i64 k∧Hid ((es.take k).foldl rtStep ((0,0),rtBk) = ((n,s),b))∧Hid (LenOk b)∧Hid (OwB wr w.heap.size b C1 C2 C3 q1 q2 q3)∧Hid (wr.heap[NB]? = some (.cells #[.int .i64 b.t,.int .i64 b.n,.int .i64 b.w,.slice C1 b.cs.length q1,.slice C2 b.hs.length q2,.slice C3 b.os.length q3] 34 (0,0)))∧Hid (wr.heap[G1]? = some (.cells #[.int .i64 n] 3 (0,0)))∧Hid (wr.heap[G2]? = some (.cells #[.int .i64 s] 3 (0,0)))∧Hid (Two B G1 G2 w wr)) (fun i _ => es.length - (intOf i).toNat)
 case atStart => exact ⟨0,0,0,rtBk,none,none,none,0,0,0,Nat.zero_le _,rfl,hd_ rfl,hd_ ⟨by decide,by decide,by decide⟩,hd_ (OwB.nil_ _ _ _ _ _),HN,H1l,H2l,HTl⟩
 case round =>
  clear HN H1l H2l HTl
  obtain ⟨k,n,s,b,C1,C2,C3,q1,q2,q3,hk,rfl,HF,HL,HO,HN,H1,H2,HT⟩:=hrel
  have hbz:=HT.out.b.size
  by_cases hlt : k < es.length
  ·
   obtain ⟨bb,off,hA1,hbB,e0,e1,e2,e3,e4,e5,e6⟩:=Event.rd (HRe.out.below HT.out.b) hlt
   subst hA1
   have Fx:=hd_ (zxc es rtStep ((0,0),rtBk) hlt)
   have ix0 : (0 : Int) ≤ (k : Int):=by omega
   have ix1 : (k : Int) < (es.length : Int):=by omega
   obtain ⟨l1,l2,l3⟩:=HL.out
   have hNl:=(gz_ HN.out).1
   have hG1l:=(gz_ H1.out).1
   have hG2l:=(gz_ H2.out).1
   go_upto_region 4 with fail
   refine nm_ ?_
   intro w3 hw
   obtain ⟨EB,hEB⟩ : ∃ v,v = wr.heap.size:=⟨_,rfl⟩
   have HE3 : Hid (w3.heap[EB]? = some (.cells #[.int .i64 es[k].Kind,.int .i64 es[k].Key,.int .i64 es[k].Ch,.int .i64 es[k].To,.int .i64 es[k].Amt,.int .i64 es[k].Fee,.bool es[k].Yes] 37 (0,0))):=hd_ (by rw [hw,hEB];exact zqm rfl)
   have HO3 : Hid (OwB w3 w.heap.size b C1 C2 C3 q1 q2 q3):=hd_ (by rw [hw];exact HO.out.alloc _)
   have HN3 : Hid (w3.heap[NB]? = some (.cells #[.int .i64 b.t,.int .i64 b.n,.int .i64 b.w,.slice C1 b.cs.length q1,.slice C2 b.hs.length q2,.slice C3 b.os.length q3] 34 (0,0))):=hd_ (by rw [hw];exact zqc hNl HN.out)
   have H13 : Hid (w3.heap[G1]? = some (.cells #[.int .i64 n] 3 (0,0))):=hd_ (by rw [hw];exact zqc hG1l H1.out)
   have H23 : Hid (w3.heap[G2]? = some (.cells #[.int .i64 s] 3 (0,0))):=hd_ (by rw [hw];exact zqc hG2l H2.out)
   have HT3 : Hid (Two B G1 G2 w w3):=hd_ (by rw [hw];exact HT.out.trans (Two.below ((Below.refl _ _).alloc (Nat.le_refl _) _) (by omega)))
   have HX2 : Hid (EB ≠ G1∧EB ≠ G2):=hd_ ⟨by omega,by omega⟩
   try rw [← hEB]
   clear hw hEB e0 e1 e2 e3 e4 e5 e6 HO HN H1 H2 HT hNl hG1l hG2l
   obtain ⟨_,n0,n1,n2,n3,n4,n5,nf,nz⟩:=own6 (g:=NB) (Below.refl _ w3) (gz_ HN3.out).1 HN3.out
   have hE:=HE3.out
   obtain ⟨E0,E1,E2,E3,E4,E5,E6,-,-⟩:=box7_ hE
   clear hE
   go_wp2_with fail
   refine (i_Apply b es[k] _ _ _ _ _ _ _ (by omega) (by omega) (by omega) HO3.out.rd).mono ?_
   rintro e' w4 ⟨b2,L2,id,D1,D2,D3,D4,s1,s2,s3,s4,rfl,hob,hol,hb,rfl,rfl,-⟩
   clear n0 n1 n2 n3 n4 n5 nf nz E0 E1 E2 E3 E4 E5 E6
   obtain ⟨o,ho⟩ : ∃ o,applyS b es[k] = o:=⟨_,rfl⟩
   have HNX : Hid (rtStep ((n,s),b) es[k] = if o.code = 0 then (b.os.foldl (rtIn (es[k].Kind == 10) es[k].Key) (n,s),o.b) else ((n,s),b)):=hd_ (by unfold rtStep;rw [ho])
   have HLand : Hid (o.code = 0 → es[k].Kind = 10 → ∃ i : Nat,∃ h : i < b.os.length,oAt b.os es[k].Key = (i : Int)∧b.os.foldl (rtIn true es[k].Key) (n,s) = (wrap64 (n + 1),wrap64 (s + b.os[i].Fee))):=hd_ (fun hc hk9 => rt_land hk9 (by rw [ho];exact hc) (n,s))
   have hl2:=applyS_len b es[k]
   rw [ho] at hob hol hl2 ⊢
   have HL2:=hd_ hl2
   have hz3:=HT3.out.b.size
   have hsz3 : w.heap.size ≤ w3.heap.size:=by have:=(gz_ HN3.out).1;have:=HGN.out;omega
   have HO2 : Hid (OwB w4 w.heap.size o.b D1 D2 D3 s1 s2 s3):=hd_ (hob.more hsz3)
   have HO4:=hd_ (HO3.out.below hb)
   have HN4:=hd_ (zqb hb (gz_ HN3.out).1 HN3.out)
   have HE4:=hd_ (zqb hb (gz_ HE3.out).1 HE3.out)
   have H14:=hd_ (zqb hb (gz_ H13.out).1 H13.out)
   have H24:=hd_ (zqb hb (gz_ H23.out).1 H23.out)
   have HT4 : Hid (Two B G1 G2 w w4):=hd_ (HT3.out.trans (Two.below hb (by omega)))
   clear ho hob hol hl2 hb HO3 HN3 HE3 H13 H23 HT3 hz3 hsz3
   go_upto_region 5 with fail
   refine nm_ ?_
   intro w5 hw
   obtain ⟨MB,hMB⟩ : ∃ v,v = w4.heap.size:=⟨_,rfl⟩
   have hz4:=(gz_ HN4.out).1
   have hz5:=(gz_ H14.out).1
   have hz6:=(gz_ H24.out).1
   have hz7:=(gz_ HE4.out).1
   have HM5 : Hid (w5.heap[MB]? = some (.cells #[.int .i64 o.b.t,.int .i64 o.b.n,.int .i64 o.b.w,.slice D1 o.b.cs.length s1,.slice D2 o.b.hs.length s2,.slice D3 o.b.os.length s3] 34 (0,0))):=hd_ (by rw [hw,hMB];exact zqc (by simp) (zqm rfl))
   have HO5 : Hid (OwB w5 w.heap.size b C1 C2 C3 q1 q2 q3):=hd_ (by rw [hw];exact (HO4.out.alloc _).alloc _)
   have HP5 : Hid (OwB w5 w.heap.size o.b D1 D2 D3 s1 s2 s3):=hd_ (by rw [hw];exact (HO2.out.alloc _).alloc _)
   have HN5 : Hid (w5.heap[NB]? = some (.cells #[.int .i64 b.t,.int .i64 b.n,.int .i64 b.w,.slice C1 b.cs.length q1,.slice C2 b.hs.length q2,.slice C3 b.os.length q3] 34 (0,0))):=hd_ (by rw [hw];exact zqc (by simp;omega) (zqc hz4 HN4.out))
   have HE5 : Hid (w5.heap[EB]? = some (.cells #[.int .i64 es[k].Kind,.int .i64 es[k].Key,.int .i64 es[k].Ch,.int .i64 es[k].To,.int .i64 es[k].Amt,.int .i64 es[k].Fee,.bool es[k].Yes] 37 (0,0))):=hd_ (by rw [hw];exact zqc (by simp;omega) (zqc hz7 HE4.out))
   have H15 : Hid (w5.heap[G1]? = some (.cells #[.int .i64 n] 3 (0,0))):=hd_ (by rw [hw];exact zqc (by simp;omega) (zqc hz5 H14.out))
   have H25 : Hid (w5.heap[G2]? = some (.cells #[.int .i64 s] 3 (0,0))):=hd_ (by rw [hw];exact zqc (by simp;omega) (zqc hz6 H24.out))
   have HT5 : Hid (Two B G1 G2 w w5):=hd_ (by rw [hw];exact HT4.out.trans (Two.below (((Below.refl _ _).alloc (Nat.le_refl _) _).alloc (by simp) _) (by omega)))
   have HNM : Hid (NB ≠ MB∧MB ≠ G1∧MB ≠ G2):=hd_ ⟨by omega,by omega,by omega⟩
   try rw [← hMB]
   clear hw hMB hz4 hz5 hz6 hz7 HO2 HO4 HN4 HE4 H14 H24 HT4
   cases t0 : (o.code == 0)
   ·
    have hc0 : o.code ≠ 0:=by simpa using t0
    have HNX2 : Hid (rtStep ((n,s),b) es[k] = ((n,s),b)):=hd_ (by rw [HNX.out,if_neg hc0])
    clear hc0
    go_wp2_with fail
    go_roundw
    case rel => exact ⟨k + 1,n,s,b,C1,C2,C3,q1,q2,q3,by omega,by go_num,hd_ (by rw [Fx.out,HF.out,HNX2.out]),HL,HO5,HN5,H15,H25,HT5⟩
    case measure => simp [intOf];omega
   ·
    have hc0 : o.code = 0:=by simpa using t0
    have HNX2 : Hid (rtStep ((n,s),b) es[k] = (b.os.foldl (rtIn (es[k].Kind == 10) es[k].Key) (n,s),o.b)):=hd_ (by rw [HNX.out,if_pos hc0])
    have hland:=HLand.out hc0
    obtain ⟨_,n0,n1,n2,n3,n4,n5,nf,nz⟩:=own6 (g:=NB) (Below.refl _ w5) (gz_ HN5.out).1 HN5.out
    have hE:=HE5.out
    obtain ⟨E0,E1,E2,E3,E4,E5,E6,-,-⟩:=box7_ hE
    clear hE hc0
    go_wp2_with fail
    refine (i_Rt1 B w.heap.size G1 G2 b _ _ _ _ _ _ es[k] n s _ hB1 hB2 HNE.out hg1 hg2 (by omega) HO5.out H15.out H25.out hland).mono ?_
    rintro e' w6 ⟨rfl,⟨n',s',hfold,h16,h26⟩,ht⟩
    clear n0 n1 n2 n3 n4 n5 nf nz E0 E1 E2 E3 E4 E5 E6 hland
    have HQ : Hid (rtStep ((n,s),b) es[k] = ((n',s'),o.b)):=hd_ (by rw [HNX2.out,hfold])
    have HN6:=hd_ (ht.o _ _ HX1.out.1 HX1.out.2 HN5.out)
    have HM6:=hd_ (ht.o _ _ HNM.out.2.1 HNM.out.2.2 HM5.out)
    have HP6:=hd_ (HP5.out.two hg1 hg2 ht)
    have H16:=hd_ h16
    have H26:=hd_ h26
    have HT6:=hd_ (HT5.out.trans ht)
    clear hfold h16 h26 ht HN5 HM5 HP5 HO5 H15 H25 HT5 HE5
    obtain ⟨_,n0,n1,n2,n3,n4,n5,nf,nz⟩:=own6 (g:=NB) (Below.refl _ w6) (gz_ HN6.out).1 HN6.out
    obtain ⟨_,m0,m1,m2,m3,m4,m5,mf,mz⟩:=own6 (g:=MB) (Below.refl _ w6) (gz_ HM6.out).1 HM6.out
    have hn1 : ¬ NB = MB:=HNM.out.1
    have hn2 : ¬ MB = NB:=fun e9 => HNM.out.1 e9.symm
    go_upto_region 8 with fail
    clear hn1 hn2
    refine nm_ ?_
    intro w7 hw
    have hg7 : w6.grownBy w7 (some NB):=by rw [hw];exact zqg (zqg (zqg (zqg (zqg (zqg (World.grownBy.refl w6 (some NB)) _ _) _ _) _ _) _ _) _ _) _ _
    have HN7 : Hid (w7.heap[NB]? = some (.cells #[.int .i64 o.b.t,.int .i64 o.b.n,.int .i64 o.b.w,.slice D1 o.b.cs.length s1,.slice D2 o.b.hs.length s2,.slice D3 o.b.os.length s3] 34 (0,0))):=hd_ (by rw [hw];exact zqd (zqd (zqd (zqd (zqd (zqd HN6.out))))))
    have HP7 : Hid (OwB w7 w.heap.size o.b D1 D2 D3 s1 s2 s3):=hd_ ⟨HP6.out.c.grown hg7 (Or.inr (HP6.out.c.ne_ HN6.out (by decide)).symm),HP6.out.h.grown hg7 (Or.inr (HP6.out.h.ne_ HN6.out (by decide)).symm),HP6.out.o.grown hg7 (Or.inr (HP6.out.o.ne_ HN6.out (by decide)).symm)⟩
    have H17:=hd_ (zqj hg7 (fun e9 => HX1.out.1 (Option.some.inj e9).symm) H16.out)
    have H27:=hd_ (zqj hg7 (fun e9 => HX1.out.2 (Option.some.inj e9).symm) H26.out)
    have HT7 : Hid (Two B G1 G2 w w7):=hd_ ⟨HT6.out.b.grown hg7 (by have:=HT6.out.b.size;omega) (fun k9 e9 => by injection e9 with e9;have:=HGN.out;omega),fun k9 x9 h1 h2 hk9 => zqj hg7 (fun e9 => by have h8:=(gz_ hk9).1;have:=HGN.out;injection e9 with e9;omega) (HT6.out.o k9 x9 h1 h2 hk9)⟩
    clear hw hg7 n0 n1 n2 n3 n4 n5 nf nz m0 m1 m2 m3 m4 m5 mf mz HP6 HN6 HM6 H16 H26 HT6
    go_wp2_with fail
    go_roundw
    case rel => exact ⟨k + 1,n',s',o.b,D1,D2,D3,s1,s2,s3,by omega,by go_num,hd_ (by rw [Fx.out,HF.out,HQ.out]),HL2,HP7,HN7,H17,H27,HT7⟩
    case measure => simp [intOf];omega
  ·
   obtain rfl : k = es.length:=by omega
   have qf:=HF.out
   rw [List.take_length] at qf
   have HQ : Hid (rtF es = ((n,s),b)):=hd_ qf
   clear qf HF
   go_wp2_with fail
   go_end0
   rw [HQ.out]
   exact ⟨rfl,H1.out,H2.out,HT.out⟩
set_option maxRecDepth 100000 in
set_option maxHeartbeats 4000000 in
theorem i_RoundTrips (es : List Event) (AE : Option Addr) (pe : Nat) (w : World) (hle : es.length ≤ 1048576) (hre : Rd w w.heap.size 7 AE (es.map Event.cells)) :
  Calls Try.prog 7 #[.slice AE es.length pe] w fun e' w' => e' = .returned (.tuple #[.int .i64 (rtF es).1.1,.int .i64 (rtF es).1.2])∧Below w.heap.size w w':=by
 have HRe:=hd_ hre
 clear hre
 have hmf : ∀ (fn : Fn) (first cap : Array Value) (w : World),(Instr.makeFunc fn first cap).run Try.prog w = .ok (.func fn first cap) w:=fun _ _ _ _ => rfl
 go_enter Try.func7,Try.ntmps7
 go_upto_region 2 with fail
 refine nm_ ?_
 intro w1 hw
 obtain ⟨G1,hG1⟩ : ∃ v,v = w.heap.size:=⟨_,rfl⟩
 obtain ⟨G2,hG2⟩ : ∃ v,v = w.heap.size + 1:=⟨_,rfl⟩
 have H1 : Hid (w1.heap[G1]? = some (.cells #[.int .i64 0] 3 (0,0))):=hd_ (by rw [hw,hG1];exact zqc (by simp) (zqm rfl))
 have H2 : Hid (w1.heap[G2]? = some (.cells #[.int .i64 0] 3 (0,0))):=hd_ (by rw [hw,hG2];exact zqm (by first | rfl | (simp;done)))
 have HB : Hid (Below w.heap.size w w1):=hd_ (by rw [hw];exact ((Below.refl _ _).alloc (Nat.le_refl _) _).alloc (by simp) _)
 have hB1 : w.heap.size ≤ G1:=by omega
 have hB2 : w.heap.size ≤ G2:=by omega
 have HNE : Hid (G1 ≠ G2):=hd_ (by omega)
 try rw [← hG2]
 try rw [← hG1]
 clear hw hG1 hG2
 go_wp2_with fail
 refine (i_replayRt w.heap.size G1 G2 es _ _ _ hB1 hB2 HNE.out H1.out H2.out hle (HRe.out.below HB.out)).mono ?_
 rintro e' w2 ⟨rfl,h1,h2,ht⟩
 have HQ1:=hd_ h1
 have HQ2:=hd_ h2
 have HB2:=hd_ (HB.out.trans ht.b)
 clear h1 h2 ht H1 H2 HB
 have g1 : w2.cell? ⟨G1,0,none⟩ = some (.int .i64 (rtF es).1.1):=zqa HQ1.out 0
 have g2 : w2.cell? ⟨G2,0,none⟩ = some (.int .i64 (rtF es).1.2):=zqa HQ2.out 0
 go_wp2_with fail
 go_region
 all_goals go_wp2_with fail
 all_goals go_ret2
 all_goals exact ⟨rfl,HB2.out.drew⟩
end Go.Proofs.Ytdbmkfmenfcbiaa
