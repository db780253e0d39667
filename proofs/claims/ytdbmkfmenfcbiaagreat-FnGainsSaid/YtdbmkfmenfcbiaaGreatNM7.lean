/- RtI · GnW: each text proves what its theorems say, with no conditions but theirs. -/
import Derived.Test.YtdbmkfmenfcbiaaGreatRows
import Derived.Test.YtdbmkfmenfcbiaaGreatNM5
import Derived.Test.YtdbmkfmenfcbiaaGreatNIAp
import Derived.Test.YtdbmkfmenfcbiaaGreatNM1
import Derived.Test.YtdbmkfmenfcbiaaGreatNGn1
namespace Go.Proofs.YtdbmkfmenfcbiaaGreat
open Go.RowKit Go.Deep
theorem Ow.two {w w' : World} {B size G1 G2 B' : Nat} {e : TypeId} {v : Value} {rows : List (List Value)} (h : Ow w B e size v rows) (h1 : G1 < B) (h2 : G2 < B) (ht : Two B' G1 G2 w w') : Ow w' B e size v rows:=by
 refine ⟨h.1,h.2.1,?_⟩
 rcases h.2.2 with hn | ⟨g,cap,cur,rfl,hg,hh,r⟩
 ·
  exact .inl hn
 exact .inr ⟨g,cap,cur,rfl,hg,ht.o g _ (by omega) (by omega) hh,r⟩
theorem OwB.two {w w' : World} {B G1 G2 B' : Nat} {b : Bk} {A1 A2 A3 : Option Addr} {p1 p2 p3 : Nat} (h : OwB w B b A1 A2 A3 p1 p2 p3) (h1 : G1 < B) (h2 : G2 < B) (ht : Two B' G1 G2 w w') : OwB w' B b A1 A2 A3 p1 p2 p3:=⟨h.c.two h1 h2 ht,h.h.two h1 h2 ht,h.o.two h1 h2 ht⟩
theorem zys (w : World) : Calls Tryz.prog 17 #[] w fun e w' => e = .returned (.agg #[.int .i64 0,.int .i64 1,.int .i64 0,.slice none 0 0,.slice none 0 0,.slice none 0 0])∧Below w.heap.size w w':=by
 go_enter Tryz.func17,Tryz.ntmps17
 go_wp2_with fail
 refine name_ret (fun wz hw => ?_)
 have hz : wz.heap[w.heap.size]? = some (.cells #[.int .i64 0,.int .i64 1,.int .i64 0,.slice none 0 0,.slice none 0 0,.slice none 0 0] 39 (0,0)):=by rw [hw];first | exact zqi rfl | exact zqa (zqa (zqa (zqa (zqa (zqa (zqi rfl))))))
 have hB : Below w.heap.size w wz:=by rw [hw];exact bl_
 clear hw
 have r0 : wz.cell? ⟨w.heap.size,0,none⟩ = some (.int .i64 0):=zqc hz 0
 have r1 : wz.cell? ⟨w.heap.size,1,none⟩ = some (.int .i64 1):=zqc hz 1
 have r2 : wz.cell? ⟨w.heap.size,2,none⟩ = some (.int .i64 0):=zqc hz 2
 have r3 : wz.cell? ⟨w.heap.size,3,none⟩ = some (.slice none 0 0):=zqc hz 3
 have r4 : wz.cell? ⟨w.heap.size,4,none⟩ = some (.slice none 0 0):=zqc hz 4
 have r5 : wz.cell? ⟨w.heap.size,5,none⟩ = some (.slice none 0 0):=zqc hz 5
 exact bodyPost_ret (v:=.agg #[.int .i64 0,.int .i64 1,.int .i64 0,.slice none 0 0,.slice none 0 0,.slice none 0 0]) (by simp [results,Tryz.results17,go_sem,r0,r1,r2,r3,r4,r5]) rfl ⟨rfl,hB⟩
set_option maxRecDepth 100000 in
set_option maxHeartbeats 4000000 in
theorem i_replayRt (B G1 G2 : Nat) (es : List Event) (AE : Option Addr) (pe : Nat) (w : World) (hB1 : B ≤ G1) (hB2 : B ≤ G2) (hne : G1 ≠ G2) (h1 : w.heap[G1]? = some (.cells #[.int .i64 0] 3 (0,0))) (h2 : w.heap[G2]? = some (.cells #[.int .i64 0] 3 (0,0))) (hle : es.length ≤ 1048576) (hre : Rd w B 7 AE (es.map Event.cells)) :
  Calls Tryz.prog 33 #[.slice AE es.length pe,.func (.func 48) #[] #[.pointer (some ⟨G1,0,none⟩),.pointer (some ⟨G2,0,none⟩)]] w fun e' w' => e' = .returned (.tuple #[])∧w'.heap[G1]? = some (.cells #[.int .i64 (rtF es).1.1] 3 (0,0))∧w'.heap[G2]? = some (.cells #[.int .i64 (rtF es).1.2] 3 (0,0))∧Two B G1 G2 w w':=by
 have HRe:=hd_ hre
 have HNE:=hd_ hne
 have hg1:=(gz_ h1).1
 have hg2:=(gz_ h2).1
 have H1w:=hd_ h1
 have H2w:=hd_ h2
 clear hre hne h1 h2
 go_enter Tryz.func33,Tryz.ntmps33
 go_wp2_with fail
 refine (zys _).mono ?_
 rintro e' w1 ⟨rfl,hb⟩
 have HT1 : Hid (Two B G1 G2 w w1):=hd_ (Two.below hb (by omega))
 have H11:=hd_ (zqr hb hg1 H1w)
 have H21:=hd_ (zqr hb hg2 H2w)
 have hz1:=hb.size
 clear hb
 go_upto_region 1 with fail
 refine nm_ ?_
 intro wl hw
 obtain ⟨NB,hNB⟩ : ∃ v,v = w1.heap.size:=⟨_,rfl⟩
 have HN : Hid (Hx wl NB (qaiiisss 0 1 0 none 0 0 none 0 0 none 0 0) 39):=hd_ (by rw [hw,hNB];exact zqi rfl)
 have H1l:=ha_ hw H11
 have H2l:=ha_ hw H21
 have HTl : Hid (Two B G1 G2 w wl):=hd_ (by rw [hw];exact HT1.out.trans (Two.below ((Below.refl _ _).alloc (Nat.le_refl _) _) (by omega)))
 have HGN : Hid (w.heap.size ≤ NB):=hd_ (by omega)
 have HX1 : Hid (NB ≠ G1∧NB ≠ G2):=hd_ ⟨by omega,by omega⟩
 try rw [← hNB]
 clear hw hNB HT1 H11 H21 hz1 H1w H2w
 go_wp2_with fail
 go_loopw [13] (fun i wr => ∃ (k : Nat) (n s : Int) (b : Bk) (C1 C2 C3 : Option Addr) (q1 q2 q3 : Nat),k ≤ es.length∧i = .int .i64 k∧Hid ((es.take k).foldl rtStep ((0,0),rtBk) = ((n,s),b))∧Hid (LenOk b)∧Hid (OwB wr w.heap.size b C1 C2 C3 q1 q2 q3)∧Hid (Hx wr NB (bkC b C1 q1 C2 q2 C3 q3) 39)∧Hid (Hx wr G1 #[.int .i64 n] 3)∧Hid (Hx wr G2 #[.int .i64 s] 3)∧Hid (Two B G1 G2 w wr)) (fun i _ => es.length - (intOf i).toNat)
 case atStart => exact ⟨0,0,0,rtBk,none,none,none,0,0,0,Nat.zero_le _,rfl,hd_ rfl,hd_ ⟨by decide,by decide,by decide⟩,hd_ (OwB.nil_ _ _ _ _ _),HN,H1l,H2l,HTl⟩
 case round =>
  clear HN H1l H2l HTl
  obtain ⟨k,n,s,b,C1,C2,C3,q1,q2,q3,hk,rfl,HF,HL,HO,HN,H1,H2,HT⟩:=hrel
  have hbz:=HT.out.b.size
  by_cases hlt : k < es.length
  rotate_left
  ·
   obtain rfl : k = es.length:=by omega
   have qf:=HF.out
   rw [List.take_length] at qf
   have HQ : Hid (rtF es = ((n,s),b)):=hd_ qf
   clear qf HF
   go_wp2_with fail
   go_end0
   rw [HQ.out]
   exact ⟨rfl,H1.out,H2.out,HT.out⟩
  obtain ⟨bb,off,hA1,hbB,e0,e1,e2,e3,e4,e5,e6⟩:=Event.rd (HRe.out.below HT.out.b) hlt
  subst hA1
  have Fx:=hd_ (zqq es rtStep ((0,0),rtBk) hlt)
  have ix0 : (0 : Int) ≤ (k : Int):=by omega
  have ix1 : (k : Int) < (es.length : Int):=by omega
  obtain ⟨l1,l2,l3⟩:=HL.out
  have hNl:=(gz_ HN).1
  have hG1l:=(gz_ H1).1
  have hG2l:=(gz_ H2).1
  go_upto_region 4 with fail
  refine nm_ ?_
  intro w3 hw
  obtain ⟨EB,hEB⟩ : ∃ v,v = wr.heap.size:=⟨_,rfl⟩
  have HE3 : Hid (Hx w3 EB (evC es[k]) 64):=hd_ (by rw [hw,hEB];exact zqi rfl)
  have HO3:=oba_ hw HO
  have HN3 : Hid (Hx w3 NB (bkC b C1 q1 C2 q2 C3 q3) 39):=hd_ (by rw [hw];exact zqd hNl HN)
  have H13 : Hid (Hx w3 G1 #[.int .i64 n] 3):=hd_ (by rw [hw];exact zqd hG1l H1)
  have H23 : Hid (Hx w3 G2 #[.int .i64 s] 3):=hd_ (by rw [hw];exact zqd hG2l H2)
  have HT3 : Hid (Two B G1 G2 w w3):=hd_ (by rw [hw];exact HT.out.trans (Two.below ((Below.refl _ _).alloc (Nat.le_refl _) _) (by omega)))
  try rw [← hEB]
  clear hw hEB e0 e1 e2 e3 e4 e5 e6 HO HN H1 H2 HT hNl hG1l hG2l
  obtain ⟨_,n0,n1,n2,n3,n4,n5,nf,nz⟩:=own6 (g:=NB) (Below.refl _ w3) (gz_ HN3).1 HN3
  have hE:=HE3.out
  have E:=bd7_ hE
  clear hE
  go_wp2_with fail
  refine (i_Apply b es[k] _ _ _ _ _ _ _ (by omega) (by omega) (by omega) HO3.out.rd).mono ?_
  rintro e' w4 ⟨b2,L2,id,D1,D2,D3,D4,s1,s2,s3,s4,rfl,hob,hol,hb,rfl,rfl,-⟩
  clear n0 n1 n2 n3 n4 n5 nf nz E
  obtain ⟨o,ho⟩ : ∃ o,applyS b es[k] = o:=⟨_,rfl⟩
  have HNX : Hid (rtStep ((n,s),b) es[k] = if o.code = 0 then (b.os.foldl (rtIn (es[k].Kind == 10) es[k].Key) (n,s),o.b) else ((n,s),b)):=hd_ (by unfold rtStep;rw [ho])
  have HLand : Hid (o.code = 0 → es[k].Kind = 10 → ∃ i : Nat,∃ h : i < b.os.length,oAt b.os es[k].Key = (i : Int)∧b.os.foldl (rtIn true es[k].Key) (n,s) = (wrap64 (n + 1),wrap64 (s + b.os[i].Fee))):=hd_ (fun hc hk9 => rt_land hk9 (by rw [ho];exact hc) (n,s))
  have hl2:=zvz b es[k]
  rw [ho] at hob hol hl2 ⊢
  have HL2:=hd_ hl2
  have hz3:=HT3.out.b.size
  have hsz3 : w.heap.size ≤ w3.heap.size:=by have:=(gz_ HN3).1;have:=HGN.out;omega
  have HO2 : Hid (OwB w4 w.heap.size o.b D1 D2 D3 s1 s2 s3):=hd_ (hob.more hsz3)
  have HO4:=hd_ (HO3.out.below hb)
  have HN4:=hb_ hb HN3
  have HE4:=hb_ hb HE3
  have H14:=hb_ hb H13
  have H24:=hb_ hb H23
  have HT4 : Hid (Two B G1 G2 w w4):=hd_ (HT3.out.trans (Two.below hb (by omega)))
  clear ho hob hol hl2 hb HO3 HN3 HE3 H13 H23 HT3 hz3 hsz3
  go_upto_region 5 with fail
  refine nm_ ?_
  intro w5 hw
  obtain ⟨MB,hMB⟩ : ∃ v,v = w4.heap.size:=⟨_,rfl⟩
  have hz4:=(gz_ HN4).1
  have hz5:=(gz_ H14).1
  have hz6:=(gz_ H24).1
  have hz7:=(gz_ HE4).1
  have HM5 : Hid (Hx w5 MB (bkC o.b D1 s1 D2 s2 D3 s3) 39):=hd_ (by rw [hw,hMB];exact zqd (by simp) (zqi rfl))
  have HO5 : Hid (OwB w5 w.heap.size b C1 C2 C3 q1 q2 q3):=hd_ (by rw [hw];exact (HO4.out.alloc _).alloc _)
  have HP5 : Hid (OwB w5 w.heap.size o.b D1 D2 D3 s1 s2 s3):=hd_ (by rw [hw];exact (HO2.out.alloc _).alloc _)
  have HN5 : Hid (Hx w5 NB (bkC b C1 q1 C2 q2 C3 q3) 39):=hd_ (by rw [hw];exact zqd (by simp;omega) (zqd hz4 HN4))
  have HE5 : Hid (Hx w5 EB (evC es[k]) 64):=hd_ (by rw [hw];exact zqd (by simp;omega) (zqd hz7 HE4))
  have H15 : Hid (Hx w5 G1 #[.int .i64 n] 3):=hd_ (by rw [hw];exact zqd (by simp;omega) (zqd hz5 H14))
  have H25 : Hid (Hx w5 G2 #[.int .i64 s] 3):=hd_ (by rw [hw];exact zqd (by simp;omega) (zqd hz6 H24))
  have HT5 : Hid (Two B G1 G2 w w5):=hd_ (by rw [hw];exact HT4.out.trans (Two.below (((Below.refl _ _).alloc (Nat.le_refl _) _).alloc (by simp) _) (by omega)))
  have HNM : Hid (NB ≠ MB∧MB ≠ G1∧MB ≠ G2):=hd_ ⟨by omega,by omega,by omega⟩
  try rw [← hMB]
  clear hw hMB hz4 hz5 hz6 hz7 HO2 HO4 HN4 HE4 H14 H24 HT4
  cases t0 : (o.code == 0)
  ·
   have hc0 : o.code ≠ 0:=by simpa using t0
   have HNX2 : Hid (rtStep ((n,s),b) es[k] = ((n,s),b)):=hd_ (by rw [HNX.out,if_neg hc0])
   clear hc0
   go_wp2_with fail
   go_roundw
   case rel => exact ⟨k + 1,n,s,b,C1,C2,C3,q1,q2,q3,by omega,by go_num,hd_ (by rw [Fx.out,HF.out,HNX2.out]),HL,HO5,HN5,H15,H25,HT5⟩
   case measure => simp [intOf];omega
  have hc0 : o.code = 0:=by simpa using t0
  have HNX2 : Hid (rtStep ((n,s),b) es[k] = (b.os.foldl (rtIn (es[k].Kind == 10) es[k].Key) (n,s),o.b)):=hd_ (by rw [HNX.out,if_pos hc0])
  have hland:=HLand.out hc0
  obtain ⟨_,n0,n1,n2,n3,n4,n5,nf,nz⟩:=own6 (g:=NB) (Below.refl _ w5) (gz_ HN5).1 HN5
  have hE:=HE5.out
  have E:=bd7_ hE
  clear hE hc0
  go_wp2_with fail
  refine (i_Rt1 B w.heap.size G1 G2 b _ _ _ _ _ _ es[k] n s _ hB1 hB2 HNE hg1 hg2 (by omega) HO5 H15 H25 hland).mono ?_
  rintro e' w6 ⟨rfl,⟨n',s',hfold,h16,h26⟩,ht⟩
  clear n0 n1 n2 n3 n4 n5 nf nz E hland
  have HQ : Hid (rtStep ((n,s),b) es[k] = ((n',s'),o.b)):=hd_ (by rw [HNX2.out,hfold])
  have HN6:=hd_ (ht.o _ _ HX1.out.1 HX1.out.2 HN5)
  have HM6:=hd_ (ht.o _ _ HNM.out.2.1 HNM.out.2.2 HM5)
  have HP6:=hd_ (HP5.out.two hg1 hg2 ht)
  have H16:=hd_ h16
  have H26:=hd_ h26
  have HT6:=hd_ (HT5.out.trans ht)
  clear hfold h16 h26 ht HN5 HM5 HP5 HO5 H15 H25 HT5 HE5
  obtain ⟨_,n0,n1,n2,n3,n4,n5,nf,nz⟩:=own6 (g:=NB) (Below.refl _ w6) (gz_ HN6).1 HN6
  obtain ⟨_,m0,m1,m2,m3,m4,m5,mf,mz⟩:=own6 (g:=MB) (Below.refl _ w6) (gz_ HM6).1 HM6
  have hn1 : ¬ NB = MB:=HNM.out.1
  have hn2 : ¬ MB = NB:=fun e9 => HNM.out.1 e9.symm
  go_upto_region 8 with fail
  clear hn1 hn2
  refine nm_ ?_
  intro w7 hw
  have hg7 : w6.grownBy w7 (some NB):=by rw [hw];exact zqg (zqg (zqg (zqg (zqg (zqg (World.grownBy.refl w6 (some NB)) _ _) _ _) _ _) _ _) _ _) _ _
  have HN7 : Hid (Hx w7 NB (bkC o.b D1 s1 D2 s2 D3 s3) 39):=hd_ (by rw [hw];exact zqa (zqa (zqa (zqa (zqa (zqa HN6))))))
  have HP7 : Hid (OwB w7 w.heap.size o.b D1 D2 D3 s1 s2 s3):=hd_ ⟨HP6.out.c.grown hg7 (Or.inr (HP6.out.c.ne_ HN6 (by decide)).symm),HP6.out.h.grown hg7 (Or.inr (HP6.out.h.ne_ HN6 (by decide)).symm),HP6.out.o.grown hg7 (Or.inr (HP6.out.o.ne_ HN6 (by decide)).symm)⟩
  have H17:=hd_ (zqe hg7 (fun e9 => HX1.out.1 (Option.some.inj e9).symm) H16)
  have H27:=hd_ (zqe hg7 (fun e9 => HX1.out.2 (Option.some.inj e9).symm) H26)
  have HT7 : Hid (Two B G1 G2 w w7):=hd_ ⟨HT6.out.b.grown hg7 (by have:=HT6.out.b.size;omega) (fun k9 e9 => by injection e9 with e9;have:=HGN.out;omega),fun k9 x9 h1 h2 hk9 => zqe hg7 (fun e9 => by have h8:=(gz_ hk9).1;have:=HGN.out;injection e9 with e9;omega) (HT6.out.o k9 x9 h1 h2 hk9)⟩
  clear hw hg7 n0 n1 n2 n3 n4 n5 nf nz m0 m1 m2 m3 m4 m5 mf mz HP6 HN6 HM6 H16 H26 HT6
  go_wp2_with fail
  go_roundw
  case rel => exact ⟨k + 1,n',s',o.b,D1,D2,D3,s1,s2,s3,by omega,by go_num,hd_ (by rw [Fx.out,HF.out,HQ.out]),HL2,HP7,HN7,H17,H27,HT7⟩
  case measure => simp [intOf];omega
set_option maxRecDepth 100000 in
set_option maxHeartbeats 4000000 in
theorem zgo (es : List Event) (AE : Option Addr) (pe : Nat) (w : World) (hle : es.length ≤ 1048576) (hre : Rd w w.heap.size 7 AE (es.map Event.cells)) :
  Calls Tryz.prog 19 #[.slice AE es.length pe] w fun e' w' => e' = .returned (.tuple #[.int .i64 (rtF es).1.1,.int .i64 (rtF es).1.2])∧Below w.heap.size w w':=by
 have HRe:=hd_ hre
 clear hre
 have hmf : ∀ (fn : Fn) (first cap : Array Value) (w : World),(Instr.makeFunc fn first cap).run Tryz.prog w = .ok (.func fn first cap) w:=fun _ _ _ _ => rfl
 go_enter Tryz.func19,Tryz.ntmps19
 go_upto_region 2 with fail
 refine nm_ ?_
 intro w1 hw
 obtain ⟨G1,hG1⟩ : ∃ v,v = w.heap.size:=⟨_,rfl⟩
 obtain ⟨G2,hG2⟩ : ∃ v,v = w.heap.size + 1:=⟨_,rfl⟩
 have H1 : Hid (Hx w1 G1 #[.int .i64 0] 3):=hd_ (by rw [hw,hG1];exact zqd (by simp) (zqi rfl))
 have H2 : Hid (Hx w1 G2 #[.int .i64 0] 3):=hd_ (by rw [hw,hG2];exact zqi (by first | rfl | (simp;done)))
 have HB : Hid (Below w.heap.size w w1):=hd_ (by rw [hw];exact ((Below.refl _ _).alloc (Nat.le_refl _) _).alloc (by simp) _)
 have hB1 : w.heap.size ≤ G1:=by omega
 have hB2 : w.heap.size ≤ G2:=by omega
 have HNE : Hid (G1 ≠ G2):=hd_ (by omega)
 try rw [← hG2]
 try rw [← hG1]
 clear hw hG1 hG2
 go_wp2_with fail
 refine (i_replayRt w.heap.size G1 G2 es _ _ _ hB1 hB2 HNE H1 H2 hle (HRe.out.below HB)).mono ?_
 rintro e' w2 ⟨rfl,h1,h2,ht⟩
 have HQ1:=hd_ h1
 have HQ2:=hd_ h2
 have HB2:=hd_ (HB.out.trans ht.b)
 clear h1 h2 ht H1 H2 HB
 have g1 : w2.cell? ⟨G1,0,none⟩ = some (.int .i64 (rtF es).1.1):=zqc HQ1 0
 have g2 : w2.cell? ⟨G2,0,none⟩ = some (.int .i64 (rtF es).1.2):=zqc HQ2 0
 go_wp2_with fail
 go_region
 all_goals go_wp2_with fail
 all_goals go_ret2
 all_goals exact ⟨rfl,HB2.out.drew⟩
theorem Gs.here {w0 w : World} {B G : Nat} {l : List Gain} {A : Option Addr} {cap : Nat} (h : Gs w0 w B G l A cap) : Gs w w B G l A cap:=⟨h.g,h.o,Below.refl _ _,Fr.refl _ _⟩
theorem Gs.aside {w0 w w' : World} {B G X : Nat} {l : List Gain} {A : Option Addr} {cap : Nat} {cs : Array Value} {t : TypeId} (h : Gs w0 w B G l A cap) (hB : B ≤ w.heap.size) (hX : w.heap[X]? = some (.cells cs t (0,0))) (h0 : w0.heap.size ≤ X) (hBX : B ≤ X) (h1 : 24 ≠ t) (h2 : 79 ≠ t) (hg : w.grownBy w' (some X)) : Gs w0 w' B G l A cap :=
 ⟨zqe hg (fun e => by injection e with e;have h8:=h.g;rw [e,hX] at h8;injection h8 with h8;injection h8 with _ h8;exact h1 h8.symm) h.g,h.o.grown hg (Or.inr (h.o.ne_ hX h2).symm),h.b.grown hg hB (fun k e => by injection e with e;omega),h.f.grownNew h0 hg⟩
theorem settled2 {b : Bk} {e : Event} (hk : e.Kind = 6 ∨ e.Kind = 7) (hc : (applyS b e).code = 0) : ∃ i : Nat,∃ h : i < b.hs.length,hAt b.hs e.Key = (i : Int)∧htlcF b.hs e.Key = some b.hs[i]∧(0 ≤ b.hs[i].AmtIn∧b.hs[i].AmtIn ≤ 1125899906842624)∧(0 ≤ b.hs[i].AmtOut∧b.hs[i].AmtOut ≤ 1125899906842624):=by
 obtain ⟨i,h,h1,h2⟩:=settled hk hc
 obtain ⟨-,h3,h4⟩:=zkk (zxw (zyj hc)) (List.getElem_mem h)
 exact ⟨i,h,h1,h2,h3,h4⟩
set_option maxRecDepth 100000 in
set_option maxHeartbeats 4000000 in
theorem i_replayGn (B G : Nat) (es : List Event) (AE : Option Addr) (pe : Nat) (w : World) (hG : B ≤ G) (h1 : w.heap[G]? = some (.cells #[.slice none 0 0] 24 (0,0))) (hle : es.length ≤ 1048576) (hre : Rd w B 7 AE (es.map Event.cells)) :
  Calls Tryz.prog 33 #[.slice AE es.length pe,.func (.func 34) #[] #[.pointer (some ⟨G,0,none⟩)]] w fun e' w' => e' = .returned (.tuple #[])∧∃ A cap,Gs w w' B G (gainsI es) A cap:=by
 have HRe:=hd_ hre
 have hg1:=(gz_ h1).1
 have hBw : B ≤ w.heap.size:=by omega
 have HW : Hid (Gs w w B G [] none 0):=hd_ ⟨h1,Ow.nil_,Below.refl _ _,Fr.refl _ _⟩
 clear hre h1
 go_enter Tryz.func33,Tryz.ntmps33
 go_wp2_with fail
 refine (zys _).mono ?_
 rintro e' w1 ⟨rfl,hb⟩
 have HT1:=hd_ (HW.out.below hBw hb)
 have hz1:=hb.size
 clear hb
 go_upto_region 1 with fail
 refine nm_ ?_
 intro wl hw
 obtain ⟨NB,hNB⟩ : ∃ v,v = w1.heap.size:=⟨_,rfl⟩
 have HN : Hid (Hx wl NB (qaiiisss 0 1 0 none 0 0 none 0 0 none 0 0) 39):=hd_ (by rw [hw,hNB];exact zqi rfl)
 have HTl : Hid (Gs w wl B G [] none 0):=hd_ (by rw [hw];exact HT1.out.alloc (by omega) _)
 have HGN : Hid (w.heap.size ≤ NB):=hd_ (by omega)
 try rw [← hNB]
 clear hw hNB HT1 hz1 HW
 go_wp2_with fail
 go_loopw [13] (fun i wr => ∃ (k : Nat) (l : List Gain) (A : Option Addr) (cap : Nat) (b : Bk) (C1 C2 C3 : Option Addr) (q1 q2 q3 : Nat),k ≤ es.length∧i = .int .i64 k∧l.length ≤ k∧Hid ((es.take k).foldl gainStepI (bk1,[]) = (b,l))∧Hid (LenOk b)∧Hid (OwB wr w.heap.size b C1 C2 C3 q1 q2 q3)∧Hid (Hx wr NB (bkC b C1 q1 C2 q2 C3 q3) 39)∧Hid (Gs w wr B G l A cap)∧Hid (w.heap.size ≤ wr.heap.size)) (fun i _ => es.length - (intOf i).toNat)
 case atStart => exact ⟨0,[],none,0,bk1,none,none,none,0,0,0,Nat.zero_le _,rfl,Nat.le_refl _,hd_ rfl,hd_ ⟨by decide,by decide,by decide⟩,hd_ (OwB.nil_ _ _ _ _ _),HN,HTl,hd_ HTl.out.b.size⟩
 case round =>
  clear HN HTl
  obtain ⟨k,l,A,cap,b,C1,C2,C3,q1,q2,q3,hk,rfl,hll,HF,HL,HO,HN,HT,HZ⟩:=hrel
  have hbz:=HZ.out
  by_cases hlt : k < es.length
  rotate_left
  ·
   obtain rfl : k = es.length:=by omega
   have qf:=HF.out
   rw [List.take_length] at qf
   have HQ : Hid (gainsI es = l):=hd_ (by unfold gainsI;rw [qf])
   clear qf HF
   go_wp2_with fail
   go_end0
   rw [HQ.out]
   exact ⟨rfl,A,cap,HT.out⟩
  obtain ⟨bb,off,hA1,hbB,e0,e1,e2,e3,e4,e5,e6⟩:=Event.rd (HRe.out.below HT.out.b) hlt
  subst hA1
  have Fx:=hd_ (zqq es gainStepI (bk1,[]) hlt)
  have ix0 : (0 : Int) ≤ (k : Int):=by omega
  have ix1 : (k : Int) < (es.length : Int):=by omega
  obtain ⟨l1,l2,l3⟩:=HL.out
  have hNl:=(gz_ HN).1
  go_upto_region 4 with fail
  refine nm_ ?_
  intro w3 hw
  obtain ⟨EB,hEB⟩ : ∃ v,v = wr.heap.size:=⟨_,rfl⟩
  have HE3 : Hid (Hx w3 EB (evC es[k]) 64):=hd_ (by rw [hw,hEB];exact zqi rfl)
  have HO3:=oba_ hw HO
  have HN3 : Hid (Hx w3 NB (bkC b C1 q1 C2 q2 C3 q3) 39):=hd_ (by rw [hw];exact zqd hNl HN)
  have HT3 : Hid (Gs w w3 B G l A cap):=hd_ (by rw [hw];exact HT.out.alloc (by omega) _)
  have HZ3 : Hid (w.heap.size ≤ w3.heap.size):=hd_ (by rw [hw];simp;omega)
  try rw [← hEB]
  clear hw hEB e0 e1 e2 e3 e4 e5 e6 HO HN HT HZ hNl
  obtain ⟨_,n0,n1,n2,n3,n4,n5,nf,nz⟩:=own6 (g:=NB) (Below.refl _ w3) (gz_ HN3).1 HN3
  have hE:=HE3.out
  have E:=bd7_ hE
  clear hE
  go_wp2_with fail
  refine (i_Apply b es[k] _ _ _ _ _ _ _ (by omega) (by omega) (by omega) HO3.out.rd).mono ?_
  rintro e' w4 ⟨b2,L2,id,D1,D2,D3,D4,s1,s2,s3,s4,rfl,hob,hol,hb,rfl,rfl,-⟩
  clear n0 n1 n2 n3 n4 n5 nf nz E
  obtain ⟨o,ho⟩ : ∃ o,applyS b es[k] = o:=⟨_,rfl⟩
  have HNX : Hid (gainStepI (b,l) es[k] = if o.code = 0 then (o.b,putEv b.hs es[k] l) else (b,l)):=hd_ (by unfold gainStepI;rw [ho])
  have HSet : Hid (o.code = 0 → es[k].Kind = 6 ∨ es[k].Kind = 7 → ∃ i : Nat,∃ h : i < b.hs.length,hAt b.hs es[k].Key = (i : Int)∧htlcF b.hs es[k].Key = some b.hs[i]∧(0 ≤ b.hs[i].AmtIn∧b.hs[i].AmtIn ≤ 1125899906842624)∧(0 ≤ b.hs[i].AmtOut∧b.hs[i].AmtOut ≤ 1125899906842624)):=hd_ (fun hc hk9 => settled2 hk9 (by rw [ho];exact hc))
  have hl2:=zvz b es[k]
  rw [ho] at hob hol hl2 ⊢
  have HL2:=hd_ hl2
  have HO2 : Hid (OwB w4 w.heap.size o.b D1 D2 D3 s1 s2 s3):=hd_ (hob.more HZ3)
  have HO4:=hd_ (HO3.out.below hb)
  have HN4:=hb_ hb HN3
  have HE4:=hb_ hb HE3
  have HT4 : Hid (Gs w w4 B G l A cap):=hd_ (HT3.out.below (by have:=HZ3.out;omega) hb)
  have HZ4 : Hid (w.heap.size ≤ w4.heap.size):=hd_ (Nat.le_trans HZ3 hb.size)
  clear ho hob hol hl2 hb HO3 HN3 HE3 HT3 HZ3
  go_upto_region 5 with fail
  refine nm_ ?_
  intro w5 hw
  obtain ⟨MB,hMB⟩ : ∃ v,v = w4.heap.size:=⟨_,rfl⟩
  have hz4:=(gz_ HN4).1
  have hz7:=(gz_ HE4).1
  have hzz:=HZ4.out
  have HM5 : Hid (Hx w5 MB (bkC o.b D1 s1 D2 s2 D3 s3) 39):=hd_ (by rw [hw,hMB];exact zqd (by simp) (zqi rfl))
  have HO5 : Hid (OwB w5 w.heap.size b C1 C2 C3 q1 q2 q3):=hd_ (by rw [hw];exact (HO4.out.alloc _).alloc _)
  have HP5 : Hid (OwB w5 w.heap.size o.b D1 D2 D3 s1 s2 s3):=hd_ (by rw [hw];exact (HO2.out.alloc _).alloc _)
  have HN5 : Hid (Hx w5 NB (bkC b C1 q1 C2 q2 C3 q3) 39):=hd_ (by rw [hw];exact zqd (by simp;omega) (zqd hz4 HN4))
  have HE5 : Hid (Hx w5 EB (evC es[k]) 64):=hd_ (by rw [hw];exact zqd (by simp;omega) (zqd hz7 HE4))
  have HT5 : Hid (Gs w w5 B G l A cap):=hd_ (by rw [hw];exact (HT4.out.alloc (by omega) _).alloc (by simp;omega) _)
  have HZ5 : Hid (w.heap.size ≤ w5.heap.size):=hd_ (by rw [hw];simp;omega)
  have HNM : Hid (NB ≠ MB):=hd_ (by omega)
  try rw [← hMB]
  clear hw hMB hz4 hz7 hzz HO2 HO4 HN4 HE4 HT4 HZ4
  cases t0 : (o.code == 0)
  ·
   have hc0 : o.code ≠ 0:=by simpa using t0
   have HNX2 : Hid (gainStepI (b,l) es[k] = (b,l)):=hd_ (by rw [HNX.out,if_neg hc0])
   clear hc0
   go_wp2_with fail
   go_roundw
   case rel => exact ⟨k + 1,l,A,cap,b,C1,C2,C3,q1,q2,q3,by omega,by go_num,by omega,hd_ (by rw [Fx.out,HF.out,HNX2.out]),HL,HO5,HN5,HT5,HZ5⟩
   case measure => simp [intOf];omega
  have hc0 : o.code = 0:=by simpa using t0
  have HNX2 : Hid (gainStepI (b,l) es[k] = (o.b,putEv b.hs es[k] l)):=hd_ (by rw [HNX.out,if_pos hc0])
  have hset:=HSet.out hc0
  obtain ⟨_,n0,n1,n2,n3,n4,n5,nf,nz⟩:=own6 (g:=NB) (Below.refl _ w5) (gz_ HN5).1 HN5
  have hE:=HE5.out
  have E:=bd7_ hE
  clear hE hc0
  go_wp2_with fail
  refine (i_Gn1 B G b _ _ _ _ _ _ es[k] l A cap _ hG (by have:=HZ5.out;omega) (by omega) (by omega) HO5.out.rd HT5.out.here hset).mono ?_
  rintro e' w6 ⟨rfl,A',cap',hgs⟩
  clear n0 n1 n2 n3 n4 n5 nf nz E hset
  have hlen:=zsg b.hs es[k] l
  obtain ⟨l',hl'⟩ : ∃ l',l' = putEv b.hs es[k] l:=⟨_,rfl⟩
  rw [← hl'] at hgs hlen
  have HQ : Hid (gainStepI (b,l) es[k] = (o.b,l')):=hd_ (by rw [HNX2.out,hl'])
  have HN6:=hd_ (hgs.f.box HN5 (by decide))
  have HM6:=hd_ (hgs.f.box HM5 (by decide))
  have HP6 : Hid (OwB w6 w.heap.size o.b D1 D2 D3 s1 s2 s3):=hd_ (HP5.out.fr hgs.f (by decide) (by decide) (by decide))
  have HT6 : Hid (Gs w w6 B G l' A' cap'):=hd_ (Gs.trans HT5.out.b HT5.out.f hgs)
  have HZ6 : Hid (w.heap.size ≤ w6.heap.size):=hd_ (Nat.le_trans HZ5 hgs.b.size)
  clear hgs hl' HN5 HM5 HP5 HO5 HT5 HE5 HZ5
  obtain ⟨_,n0,n1,n2,n3,n4,n5,nf,nz⟩:=own6 (g:=NB) (Below.refl _ w6) (gz_ HN6).1 HN6
  obtain ⟨_,m0,m1,m2,m3,m4,m5,mf,mz⟩:=own6 (g:=MB) (Below.refl _ w6) (gz_ HM6).1 HM6
  have hn1 : ¬ NB = MB:=HNM.out
  have hn2 : ¬ MB = NB:=fun e9 => HNM.out e9.symm
  go_upto_region 8 with fail
  clear hn1 hn2
  refine nm_ ?_
  intro w7 hw
  have hg7 : w6.grownBy w7 (some NB):=by rw [hw];exact zqg (zqg (zqg (zqg (zqg (zqg (World.grownBy.refl w6 (some NB)) _ _) _ _) _ _) _ _) _ _) _ _
  have HN7 : Hid (Hx w7 NB (bkC o.b D1 s1 D2 s2 D3 s3) 39):=hd_ (by rw [hw];exact zqa (zqa (zqa (zqa (zqa (zqa HN6))))))
  have HP7 : Hid (OwB w7 w.heap.size o.b D1 D2 D3 s1 s2 s3):=hd_ ⟨HP6.out.c.grown hg7 (Or.inr (HP6.out.c.ne_ HN6 (by decide)).symm),HP6.out.h.grown hg7 (Or.inr (HP6.out.h.ne_ HN6 (by decide)).symm),HP6.out.o.grown hg7 (Or.inr (HP6.out.o.ne_ HN6 (by decide)).symm)⟩
  have HT7 : Hid (Gs w w7 B G l' A' cap'):=hd_ (HT6.out.aside (by have:=HZ6.out;omega) HN6 HGN (by have:=HGN.out;omega) (by decide) (by decide) hg7)
  have HZ7 : Hid (w.heap.size ≤ w7.heap.size):=hd_ (Nat.le_trans HZ6 hg7.size)
  clear hw hg7 n0 n1 n2 n3 n4 n5 nf nz m0 m1 m2 m3 m4 m5 mf mz HP6 HN6 HM6 HT6 HZ6
  go_wp2_with fail
  go_roundw
  case rel => exact ⟨k + 1,l',A',cap',o.b,D1,D2,D3,s1,s2,s3,by omega,by go_num,by omega,hd_ (by rw [Fx.out,HF.out,HQ.out]),HL2,HP7,HN7,HT7,HZ7⟩
  case measure => simp [intOf];omega
set_option maxRecDepth 100000 in
set_option maxHeartbeats 4000000 in
theorem i_Gains (es : List Event) (AE : Option Addr) (pe : Nat) (w : World) (hle : es.length ≤ 1048576) (hre : Rd w w.heap.size 7 AE (es.map Event.cells)) :
  Calls Tryz.prog 9 #[.slice AE es.length pe] w fun e' w' => ∃ A cap,e' = .returned (.slice A (gainsF es).length cap)∧Ow w' w.heap.size 79 4 (.slice A (gainsF es).length cap) ((gainsF es).map Gain.cells)∧Below w.heap.size w w':=by
 have HRe:=hd_ hre
 clear hre
 have hmf : ∀ (fn : Fn) (first cap : Array Value) (w : World),(Instr.makeFunc fn first cap).run Tryz.prog w = .ok (.func fn first cap) w:=fun _ _ _ _ => rfl
 go_enter Tryz.func9,Tryz.ntmps9
 go_upto_region 2 with fail
 refine nm_ ?_
 intro w1 hw
 obtain ⟨G,hG⟩ : ∃ v,v = w.heap.size:=⟨_,rfl⟩
 have H1 : Hid (Hx w1 G #[.slice none 0 0] 24):=hd_ (by rw [hw,hG];exact zqi rfl)
 have HB : Hid (Below w.heap.size w w1):=hd_ (by rw [hw];exact (Below.refl _ _).alloc (Nat.le_refl _) _)
 have hB1 : w.heap.size ≤ G:=by omega
 try rw [← hG]
 clear hw hG
 go_wp2_with fail
 refine (i_replayGn w.heap.size G es _ _ _ hB1 H1 hle (HRe.out.below HB)).mono ?_
 rintro e' w2 ⟨rfl,A,cap,hgs⟩
 have hlen:=gainsI_len es
 obtain ⟨l,hl⟩ : ∃ l,l = gainsI es:=⟨_,rfl⟩
 rw [← hl] at hgs hlen
 have HLL:=hd_ hl
 have HGS:=hd_ hgs
 have HB2:=hd_ (HB.out.trans hgs.b)
 clear hgs hl H1 HB
 have g0 : w2.cell? ⟨G,0,none⟩ = some (.slice A l.length cap):=zqc HGS.out.g 0
 go_wp2_with fail
 refine (sort_gains HGS.out.o (by omega) HGS.out.g).mono ?_
 rintro e' w3 ⟨rfl,l',hp,hs,ho,hg⟩
 have HO3:=hd_ ho
 have HG3:=hd_ (zqe hg (HGS.out.o.ne_ HGS.out.g (by decide)) HGS.out.g)
 have HB3 : Hid (Below w.heap.size w w3):=hd_ (HB2.out.grown hg HB2.out.size (fun k e => (HGS.out.o.block k e).1))
 have HE : Hid (l' = gainsF es):=hd_ (gains_order (by rw [← HLL.out];exact hp) hs)
 have HN : Hid (l.length = l'.length):=hd_ hp.length_eq.symm
 clear hp hs ho hg g0
 have g1 : w3.cell? ⟨G,0,none⟩ = some (.slice A l.length cap):=zqc HG3 0
 go_wp2_with fail
 go_ret
 rw [← HE.out,← HN.out]
 exact ⟨A,cap,rfl,HO3.out,HB3.out⟩
end Go.Proofs.YtdbmkfmenfcbiaaGreat
