/- A payment in a circle ends: the reference's walk. -/
import Derived.Test.YtdbmkfmenfcbiaaGreatRows
import Derived.Test.YtdbmkfmenfcbiaaGreatSM2
import Derived.Test.YtdbmkfmenfcbiaaGreatSM1
namespace Go.Proofs.YtdbmkfmenfcbiaaGreat
open Go.RowKit Go.Deep
def notKeyC (key : Int) (x : Circle) : Bool:=x.Key != key
def pickC (key : Int) (r x : Circle) : Circle:=if (x.Key == key) = true then x else r
def circle0 : Circle:=⟨0,0,0,0,0⟩
def lastC (os : List Circle) (key : Int) : Circle:=os.foldl (pickC key) circle0
theorem ztb (key : Int) : ∀ (os : List Circle) (r : Circle),os.foldl (pickC key) r = r ∨ os.foldl (pickC key) r ∈ os
 | [],r => Or.inl rfl
 | h :: os,r => by
  rw [List.foldl_cons]
  rcases ztb key os (pickC key r h) with h1 | h1
  ·
   rw [h1]
   unfold pickC
   split
   ·
    exact Or.inr (by simp)
   ·
    exact Or.inl rfl
  ·
   exact Or.inr (by simp [h1])
theorem zgp {os : List Circle} {key : Int} (h : (lastC os key).Key ≠ 0) : lastC os key ∈ os:=by
 rcases ztb key os circle0 with h1 | h1
 ·
  exact absurd (by unfold lastC;rw [h1];rfl) h
 ·
  exact h1
def landS (b : Bk) (key : Int) (good : Bool) : Out :=
 if (lastC b.os key).Key = 0 then bad 15
 else if good = true then done ⟨b.t,b.n,b.w,moveC (moveC b.cs (lastC b.os key).From 0 ((lastC b.os key).Amt + (lastC b.os key).Fee)) (lastC b.os key).To (lastC b.os key).Amt 0,b.hs,b.os.filter (notKeyC key)⟩ (nz [⟨4,0,(lastC b.os key).Fee⟩,⟨6,(lastC b.os key).To,(lastC b.os key).Amt⟩,⟨8,(lastC b.os key).From,-((lastC b.os key).Amt + (lastC b.os key).Fee)⟩])
 else done ⟨b.t,b.n,b.w,moveC (moveC b.cs (lastC b.os key).From ((lastC b.os key).Amt + (lastC b.os key).Fee) 0) (lastC b.os key).To 0 (lastC b.os key).Amt,b.hs,b.os.filter (notKeyC key)⟩ (nz [⟨6,(lastC b.os key).From,(lastC b.os key).Amt + (lastC b.os key).Fee⟩,⟨8,(lastC b.os key).From,-((lastC b.os key).Amt + (lastC b.os key).Fee)⟩])
theorem landS_15 {b : Bk} {key : Int} {good : Bool} (h : (lastC b.os key).Key = 0) : landS b key good = bad 15:=by unfold landS;rw [if_pos h]
theorem zgo {b : Bk} {key : Int} {h : Circle} (he : lastC b.os key = h) (h0 : h.Key ≠ 0) : landS b key true = done ⟨b.t,b.n,b.w,moveC (moveC b.cs h.From 0 (h.Amt + h.Fee)) h.To h.Amt 0,b.hs,b.os.filter (notKeyC key)⟩ (nz [⟨4,0,h.Fee⟩,⟨6,h.To,h.Amt⟩,⟨8,h.From,-(h.Amt + h.Fee)⟩]):=by
 subst he;unfold landS;rw [if_neg h0,if_pos rfl]
theorem landS_no {b : Bk} {key : Int} {h : Circle} (he : lastC b.os key = h) (h0 : h.Key ≠ 0) : landS b key false = done ⟨b.t,b.n,b.w,moveC (moveC b.cs h.From (h.Amt + h.Fee) 0) h.To 0 h.Amt,b.hs,b.os.filter (notKeyC key)⟩ (nz [⟨6,h.From,h.Amt + h.Fee⟩,⟨8,h.From,-(h.Amt + h.Fee)⟩]):=by
 subst he;unfold landS;rw [if_neg h0,if_neg (by decide)]
theorem zmv {bt bn bw : Int} {cs : List Chan} {hs : List Htlc} {os : List Circle} {h : Circle} (hF : BookFacts bt bn bw cs hs os) (hm : h ∈ os) : (0 ≤ chanIx cs h.From∧0 ≤ chanIx cs h.To)∧(0 ≤ h.Amt∧h.Amt ≤ 1125899906842624)∧(0 ≤ h.Fee∧h.Fee ≤ 1125899906842624):=by
 have hp:=hF.parts
 simp only [partsB,Bool.and_eq_true] at hp
 have h1:=List.all_eq_true.1 hp.1.2 h hm
 simp only [circB,twoB,Bool.and_eq_true,decide_eq_true_eq,zxy,zxx] at h1
 omega
set_option maxRecDepth 100000 in
set_option maxHeartbeats 4000000 in
theorem zti (w0 w : World) (B X : Nat) (b : Bk) (A1 A2 A3 A4 : Option Addr) (p1 p2 p3 p4 : Nat) (key : Int) (good : Bool) (hF : BookFacts b.t b.n b.w b.cs b.hs b.os) (h : Wk 108 w0 w B X b [] 0 A1 A2 A3 A4 p1 p2 p3 p4) :
  Calls Tryz.prog 74 #[.pointer (some ⟨X,0,none⟩),.int .i64 key,.bool good] w (Acts 108 w B X (landS b key good)):=by
 have H:=hd_ h.here
 clear h
 obtain ⟨L,hL⟩ : ∃ L : List Line,L = []:=⟨_,rfl⟩
 rw [← hL] at H
 have HL:=hd_ hL
 clear hL
 have hcl:=hF.cl
 have h60:=hF.small.hl
 have h20:=hF.small.ol
 have HF0:=hd_ hF
 have HBD:=hd_ (zjx hF)
 clear hF
 obtain ⟨i0,hi,hz0,hz1,hz2⟩:=info_parts zkf
 have HI0:=hd_ hi
 have HI1:=hd_ hz0
 have HI2:=hd_ hz1
 have HI3:=hd_ hz2
 clear hi hz0 hz1 hz2
 obtain ⟨a0,a1,a2,a3,a4,a5,a6,a7,af,az⟩:=H.out.open_
 go_enter Tryz.func74,Tryz.ntmps74
 go_wp2_with fail
 refine nm_ ?_
 intro wl hw
 obtain ⟨Q,hQ⟩ : ∃ Q,Q = w.heap.size + 1:=⟨_,rfl⟩
 have HQ : Hid (Hx wl Q #[.int .i64 0,.int .i64 0,.int .i64 0,.int .i64 0,.int .i64 0] 93):=hd_ (by rw [hw,hQ];exact zqm (by simp))
 have HP : Hid (Ow wl w.heap.size 93 5 (.slice (some ⟨w.heap.size,0,none⟩) 0 0) []):=hd_ (by rw [hw];exact (Ow.empty_ rfl (Nat.le_refl _)).alloc _)
 have hBl : Below w.heap.size w wl:=by rw [hw];exact bl_
 rw [← hQ]
 have HN0 : Hid ((Value.slice (some ⟨w.heap.size,0,none⟩) 0 0).ownBlock ≠ some Q):=hd_ (by rw [hQ];simp [Value.ownBlock])
 have hQl : w.heap.size ≤ Q:=by omega
 have HXH : Hid (Q ≠ X):=hd_ (by have:=H.out.lt;omega)
 clear hw hQ a0 a1 a2 a3 a4 a5 a6 a7 af az
 go_loopw [6,19] (fun vo i wr => ∃ (k : Nat) (out : List Circle) (A' : Option Addr) (cap' : Nat) (hc : Circle),k ≤ b.os.length∧i = .int .i64 k∧vo = .slice A' out.length cap'∧Hid ((b.os.take k).filter (notKeyC key) = out)∧Hid ((b.os.take k).foldl (pickC key) circle0 = hc)∧Hid (Ow wr w.heap.size 93 5 (.slice A' out.length cap') (out.map Circle.cells))∧Hid ((Value.slice A' out.length cap').ownBlock ≠ some Q)∧wr.heap[Q]? = some (.cells #[.int .i64 hc.Key,.int .i64 hc.From,.int .i64 hc.To,.int .i64 hc.Amt,.int .i64 hc.Fee] 93 (0,0))∧Below w.heap.size w wr) (fun _ i _ => b.os.length - (intOf i).toNat)
 case atStart => exact ⟨0,[],some ⟨w.heap.size,0,none⟩,0,circle0,Nat.zero_le _,rfl,rfl,hd_ rfl,hd_ rfl,HP,HN0,HQ.out,hBl⟩
 case round =>
  obtain ⟨k,out,A',cap',hc,hk,rfl,rfl,HF,HG,HO1,HN,hq,hbw1⟩:=hrel
  have hbz:=hbw1.size
  have hol : out.length ≤ 60:=by
   rw [← HF.out]
   exact Nat.le_trans (List.length_filter_le _ _) (by rw [List.length_take];omega)
  obtain ⟨q0,q1,q2,q3,q4,-,-⟩:=box5_ hq
  have qf : ∀ j,wr.frozen? ⟨Q,j,none⟩ = false:=zqo hq
  have qz:=(gz_ hq).1
  have HQr:=hd_ hq
  clear hq
  by_cases hlt : k < b.os.length
  ·
   obtain ⟨bb,off,hA1,hbB,c0,c1,c2,c3,c4⟩:=Circle.rd (H.out.o.rd.o.below hbw1) hlt
   subst hA1
   have Fx:=hd_ (zjt (p:=notKeyC key) hlt)
   have Gx:=hd_ (zqq b.os (pickC key) circle0 hlt)
   have j0 : (0 : Int) ≤ (k : Int):=by omega
   have j1 : (k : Int) < (b.os.length : Int):=by omega
   cases tx : (b.os[k].Key == key)
   ·
    have KS:=hd_ (show (if (notKeyC key) b.os[k] = true then [b.os[k]] else []) = [b.os[k]] by simp [notKeyC,bne,tx])
    have KG:=hd_ (show (pickC key) hc b.os[k] = hc by simp [pickC,tx])
    clear q0 q1 q2 q3 q4 qf
    go_wp2_with (at_builtin;refine Stop.go ?_)
    refine Stop.on ?_
    refine zqr rfl _ _ _ rfl w.heap.size 93 i0 _ 5 40 Tryz.underlying37 HI0.out HI1.out HI2.out HI3.out rfl (by decide) (.slice A' out.length cap') _ (by rfl) ((HO1.out.alloc _).alloc _) (wr.heap.size + 1) 1 [.int .i64 b.os[k].Key,.int .i64 b.os[k].From,.int .i64 b.os[k].To,.int .i64 b.os[k].Amt,.int .i64 b.os[k].Fee] 93 (by rfl) (zqm (by first | rfl | (simp;done))) rfl (by simp [Value.oneCell']) (by rw [List.length_map];omega) (by decide) (by first | omega | (simp;done) | (simp;omega)) ?_
    intro g2 cap2 x2 how2 hgr2 hat2 hlt2
    have hnq2 : g2 ≠ Q:=by
     rcases hat2 with h9 | h9
     ·
      intro e9;subst e9;exact HN.out h9
     ·
      intro e9;subst e9;simp at h9;omega
    have hb2 : Below w.heap.size w x2:=Below.grown (((hbw1.alloc (by omega) _).alloc (by simp;omega) _)) hgr2 (by simp;omega) (fun k9 e9 => (HO1.out.block k9 e9).1)
    have hq2:=zqd hgr2 (fun h9 => HN.out h9.symm) (zqg (by simp;omega) (zqg qz HQr.out))
    clear hat2 hgr2 HO1 HN HQr
    rw [List.length_map] at how2 ⊢
    go_wp2_with fail
    go_roundw
    case rel => exact ⟨k + 1,out ++ [b.os[k]],some ⟨g2,0,none⟩,cap2,hc,by omega,by go_num,by rw [List.length_append];rfl,hd_ (by rw [Fx.out,HF.out,KS.out]),hd_ (by rw [Gx.out,HG.out,KG.out]),hd_ (by rw [List.map_append,List.length_append];exact how2),hd_ (by simpa [Value.ownBlock] using hnq2),hq2,hb2⟩
    case measure => simp [intOf];omega
   ·
    have KS:=hd_ (show (if (notKeyC key) b.os[k] = true then [b.os[k]] else []) = [] by simp [notKeyC,bne,tx])
    have KG:=hd_ (show (pickC key) hc b.os[k] = b.os[k] by simp [pickC,tx])
    go_wp2_with fail
    go_roundw
    case rel => exact ⟨k + 1,out,A',cap',b.os[k],by omega,by go_num,rfl,hd_ (by rw [Fx.out,HF.out,KS.out,List.append_nil]),hd_ (by rw [Gx.out,HG.out,KG.out]),hd_ (by first | exact (HO1.out.grown (zqh (zqh (zqh (zqh (zqh (World.grownBy.refl _ (some Q)) _ _) _ _) _ _) _ _) _ _) (Or.inr HN.out)).alloc _ | exact (HO1.out.alloc _).grown (zqh (zqh (zqh (zqh (zqh (World.grownBy.refl _ (some Q)) _ _) _ _) _ _) _ _) _ _) (Or.inr HN.out)),HN,(by first | exact zqg (by simp;omega) (zqa (zqa (zqa (zqa (zqa (HQr.out)))))) | exact zqa (zqa (zqa (zqa (zqa (zqg qz HQr.out)))))),bl_⟩
    case measure => simp [intOf];omega
  ·
   obtain rfl : k = b.os.length:=by omega
   have qf1:=HF.out
   have qf2:=HG.out
   rw [List.take_length] at qf1 qf2
   have HI:=hd_ qf1
   have HJ:=hd_ qf2
   clear qf1 qf2 HF HG hk qf q0 q1 q2 q3 q4
   obtain ⟨f0,f1,f2,f3,f4⟩:=hc
   have HWr:=hd_ (H.out.below hbw1)
   have HHr:=HQr
   simp only at HHr
   have HW_wr:=HWr
   have HH_wr:=HHr
   clear HWr HHr HQr
   obtain ⟨a0,a1,a2,a3,a4,a5,a6,a7,af,az⟩:=HW_wr.out.open_
   obtain ⟨H0,H1,H2,H3,H4,-,-⟩:=box5_ HH_wr.out
   cases t1 : (f0 == 0)
   ·
    go_wp2_with fail
    refine (zqn _ _ B X b L A1 A2 A3 A4 p1 p2 p3 p4 15 HW_wr.out).mono ?_
    rintro e' wz ⟨rfl,rfl⟩
    have hf0:=beq_eq_false_iff_ne.1 t1
    clear t1
    have hfm : (⟨f0,f1,f2,f3,f4⟩ : Circle) ∈ b.os:=by rw [← HJ.out];exact zgp (by unfold lastC;rw [HJ.out];exact hf0)
    obtain ⟨⟨mi,mo⟩,⟨m1,m2⟩,m3,m4⟩:=zmv HF0.out hfm
    simp only at mi mo m1 m2 m3 m4
    have HO : Hid (lastC b.os key = ⟨f0,f1,f2,f3,f4⟩):=HJ
    have Hf0:=hd_ hf0
    have Hmi:=hd_ mi
    have Hmo:=hd_ mo
    clear mi mo hf0 hfm
    obtain ⟨g,hA,hBg⟩:=HW_wr.out.o.c.headW (by rw [List.length_map];obtain ⟨i,hi⟩:=Int.eq_ofNat_of_zero_le Hmi.out;have:=zxv hi;omega)
    subst hA
    cases good
    ·
     go_wp2_with fail
     refine nm_ ?_
     intro w6 hw
     have HW_w6 : Hid (Wk 108 w w6 B X ⟨b.t,b.n,b.w,b.cs,b.hs,out⟩ L 0 (some ⟨g,0,none⟩) A2 A' A4 p1 p2 cap' p4):=hd_ (by rw [hw];exact HW_wr.out.setO (by decide) (by decide) (by decide) (by decide) (HO1.out.more H.out.ble))
     have HH_w6 : Hid (Hx w6 Q #[.int .i64 f0,.int .i64 f1,.int .i64 f2,.int .i64 f3,.int .i64 f4] 93):=hd_ (by rw [hw];exact zqb HXH.out HH_wr.out)
     clear hw
     clear a0 a1 a2 a3 a4 a5 a6 a7 af az H0 H1 H2 H3 H4
     obtain ⟨a0,a1,a2,a3,a4,a5,a6,a7,af,az⟩:=HW_w6.out.open_
     obtain ⟨H0,H1,H2,H3,H4,-,-⟩:=box5_ HH_w6.out
     refine (zje _ _ B X ⟨b.t,b.n,b.w,b.cs,b.hs,out⟩ L 0 (some ⟨g,0,none⟩) A2 A' A4 p1 p2 cap' p4 f1 (f3 + f4) 0 (by (try simp only);omega) (Hmi.out) (by have:=HBD.out.at_ Hmi.out;(try simp only);omega) (by omega) (by omega) HW_w6.out).mono ?_
     rintro e' w7 ⟨rfl,hh,ho⟩
     have HH_w7:=hd_ (ho g rfl _ _ (fun e9 => HW_w6.out.o.c.ne_ HH_w6.out (by decide) (by rw [e9];rfl)) HH_w6.out)
     obtain ⟨cs1,hc9⟩ : ∃ v,moveC b.cs f1 (f3 + f4) 0 = v:=⟨_,rfl⟩
     rw [hc9] at hh
     have Hcs1:=hd_ hc9
     have HW_w7:=hd_ (HW_w6.out.trans hh)
     clear hh ho hc9
     clear a0 a1 a2 a3 a4 a5 a6 a7 af az H0 H1 H2 H3 H4
     obtain ⟨a0,a1,a2,a3,a4,a5,a6,a7,af,az⟩:=HW_w7.out.open_
     obtain ⟨H0,H1,H2,H3,H4,-,-⟩:=box5_ HH_w7.out
     have Hix1 : Hid (∀ ch,chanIx cs1 ch = chanIx b.cs ch):=hd_ (by rw [← Hcs1.out];exact fun ch => zxs _ _ _ _ ch)
     have hl1 : cs1.length = b.cs.length:=by rw [← Hcs1.out];exact zxj _ _ _ _
     have HBD1 : Hid (Bd (1125899906842624 + 2251799813685248) cs1):=hd_ (by rw [← Hcs1.out];exact HBD.out.move _ _ _ (by omega) (by omega))
     have HL1:=hd_ hl1
     clear hl1
     go_wp2_with fail
     refine (zje _ _ B X ⟨b.t,b.n,b.w,cs1,b.hs,out⟩ L 0 (some ⟨g,0,none⟩) A2 A' A4 p1 p2 cap' p4 f2 0 f3 (by have:=HL1.out;(try simp only);omega) (by (try simp only);rw [Hix1.out];exact Hmo.out) (by have:=HBD1.out.at_ (ch:=f2) (by rw [Hix1.out];exact Hmo.out);(try simp only);omega) (by omega) (by omega) HW_w7.out).mono ?_
     rintro e' w8 ⟨rfl,hh,ho⟩
     have HH_w8:=hd_ (ho g rfl _ _ (fun e9 => HW_w7.out.o.c.ne_ HH_w7.out (by decide) (by rw [e9];rfl)) HH_w7.out)
     obtain ⟨cs2,hc9⟩ : ∃ v,moveC cs1 f2 0 f3 = v:=⟨_,rfl⟩
     rw [hc9] at hh
     have Hcs2:=hd_ hc9
     have HW_w8:=hd_ (HW_w7.out.trans hh)
     clear hh ho hc9
     clear a0 a1 a2 a3 a4 a5 a6 a7 af az H0 H1 H2 H3 H4
     obtain ⟨a0,a1,a2,a3,a4,a5,a6,a7,af,az⟩:=HW_w8.out.open_
     obtain ⟨H0,H1,H2,H3,H4,-,-⟩:=box5_ HH_w8.out
     go_wp2_with fail
     refine (zxm _ _ B X ⟨b.t,b.n,b.w,cs2,b.hs,out⟩ L 0 (some ⟨g,0,none⟩) A2 A' A4 p1 p2 cap' p4 6 f1 (f3 + f4) (by rw [HL.out];decide) HW_w8.out).mono ?_
     rintro e' w9 ⟨⟨Cw90,Cw91,Cw92,Cw93,rw90,rw91,rw92,rw93,rfl,hh⟩,ho⟩
     have HH_w9:=hd_ (ho _ _ HXH.out HH_w8.out)
     obtain ⟨M0,hL9⟩ : ∃ v,lineTo L 6 f1 (f3 + f4) = v:=⟨_,rfl⟩
     rw [hL9] at hh
     have hlM0 : M0.length ≤ L.length + 1:=by rw [← hL9];exact zxe _ _ _ _
     have HM0:=hd_ hL9
     have HW_w9:=hd_ (HW_w8.out.trans hh)
     clear hh ho hL9
     clear a0 a1 a2 a3 a4 a5 a6 a7 af az H0 H1 H2 H3 H4
     obtain ⟨a0,a1,a2,a3,a4,a5,a6,a7,af,az⟩:=HW_w9.out.open_
     obtain ⟨H0,H1,H2,H3,H4,-,-⟩:=box5_ HH_w9.out
     go_wp2_with fail
     refine (zxm _ _ B X ⟨b.t,b.n,b.w,cs2,b.hs,out⟩ M0 0 Cw90 Cw91 Cw92 Cw93 rw90 rw91 rw92 rw93 8 f1 (-(f3 + f4)) (by rw [HL.out] at hlM0;simp at hlM0;omega) HW_w9.out).mono ?_
     rintro e' w10 ⟨⟨Cw100,Cw101,Cw102,Cw103,rw100,rw101,rw102,rw103,rfl,hh⟩,ho⟩
     have HH_w10:=hd_ (ho _ _ HXH.out HH_w9.out)
     obtain ⟨M1,hL9⟩ : ∃ v,lineTo M0 8 f1 (-(f3 + f4)) = v:=⟨_,rfl⟩
     rw [hL9] at hh
     have hlM1 : M1.length ≤ M0.length + 1:=by rw [← hL9];exact zxe _ _ _ _
     have HM1:=hd_ hL9
     have HW_w10:=hd_ (HW_w9.out.trans hh)
     clear hh ho hL9
     clear a0 a1 a2 a3 a4 a5 a6 a7 af az H0 H1 H2 H3 H4
     obtain ⟨a0,a1,a2,a3,a4,a5,a6,a7,af,az⟩:=HW_w10.out.open_
     obtain ⟨H0,H1,H2,H3,H4,-,-⟩:=box5_ HH_w10.out
     go_wp2_with fail
     go_end0
     rw [landS_no HO.out Hf0.out]
     have HZ : nz [⟨6,f1,(f3 + f4)⟩,⟨8,f1,(-(f3 + f4))⟩] = M1:=by rw [← HM1.out,← HM0.out,HL.out];exact (line2 (by decide)).symm
     rw [show (⟨f0,f1,f2,f3,f4⟩ : Circle).From = f1 from rfl,show (⟨f0,f1,f2,f3,f4⟩ : Circle).To = f2 from rfl,show (⟨f0,f1,f2,f3,f4⟩ : Circle).Amt = f3 from rfl,show (⟨f0,f1,f2,f3,f4⟩ : Circle).Fee = f4 from rfl,HZ,HI.out,Hcs1.out,Hcs2.out]
     exact Acts.ok ⟨_,_,_,_,_,_,_,_,rfl,HW_w10.out⟩
    ·
     go_wp2_with fail
     refine nm_ ?_
     intro w6 hw
     have HW_w6 : Hid (Wk 108 w w6 B X ⟨b.t,b.n,b.w,b.cs,b.hs,out⟩ L 0 (some ⟨g,0,none⟩) A2 A' A4 p1 p2 cap' p4):=hd_ (by rw [hw];exact HW_wr.out.setO (by decide) (by decide) (by decide) (by decide) (HO1.out.more H.out.ble))
     have HH_w6 : Hid (Hx w6 Q #[.int .i64 f0,.int .i64 f1,.int .i64 f2,.int .i64 f3,.int .i64 f4] 93):=hd_ (by rw [hw];exact zqb HXH.out HH_wr.out)
     clear hw
     clear a0 a1 a2 a3 a4 a5 a6 a7 af az H0 H1 H2 H3 H4
     obtain ⟨a0,a1,a2,a3,a4,a5,a6,a7,af,az⟩:=HW_w6.out.open_
     obtain ⟨H0,H1,H2,H3,H4,-,-⟩:=box5_ HH_w6.out
     refine (zje _ _ B X ⟨b.t,b.n,b.w,b.cs,b.hs,out⟩ L 0 (some ⟨g,0,none⟩) A2 A' A4 p1 p2 cap' p4 f1 0 (f3 + f4) (by (try simp only);omega) (Hmi.out) (by have:=HBD.out.at_ Hmi.out;(try simp only);omega) (by omega) (by omega) HW_w6.out).mono ?_
     rintro e' w7 ⟨rfl,hh,ho⟩
     have HH_w7:=hd_ (ho g rfl _ _ (fun e9 => HW_w6.out.o.c.ne_ HH_w6.out (by decide) (by rw [e9];rfl)) HH_w6.out)
     obtain ⟨cs1,hc9⟩ : ∃ v,moveC b.cs f1 0 (f3 + f4) = v:=⟨_,rfl⟩
     rw [hc9] at hh
     have Hcs1:=hd_ hc9
     have HW_w7:=hd_ (HW_w6.out.trans hh)
     clear hh ho hc9
     clear a0 a1 a2 a3 a4 a5 a6 a7 af az H0 H1 H2 H3 H4
     obtain ⟨a0,a1,a2,a3,a4,a5,a6,a7,af,az⟩:=HW_w7.out.open_
     obtain ⟨H0,H1,H2,H3,H4,-,-⟩:=box5_ HH_w7.out
     have Hix1 : Hid (∀ ch,chanIx cs1 ch = chanIx b.cs ch):=hd_ (by rw [← Hcs1.out];exact fun ch => zxs _ _ _ _ ch)
     have hl1 : cs1.length = b.cs.length:=by rw [← Hcs1.out];exact zxj _ _ _ _
     have HBD1 : Hid (Bd (1125899906842624 + 2251799813685248) cs1):=hd_ (by rw [← Hcs1.out];exact HBD.out.move _ _ _ (by omega) (by omega))
     have HL1:=hd_ hl1
     clear hl1
     go_wp2_with fail
     refine (zje _ _ B X ⟨b.t,b.n,b.w,cs1,b.hs,out⟩ L 0 (some ⟨g,0,none⟩) A2 A' A4 p1 p2 cap' p4 f2 f3 0 (by have:=HL1.out;(try simp only);omega) (by (try simp only);rw [Hix1.out];exact Hmo.out) (by have:=HBD1.out.at_ (ch:=f2) (by rw [Hix1.out];exact Hmo.out);(try simp only);omega) (by omega) (by omega) HW_w7.out).mono ?_
     rintro e' w8 ⟨rfl,hh,ho⟩
     have HH_w8:=hd_ (ho g rfl _ _ (fun e9 => HW_w7.out.o.c.ne_ HH_w7.out (by decide) (by rw [e9];rfl)) HH_w7.out)
     obtain ⟨cs2,hc9⟩ : ∃ v,moveC cs1 f2 f3 0 = v:=⟨_,rfl⟩
     rw [hc9] at hh
     have Hcs2:=hd_ hc9
     have HW_w8:=hd_ (HW_w7.out.trans hh)
     clear hh ho hc9
     clear a0 a1 a2 a3 a4 a5 a6 a7 af az H0 H1 H2 H3 H4
     obtain ⟨a0,a1,a2,a3,a4,a5,a6,a7,af,az⟩:=HW_w8.out.open_
     obtain ⟨H0,H1,H2,H3,H4,-,-⟩:=box5_ HH_w8.out
     go_wp2_with fail
     refine (zxm _ _ B X ⟨b.t,b.n,b.w,cs2,b.hs,out⟩ L 0 (some ⟨g,0,none⟩) A2 A' A4 p1 p2 cap' p4 4 0 f4 (by rw [HL.out];decide) HW_w8.out).mono ?_
     rintro e' w9 ⟨⟨Cw90,Cw91,Cw92,Cw93,rw90,rw91,rw92,rw93,rfl,hh⟩,ho⟩
     have HH_w9:=hd_ (ho _ _ HXH.out HH_w8.out)
     obtain ⟨M0,hL9⟩ : ∃ v,lineTo L 4 0 f4 = v:=⟨_,rfl⟩
     rw [hL9] at hh
     have hlM0 : M0.length ≤ L.length + 1:=by rw [← hL9];exact zxe _ _ _ _
     have HM0:=hd_ hL9
     have HW_w9:=hd_ (HW_w8.out.trans hh)
     clear hh ho hL9
     clear a0 a1 a2 a3 a4 a5 a6 a7 af az H0 H1 H2 H3 H4
     obtain ⟨a0,a1,a2,a3,a4,a5,a6,a7,af,az⟩:=HW_w9.out.open_
     obtain ⟨H0,H1,H2,H3,H4,-,-⟩:=box5_ HH_w9.out
     go_wp2_with fail
     refine (zxm _ _ B X ⟨b.t,b.n,b.w,cs2,b.hs,out⟩ M0 0 Cw90 Cw91 Cw92 Cw93 rw90 rw91 rw92 rw93 6 f2 f3 (by rw [HL.out] at hlM0;simp at hlM0;omega) HW_w9.out).mono ?_
     rintro e' w10 ⟨⟨Cw100,Cw101,Cw102,Cw103,rw100,rw101,rw102,rw103,rfl,hh⟩,ho⟩
     have HH_w10:=hd_ (ho _ _ HXH.out HH_w9.out)
     obtain ⟨M1,hL9⟩ : ∃ v,lineTo M0 6 f2 f3 = v:=⟨_,rfl⟩
     rw [hL9] at hh
     have hlM1 : M1.length ≤ M0.length + 1:=by rw [← hL9];exact zxe _ _ _ _
     have HM1:=hd_ hL9
     have HW_w10:=hd_ (HW_w9.out.trans hh)
     clear hh ho hL9
     clear a0 a1 a2 a3 a4 a5 a6 a7 af az H0 H1 H2 H3 H4
     obtain ⟨a0,a1,a2,a3,a4,a5,a6,a7,af,az⟩:=HW_w10.out.open_
     obtain ⟨H0,H1,H2,H3,H4,-,-⟩:=box5_ HH_w10.out
     go_wp2_with fail
     refine (zxm _ _ B X ⟨b.t,b.n,b.w,cs2,b.hs,out⟩ M1 0 Cw100 Cw101 Cw102 Cw103 rw100 rw101 rw102 rw103 8 f1 (-(f3 + f4)) (by rw [HL.out] at hlM0;simp at hlM0;omega) HW_w10.out).mono ?_
     rintro e' w11 ⟨⟨Cw110,Cw111,Cw112,Cw113,rw110,rw111,rw112,rw113,rfl,hh⟩,ho⟩
     have HH_w11:=hd_ (ho _ _ HXH.out HH_w10.out)
     obtain ⟨M2,hL9⟩ : ∃ v,lineTo M1 8 f1 (-(f3 + f4)) = v:=⟨_,rfl⟩
     rw [hL9] at hh
     have hlM2 : M2.length ≤ M1.length + 1:=by rw [← hL9];exact zxe _ _ _ _
     have HM2:=hd_ hL9
     have HW_w11:=hd_ (HW_w10.out.trans hh)
     clear hh ho hL9
     clear a0 a1 a2 a3 a4 a5 a6 a7 af az H0 H1 H2 H3 H4
     obtain ⟨a0,a1,a2,a3,a4,a5,a6,a7,af,az⟩:=HW_w11.out.open_
     obtain ⟨H0,H1,H2,H3,H4,-,-⟩:=box5_ HH_w11.out
     go_wp2_with fail
     go_end0
     rw [zgo HO.out Hf0.out]
     have HZ : nz [⟨4,0,f4⟩,⟨6,f2,f3⟩,⟨8,f1,(-(f3 + f4))⟩] = M2:=by rw [← HM2.out,← HM1.out,← HM0.out,HL.out];exact (line3 (by decide) (by decide)).symm
     rw [show (⟨f0,f1,f2,f3,f4⟩ : Circle).From = f1 from rfl,show (⟨f0,f1,f2,f3,f4⟩ : Circle).To = f2 from rfl,show (⟨f0,f1,f2,f3,f4⟩ : Circle).Amt = f3 from rfl,show (⟨f0,f1,f2,f3,f4⟩ : Circle).Fee = f4 from rfl,HZ,HI.out,Hcs1.out,Hcs2.out]
     exact Acts.ok ⟨_,_,_,_,_,_,_,_,rfl,HW_w11.out⟩
   ·
    have hf0:=eq_of_beq t1
    have HO : Hid (landS b key good = bad 15):=hd_ (landS_15 (by unfold lastC;rw [HJ.out];exact hf0))
    clear hf0
    go_wp2_with fail
    refine (zqv _ _ B X b L A1 A2 A3 A4 p1 p2 p3 p4 15 (by decide) HW_wr.out).mono ?_
    rintro e' w6 ⟨rfl,hh,ho⟩
    have HW_w6:=hd_ (HW_wr.out.trans hh)
    have HH_w6:=hd_ (ho _ _ HXH.out HH_wr.out)
    clear hh ho
    clear a0 a1 a2 a3 a4 a5 a6 a7 af az H0 H1 H2 H3 H4
    obtain ⟨a0,a1,a2,a3,a4,a5,a6,a7,af,az⟩:=HW_w6.out.open_
    obtain ⟨H0,H1,H2,H3,H4,-,-⟩:=box5_ HH_w6.out
    go_wp2_with fail
    go_end0
    rw [HO.out]
    exact Acts.no (by decide) ⟨_,_,_,_,_,_,_,_,rfl,HW_w6.out⟩
end Go.Proofs.YtdbmkfmenfcbiaaGreat
