/- A payment ends: the reference's walk. -/
import Derived.Test.YtdbmkfmenfcbiaaGreatRows
import Derived.Test.YtdbmkfmenfcbiaaGreatNM3
import Derived.Test.YtdbmkfmenfcbiaaGreatNM1
import Derived.Test.YtdbmkfmenfcbiaaGreatNM2
namespace Go.Proofs.YtdbmkfmenfcbiaaGreat
open Go.RowKit Go.Deep
def notKeyH (key : Int) (x : Htlc) : Bool:=x.Key != key
def pickH (key : Int) (r x : Htlc) : Htlc:=if (x.Key == key) = true then x else r
def htlc0 : Htlc:=⟨0,0,0,0,0,false,0⟩
def lastH (hs : List Htlc) (key : Int) : Htlc:=hs.foldl (pickH key) htlc0
theorem zsf (key : Int) : ∀ (hs : List Htlc) (r : Htlc),hs.foldl (pickH key) r = r ∨ hs.foldl (pickH key) r ∈ hs
 | [],r => Or.inl rfl
 | h :: hs,r => by
  rw [List.foldl_cons]
  rcases zsf key hs (pickH key r h) with h1 | h1
  ·
   rw [h1]
   unfold pickH
   split
   ·
    exact Or.inr (by simp)
   exact Or.inl rfl
  exact Or.inr (by simp [h1])
theorem lastH_mem {hs : List Htlc} {key : Int} (h : (lastH hs key).Key ≠ 0) : lastH hs key ∈ hs:=by
 rcases zsf key hs htlc0 with h1 | h1
 ·
  exact absurd (by unfold lastH;rw [h1];rfl) h
 exact h1
def settleS (b : Bk) (key : Int) (good : Bool) : Out :=
 if (lastH b.hs key).Key = 0 then bad 15
 else if good = true then done ⟨b.t,b.n,b.w,setCh (moveC (moveC b.cs (lastH b.hs key).In (lastH b.hs key).AmtIn 0) (lastH b.hs key).Out 0 (lastH b.hs key).AmtOut) (lastH b.hs key).In scoreUp,b.hs.filter (notKeyH key),b.os⟩ (nz [⟨3,0,(lastH b.hs key).AmtOut - (lastH b.hs key).AmtIn⟩,⟨6,(lastH b.hs key).In,(lastH b.hs key).AmtIn⟩,⟨8,(lastH b.hs key).Out,-(lastH b.hs key).AmtOut⟩])
 else done ⟨b.t,b.n,b.w,setCh (moveC (moveC b.cs (lastH b.hs key).In 0 (lastH b.hs key).AmtIn) (lastH b.hs key).Out (lastH b.hs key).AmtOut 0) (lastH b.hs key).In scoreDown,b.hs.filter (notKeyH key),b.os⟩ (nz [⟨6,(lastH b.hs key).Out,(lastH b.hs key).AmtOut⟩,⟨8,(lastH b.hs key).Out,-(lastH b.hs key).AmtOut⟩])
theorem zwg {b : Bk} {key : Int} {good : Bool} (h : (lastH b.hs key).Key = 0) : settleS b key good = bad 15:=by unfold settleS;rw [if_pos h]
theorem zti {b : Bk} {key : Int} {h : Htlc} (he : lastH b.hs key = h) (h0 : h.Key ≠ 0) : settleS b key true = done ⟨b.t,b.n,b.w,setCh (moveC (moveC b.cs h.In h.AmtIn 0) h.Out 0 h.AmtOut) h.In scoreUp,b.hs.filter (notKeyH key),b.os⟩ (nz [⟨3,0,h.AmtOut - h.AmtIn⟩,⟨6,h.In,h.AmtIn⟩,⟨8,h.Out,-h.AmtOut⟩]):=by
 subst he;unfold settleS;rw [if_neg h0,if_pos rfl]
theorem zmn {b : Bk} {key : Int} {h : Htlc} (he : lastH b.hs key = h) (h0 : h.Key ≠ 0) : settleS b key false = done ⟨b.t,b.n,b.w,setCh (moveC (moveC b.cs h.In 0 h.AmtIn) h.Out h.AmtOut 0) h.In scoreDown,b.hs.filter (notKeyH key),b.os⟩ (nz [⟨6,h.Out,h.AmtOut⟩,⟨8,h.Out,-h.AmtOut⟩]):=by
 subst he;unfold settleS;rw [if_neg h0,if_neg (by decide)]
theorem zkk {bt bn bw : Int} {cs : List Chan} {hs : List Htlc} {os : List Circle} {h : Htlc} (hF : BookFacts bt bn bw cs hs os) (hm : h ∈ hs) : (0 ≤ chanIx cs h.In∧0 ≤ chanIx cs h.Out)∧(0 ≤ h.AmtIn∧h.AmtIn ≤ 1125899906842624)∧(0 ≤ h.AmtOut∧h.AmtOut ≤ 1125899906842624):=by
 have hp:=hF.parts
 simp only [partsB,Bool.and_eq_true] at hp
 have h1:=List.all_eq_true.1 hp.1.1 h hm
 simp only [htlcB,twoB,Bool.and_eq_true,decide_eq_true_eq,zja,zjj] at h1
 omega
set_option maxRecDepth 100000 in
set_option maxHeartbeats 4000000 in
theorem ztf (w0 w : World) (B X : Nat) (b : Bk) (A1 A2 A3 A4 : Option Addr) (p1 p2 p3 p4 : Nat) (key : Int) (good : Bool) (hF : BookFacts b.t b.n b.w b.cs b.hs b.os) (h : Wk 108 w0 w B X b [] 0 A1 A2 A3 A4 p1 p2 p3 p4) :
  Calls Tryz.prog 71 #[.pointer (some ⟨X,0,none⟩),.int .i64 key,.bool good] w (Acts 108 w B X (settleS b key good)):=by
 have H:=hd_ h.here
 clear h
 obtain ⟨L,hL⟩ : ∃ L : List Line,L = []:=⟨_,rfl⟩
 rw [← hL] at H
 have HL:=hd_ hL
 clear hL
 have hcl:=hF.cl
 have h60:=hF.small.hl
 have h20:=hF.small.ol
 have HF0:=hd_ hF
 have HBD:=hd_ (zjd hF)
 clear hF
 obtain ⟨i0,hi,hz0,hz1,hz2⟩:=info_parts zjy
 have HI0:=hd_ hi
 have HI1:=hd_ hz0
 have HI2:=hd_ hz1
 have HI3:=hd_ hz2
 clear hi hz0 hz1 hz2
 obtain ⟨ja,af,az⟩:=opc_ H.out.open_
 go_enter Tryz.func71,Tryz.ntmps71
 go_wp2_with fail
 refine nm_ ?_
 intro wl hw
 obtain ⟨Q,hQ⟩ : ∃ Q,Q = w.heap.size + 1:=⟨_,rfl⟩
 have HQ : Hid (Hx wl Q (qaiiiiibi 0 0 0 0 0 false 0) 70):=hd_ (by rw [hw,hQ];exact zqi (by simp))
 have HP : Hid (Ow wl w.heap.size 70 7 (.slice (some ⟨w.heap.size,0,none⟩) 0 0) []):=hd_ (by rw [hw];exact (Ow.empty_ rfl (Nat.le_refl _)).alloc _)
 have hBl : Below w.heap.size w wl:=by rw [hw];exact bl_
 rw [← hQ]
 have HN0 : Hid ((Value.slice (some ⟨w.heap.size,0,none⟩) 0 0).ownBlock ≠ some Q):=hd_ (by rw [hQ];simp [Value.ownBlock])
 have hQl : w.heap.size ≤ Q:=by omega
 have HXH : Hid (Q ≠ X):=hd_ (by have:=H.out.lt;omega)
 clear hw hQ ja af az
 go_loopw [6,19] (fun vo i wr => ∃ (k : Nat) (out : List Htlc) (A' : Option Addr) (cap' : Nat) (hc : Htlc),k ≤ b.hs.length∧i = .int .i64 k∧vo = .slice A' out.length cap'∧Hid ((b.hs.take k).filter (notKeyH key) = out)∧Hid ((b.hs.take k).foldl (pickH key) htlc0 = hc)∧Hid (Ow wr w.heap.size 70 7 (.slice A' out.length cap') (out.map Htlc.cells))∧Hid ((Value.slice A' out.length cap').ownBlock ≠ some Q)∧wr.heap[Q]? = some (.cells #[.int .i64 hc.Key,.int .i64 hc.In,.int .i64 hc.Out,.int .i64 hc.AmtIn,.int .i64 hc.AmtOut,.bool hc.Kept,.int .i64 hc.Age] 70 (0,0))∧Below w.heap.size w wr) (fun _ i _ => b.hs.length - (intOf i).toNat)
 case atStart => exact ⟨0,[],some ⟨w.heap.size,0,none⟩,0,htlc0,Nat.zero_le _,rfl,rfl,hd_ rfl,hd_ rfl,HP,HN0,HQ.out,hBl⟩
 case round =>
  obtain ⟨k,out,A',cap',hc,hk,rfl,rfl,HF,HG,HO1,HN,hq,hbw1⟩:=hrel
  have hbz:=hbw1.size
  have hol : out.length ≤ 60:=by
   rw [← HF.out]
   exact Nat.le_trans (List.length_filter_le _ _) (by rw [List.length_take];omega)
  have q:=bd7_ hq
  have qf : ∀ j,wr.frozen? ⟨Q,j,none⟩ = false:=zqm hq
  have qz:=(gz_ hq).1
  have HQr:=hd_ hq
  clear hq
  by_cases hlt : k < b.hs.length
  ·
   obtain ⟨bb,off,hA1,hbB,c0,c1,c2,c3,c4,c5,c6⟩:=Htlc.rd (H.out.o.rd.h.below hbw1) hlt
   subst hA1
   have Fx:=hd_ (zkg (p:=notKeyH key) hlt)
   have Gx:=hd_ (zqq b.hs (pickH key) htlc0 hlt)
   have j0 : (0 : Int) ≤ (k : Int):=by omega
   have j1 : (k : Int) < (b.hs.length : Int):=by omega
   cases tx : (b.hs[k].Key == key)
   rotate_left
   ·
    have KS:=hd_ (show (if (notKeyH key) b.hs[k] = true then [b.hs[k]] else []) = [] by simp [notKeyH,bne,tx])
    have KG:=hd_ (show (pickH key) hc b.hs[k] = b.hs[k] by simp [pickH,tx])
    go_wp2_with fail
    go_roundw
    case rel => exact ⟨k + 1,out,A',cap',b.hs[k],by omega,by go_num,rfl,hd_ (by rw [Fx.out,HF.out,KS.out,List.append_nil]),hd_ (by rw [Gx.out,HG.out,KG.out]),hd_ (by first | exact (HO1.out.grown (zqg (zqg (zqg (zqg (zqg (zqg (zqg (World.grownBy.refl _ (some Q)) _ _) _ _) _ _) _ _) _ _) _ _) _ _) (Or.inr HN)).alloc _ | exact (HO1.out.alloc _).grown (zqg (zqg (zqg (zqg (zqg (zqg (zqg (World.grownBy.refl _ (some Q)) _ _) _ _) _ _) _ _) _ _) _ _) _ _) (Or.inr HN)),HN,(by first | exact zqd (by simp;omega) (zqa (zqa (zqa (zqa (zqa (zqa (zqa (HQr.out)))))))) | exact zqa (zqa (zqa (zqa (zqa (zqa (zqa (zqd qz HQr)))))))),bl_⟩
    case measure => simp [intOf];omega
   have KS:=hd_ (show (if (notKeyH key) b.hs[k] = true then [b.hs[k]] else []) = [b.hs[k]] by simp [notKeyH,bne,tx])
   have KG:=hd_ (show (pickH key) hc b.hs[k] = hc by simp [pickH,tx])
   clear q qf
   go_wp2_with (at_builtin;refine Stop.go ?_)
   refine Stop.on ?_
   refine zqz rfl _ _ _ rfl w.heap.size 70 i0 _ 7 56 Tryz.underlying36 HI0 HI1 HI2 HI3 rfl (by decide) (.slice A' out.length cap') _ (by rfl) ((HO1.out.alloc _).alloc _) (wr.heap.size + 1) 1 [.int .i64 b.hs[k].Key,.int .i64 b.hs[k].In,.int .i64 b.hs[k].Out,.int .i64 b.hs[k].AmtIn,.int .i64 b.hs[k].AmtOut,.bool b.hs[k].Kept,.int .i64 b.hs[k].Age] 70 (by rfl) (zqi (by first | rfl | (simp;done))) rfl (by simp [Value.oneCell']) (by rw [List.length_map];omega) (by decide) (by first | omega | (simp;done) | (simp;omega)) ?_
   intro g2 cap2 x2 how2 hgr2 hat2 hlt2
   have hnq2 : g2 ≠ Q:=by
    rcases hat2 with h9 | h9
    ·
     intro e9;subst e9;exact HN h9
    intro e9;subst e9;simp at h9;omega
   have hb2 : Below w.heap.size w x2:=Below.grown (((hbw1.alloc (by omega) _).alloc (by simp;omega) _)) hgr2 (by simp;omega) (fun k9 e9 => (HO1.out.block k9 e9).1)
   have hq2:=zqe hgr2 (fun h9 => HN.out h9.symm) (zqd (by simp;omega) (zqd qz HQr))
   clear hat2 hgr2 HO1 HN HQr
   rw [List.length_map] at how2 ⊢
   go_wp2_with fail
   go_roundw
   case rel => exact ⟨k + 1,out ++ [b.hs[k]],some ⟨g2,0,none⟩,cap2,hc,by omega,by go_num,by rw [List.length_append];rfl,hd_ (by rw [Fx.out,HF.out,KS.out]),hd_ (by rw [Gx.out,HG.out,KG.out]),hd_ (by rw [List.map_append,List.length_append];exact how2),hd_ (by simpa [Value.ownBlock] using hnq2),hq2,hb2⟩
   case measure => simp [intOf];omega
  obtain rfl : k = b.hs.length:=by omega
  have qf1:=HF.out
  have qf2:=HG.out
  rw [List.take_length] at qf1 qf2
  have HI:=hd_ qf1
  have HJ:=hd_ qf2
  clear qf1 qf2 HF HG hk qf q
  obtain ⟨f0,f1,f2,f3,f4,f5,f6⟩:=hc
  have HWr:=hd_ (H.out.below hbw1)
  have HHr:=HQr
  simp only at HHr
  have HW_wr:=HWr
  have HH_wr:=HHr
  clear HWr HHr HQr
  obtain ⟨ja,af,az⟩:=opc_ HW_wr.out.open_
  have jH:=bd7_ HH_wr
  cases t1 : (f0 == 0)
  rotate_left
  ·
   have hf0:=eq_of_beq t1
   have HO : Hid (settleS b key good = bad 15):=hd_ (zwg (by unfold lastH;rw [HJ.out];exact hf0))
   clear hf0
   go_wp2_with fail
   refine (zqy _ _ B X b L A1 A2 A3 A4 p1 p2 p3 p4 15 (by decide) HW_wr).mono ?_
   rintro e' w6 ⟨rfl,hh,ho⟩
   have HW6:=hd_ (HW_wr.out.trans hh)
   have HH6:=hd_ (ho _ _ HXH HH_wr)
   clear hh ho
   clear ja af az jH
   obtain ⟨ja,af,az⟩:=opc_ HW6.out.open_
   have jH:=bd7_ HH6
   go_wp2_with fail
   go_end0
   rw [HO.out]
   exact Acts.no (by decide) ⟨_,_,_,_,_,_,_,_,rfl,HW6.out⟩
  go_wp2_with fail
  refine (zqp _ _ B X b L A1 A2 A3 A4 p1 p2 p3 p4 15 HW_wr).mono ?_
  rintro e' wz ⟨rfl,rfl⟩
  have hf0:=beq_eq_false_iff_ne.1 t1
  clear t1
  have hfm : (⟨f0,f1,f2,f3,f4,f5,f6⟩ : Htlc) ∈ b.hs:=by rw [← HJ.out];exact lastH_mem (by unfold lastH;rw [HJ.out];exact hf0)
  obtain ⟨⟨mi,mo⟩,⟨m1,m2⟩,m3,m4⟩:=zkk HF0 hfm
  simp only at mi mo m1 m2 m3 m4
  have HO : Hid (lastH b.hs key = ⟨f0,f1,f2,f3,f4,f5,f6⟩):=HJ
  have Hf0:=hd_ hf0
  have Hmi:=hd_ mi
  have Hmo:=hd_ mo
  obtain ⟨i,hi⟩:=Int.eq_ofNat_of_zero_le mi
  have hlt:=zxm hi
  have HIX:=hd_ hi
  clear mi mo hf0 hfm hi
  obtain ⟨g,hA,hBg⟩:=HW_wr.out.o.c.headW (by rw [List.length_map];omega)
  subst hA
  go_wp2_with fail
  refine nm_ ?_
  intro w6 hw
  have HW6 : Hid (Wk 108 w w6 B X ⟨b.t,b.n,b.w,b.cs,out,b.os⟩ L 0 (some ⟨g,0,none⟩) A' A3 A4 p1 cap' p3 p4):=hd_ (by rw [hw];exact HW_wr.out.setH (by decide) (by decide) (by decide) (by decide) (HO1.out.more H.out.ble))
  have HH6:=hf_ hw HXH HH_wr
  clear hw
  clear ja af az jH
  obtain ⟨ja,af,az⟩:=opc_ HW6.out.open_
  have jH:=bd7_ HH6
  refine zql (fun w' => kqiiissss w' X b.t b.n b.w (some ⟨g,0,none⟩) b.cs.length p1 A' out.length cap' A3 b.os.length p3 A4 L.length p4 (kqiiiiibi_ w' Q f0 f1 f2 f3 f4 f5 f6)) [yF 0 43,yF 1 44,yF 2 45,yF 3 46,yF 4 47,yF 5 48,yT 6 49,yF 7 10] (by kernel_rfl) (by kernel_rfl) (by kernel_rfl) (q78_ ja jH) (fun hH => ?_)
  obtain ⟨w7,hwd⟩ : ∃ wd,w6.drew = wd:=⟨_,rfl⟩
  have HW7:=wkd_ hwd HW6
  have HH7:=hr_ hwd HH6
  clear ja af az jH
  rw [hwd] at hH ⊢
  clear hwd
  obtain ⟨ja,af,az⟩:=opc_ HW7.out.open_
  have jH:=bd7_ HH7
  refine tk_ ?_
  refine ss_ (fun K hK => ?_)
  go_simp
  refine (zjk b.t b.n b.w b.cs out b.os _ _ _ _ _ _ f1 _ (by omega) HW7.out.o.rd).mono ?_
  rintro e' w8 ⟨rfl,hb⟩
  rw [HIX.out]
  have HW8:=hd_ (HW7.out.below hb)
  have HH8:=hb_ hb HH7
  clear hb
  clear ja af az jH
  obtain ⟨ja,af,az⟩:=opc_ HW8.out.open_
  have jH:=bd7_ HH8
  go_simp
  refine hK.out _ _ (q78_ ja jH) (fun hH => ?_)
  clear hK K
  refine tk_ ?_
  refine Sq.done (NoPanic.normal ?_)
  cases good
  ·
   go_wp2_with fail
   refine (zjh _ _ B X ⟨b.t,b.n,b.w,b.cs,out,b.os⟩ L 0 (some ⟨g,0,none⟩) A' A3 A4 p1 cap' p3 p4 f1 0 f3 (by (try simp only);omega) (Hmi.out) (by have:=HBD.out.at_ Hmi.out;(try simp only);omega) (by omega) (by omega) HW8).mono ?_
   rintro e' w9 ⟨rfl,hh,ho⟩
   have HH9:=hd_ (ho g rfl _ _ (fun e9 => HW8.out.o.c.ne_ HH8 (by decide) (by rw [e9];rfl)) HH8)
   obtain ⟨cs1,hc9⟩ : ∃ v,moveC b.cs f1 0 f3 = v:=⟨_,rfl⟩
   rw [hc9] at hh
   have Hcs1:=hd_ hc9
   have HW9:=hd_ (HW8.out.trans hh)
   clear hh ho hc9
   clear ja af az jH
   obtain ⟨ja,af,az⟩:=opc_ HW9.out.open_
   have jH:=bd7_ HH9
   have Hix1 : Hid (∀ ch,chanIx cs1 ch = chanIx b.cs ch):=hd_ (by rw [← Hcs1.out];exact fun ch => zxn _ _ _ _ ch)
   have hl1 : cs1.length = b.cs.length:=by rw [← Hcs1.out];exact zxg _ _ _ _
   have HBD1 : Hid (Bd (1125899906842624 + 1125899906842624) cs1):=hd_ (by rw [← Hcs1.out];exact HBD.out.move _ _ _ (by omega) (by omega))
   have HL1:=hd_ hl1
   clear hl1
   go_wp2_with fail
   refine (zjh _ _ B X ⟨b.t,b.n,b.w,cs1,out,b.os⟩ L 0 (some ⟨g,0,none⟩) A' A3 A4 p1 cap' p3 p4 f2 f4 0 (by have:=HL1.out;(try simp only);omega) (by (try simp only);rw [Hix1.out];exact Hmo) (by have:=HBD1.out.at_ (ch:=f2) (by rw [Hix1.out];exact Hmo);(try simp only);omega) (by omega) (by omega) HW9).mono ?_
   rintro e' w10 ⟨rfl,hh,ho⟩
   have HH10:=hd_ (ho g rfl _ _ (fun e9 => HW9.out.o.c.ne_ HH9 (by decide) (by rw [e9];rfl)) HH9)
   obtain ⟨cs2,hc9⟩ : ∃ v,moveC cs1 f2 f4 0 = v:=⟨_,rfl⟩
   rw [hc9] at hh
   have Hcs2:=hd_ hc9
   have HW10:=hd_ (HW9.out.trans hh)
   clear hh ho hc9
   clear ja af az jH
   obtain ⟨ja,af,az⟩:=opc_ HW10.out.open_
   have jH:=bd7_ HH10
   have HIX2 : Hid (chanIx cs2 f1 = (i : Int)):=hd_ (by rw [← Hcs2.out,zxn,Hix1.out];exact HIX)
   have hl2 : cs2.length = b.cs.length:=by rw [← Hcs2.out,zxg];exact HL1
   have hlt2 : i < cs2.length:=by omega
   have HL2c:=hd_ hl2
   clear hl2
   obtain ⟨c,hc⟩ : ∃ c,cs2[i] = c:=⟨_,rfl⟩
   have hr : (cs2.map Chan.cells)[i]? = some c.cells:=by rw [List.getElem?_map,List.getElem?_eq_getElem hlt2,hc];rfl
   obtain ⟨y0,y1,y2,y3,y4,y5,y6⟩:=c
   have HRow:=hd_ hr
   have HCI:=hd_ hc
   clear hr hc
   have ix0 : (0 : Int) ≤ (i : Int):=by omega
   have ix1 : (i : Int) < (cs2.length : Int):=by omega
   go_wp2_with fail
   have y6c:=HW10.out.o.c.cellAt HRow (j:=6) (by decide)
   simp only [Chan.cells,List.getElem?_cons_zero,List.getElem?_cons_succ] at y6c
   refine zqs (fun w' => kqiiissss w' X b.t b.n b.w (some ⟨g,0,none⟩) cs2.length p1 A' out.length cap' A3 b.os.length p3 A4 L.length p4 (kqiiiiibi w' Q f0 f1 f2 f3 f4 f5 f6 (kqio_ w' g (i * 7 + 6) y6))) [yF 0 106,yF 1 107,yF 2 108,yF 3 109,yF 4 110,yF 5 111,yF 6 112,yF 7 113,yF 8 114,yF 9 115,yF 10 116,yF 11 117,yF 12 118,yF 13 119,yF 14 120,yT 15 121,yF 16 122,yF 17 123] rfl (by kernel_rfl) (by kernel_rfl) (by kernel_rfl) (by kernel_rfl) (by kernel_rfl) (by kernel_rfl) (q78_ ja (q7_ jH y6c)) (fun hH => ?_)
   obtain ⟨w11,hwd⟩ : ∃ wd,w10.drew = wd:=⟨_,rfl⟩
   have HW11:=wkd_ hwd HW10
   have HH11:=hr_ hwd HH10
   clear ja af az jH
   rw [hwd] at hH ⊢
   clear hwd
   obtain ⟨ja,af,az⟩:=opc_ HW11.out.open_
   have jH:=bd7_ HH11
   refine tk_ ?_
   clear y6c
   have y6c:=HW11.out.o.c.cellAt HRow (j:=6) (by decide)
   simp only [Chan.cells,List.getElem?_cons_zero,List.getElem?_cons_succ] at y6c
   have yf:=fun j => HW11.out.o.c.frozenAt j
   refine ss_ (fun K hK => ?_)
   go_simp
   refine (s_ScoreDown _ _).mono ?_
   rintro e' wz ⟨rfl,rfl⟩
   go_simp
   refine hK.out _ _ (q78_ ja (q7_ jH y6c)) (fun hH => ?_)
   clear hK K
   refine tk_ ?_
   refine Sq.done ?_
   intro KK hKK
   go_simp
   refine hKK _ _ (NoPanic.normal ?_)
   clear y6c yf
   refine nm_ ?_
   intro w12 hw
   have HW12 : Hid (Wk 108 w w12 B X ⟨b.t,b.n,b.w,(cs2.set i ⟨y0,y1,y2,y3,y4,y5,downF y6⟩),out,b.os⟩ L 0 (some ⟨g,0,none⟩) A' A3 A4 p1 cap' p3 p4):=hd_ (by rw [hw];exact HW11.out.putCell (c':=⟨y0,y1,y2,y3,y4,y5,downF y6⟩) (by decide) hlt2 (by decide) (by rw [HCI.out];rfl))
   have HH12:=hf_ hw (fun e9 => HW11.out.o.c.ne_ HH11 (by decide) (by rw [e9];rfl)) HH11
   clear hw
   clear ja af az jH
   obtain ⟨ja,af,az⟩:=opc_ HW12.out.open_
   have jH:=bd7_ HH12
   have hcs3 : setCh cs2 f1 scoreDown = cs2.set i ⟨y0,y1,y2,y3,y4,y5,downF y6⟩:=by rw [zkv HIX2 hlt2,HCI.out];rfl
   obtain ⟨cs3,hc3⟩ : ∃ v,cs2.set i ⟨y0,y1,y2,y3,y4,y5,downF y6⟩ = v:=⟨_,rfl⟩
   rw [hc3] at hcs3
   have Hcs3:=hd_ hcs3
   clear hcs3
   rw [hc3] at HW12
   clear hc3
   clear ja af az jH
   obtain ⟨ja,af,az⟩:=opc_ HW12.out.open_
   have jH:=bd7_ HH12
   go_wp2_with fail
   refine (zxo _ _ B X ⟨b.t,b.n,b.w,cs3,out,b.os⟩ L 0 (some ⟨g,0,none⟩) A' A3 A4 p1 cap' p3 p4 6 f2 f4 (by rw [HL.out];decide) HW12).mono ?_
   rintro e' w13 ⟨⟨Cw130,Cw131,Cw132,Cw133,rw130,rw131,rw132,rw133,rfl,hh⟩,ho⟩
   have HH13:=hd_ (ho _ _ HXH HH12)
   obtain ⟨M0,hL9⟩ : ∃ v,lineTo L 6 f2 f4 = v:=⟨_,rfl⟩
   rw [hL9] at hh
   have hlM0 : M0.length ≤ L.length + 1:=by rw [← hL9];exact zqu _ _ _ _
   have HM0:=hd_ hL9
   have HW13:=hd_ (HW12.out.trans hh)
   clear hh ho hL9
   clear ja af az jH
   obtain ⟨ja,af,az⟩:=opc_ HW13.out.open_
   have jH:=bd7_ HH13
   go_wp2_with fail
   refine (zxo _ _ B X ⟨b.t,b.n,b.w,cs3,out,b.os⟩ M0 0 Cw130 Cw131 Cw132 Cw133 rw130 rw131 rw132 rw133 8 f2 (-f4) (by rw [HL.out] at hlM0;simp at hlM0;omega) HW13).mono ?_
   rintro e' w14 ⟨⟨Cw140,Cw141,Cw142,Cw143,rw140,rw141,rw142,rw143,rfl,hh⟩,ho⟩
   have HH14:=hd_ (ho _ _ HXH HH13)
   obtain ⟨M1,hL9⟩ : ∃ v,lineTo M0 8 f2 (-f4) = v:=⟨_,rfl⟩
   rw [hL9] at hh
   have hlM1 : M1.length ≤ M0.length + 1:=by rw [← hL9];exact zqu _ _ _ _
   have HM1:=hd_ hL9
   have HW14:=hd_ (HW13.out.trans hh)
   clear hh ho hL9
   clear ja af az jH
   obtain ⟨ja,af,az⟩:=opc_ HW14.out.open_
   have jH:=bd7_ HH14
   go_wp2_with fail
   go_end0
   rw [zmn HO Hf0.out]
   have HZ : nz [⟨6,f2,f4⟩,⟨8,f2,(-f4)⟩] = M1:=by rw [← HM1.out,← HM0.out,HL.out];exact (line2 (by decide)).symm
   rw [show (⟨f0,f1,f2,f3,f4,f5,f6⟩ : Htlc).In = f1 from rfl,show (⟨f0,f1,f2,f3,f4,f5,f6⟩ : Htlc).Out = f2 from rfl,show (⟨f0,f1,f2,f3,f4,f5,f6⟩ : Htlc).AmtIn = f3 from rfl,show (⟨f0,f1,f2,f3,f4,f5,f6⟩ : Htlc).AmtOut = f4 from rfl,HZ,HI.out,Hcs1.out,Hcs2.out,Hcs3.out]
   exact Acts.ok ⟨_,_,_,_,_,_,_,_,rfl,HW14.out⟩
  go_wp2_with fail
  refine (zjh _ _ B X ⟨b.t,b.n,b.w,b.cs,out,b.os⟩ L 0 (some ⟨g,0,none⟩) A' A3 A4 p1 cap' p3 p4 f1 f3 0 (by (try simp only);omega) (Hmi.out) (by have:=HBD.out.at_ Hmi.out;(try simp only);omega) (by omega) (by omega) HW8).mono ?_
  rintro e' w9 ⟨rfl,hh,ho⟩
  have HH9:=hd_ (ho g rfl _ _ (fun e9 => HW8.out.o.c.ne_ HH8 (by decide) (by rw [e9];rfl)) HH8)
  obtain ⟨cs1,hc9⟩ : ∃ v,moveC b.cs f1 f3 0 = v:=⟨_,rfl⟩
  rw [hc9] at hh
  have Hcs1:=hd_ hc9
  have HW9:=hd_ (HW8.out.trans hh)
  clear hh ho hc9
  clear ja af az jH
  obtain ⟨ja,af,az⟩:=opc_ HW9.out.open_
  have jH:=bd7_ HH9
  have Hix1 : Hid (∀ ch,chanIx cs1 ch = chanIx b.cs ch):=hd_ (by rw [← Hcs1.out];exact fun ch => zxn _ _ _ _ ch)
  have hl1 : cs1.length = b.cs.length:=by rw [← Hcs1.out];exact zxg _ _ _ _
  have HBD1 : Hid (Bd (1125899906842624 + 1125899906842624) cs1):=hd_ (by rw [← Hcs1.out];exact HBD.out.move _ _ _ (by omega) (by omega))
  have HL1:=hd_ hl1
  clear hl1
  go_wp2_with fail
  refine (zjh _ _ B X ⟨b.t,b.n,b.w,cs1,out,b.os⟩ L 0 (some ⟨g,0,none⟩) A' A3 A4 p1 cap' p3 p4 f2 0 f4 (by have:=HL1.out;(try simp only);omega) (by (try simp only);rw [Hix1.out];exact Hmo) (by have:=HBD1.out.at_ (ch:=f2) (by rw [Hix1.out];exact Hmo);(try simp only);omega) (by omega) (by omega) HW9).mono ?_
  rintro e' w10 ⟨rfl,hh,ho⟩
  have HH10:=hd_ (ho g rfl _ _ (fun e9 => HW9.out.o.c.ne_ HH9 (by decide) (by rw [e9];rfl)) HH9)
  obtain ⟨cs2,hc9⟩ : ∃ v,moveC cs1 f2 0 f4 = v:=⟨_,rfl⟩
  rw [hc9] at hh
  have Hcs2:=hd_ hc9
  have HW10:=hd_ (HW9.out.trans hh)
  clear hh ho hc9
  clear ja af az jH
  obtain ⟨ja,af,az⟩:=opc_ HW10.out.open_
  have jH:=bd7_ HH10
  have HIX2 : Hid (chanIx cs2 f1 = (i : Int)):=hd_ (by rw [← Hcs2.out,zxn,Hix1.out];exact HIX)
  have hl2 : cs2.length = b.cs.length:=by rw [← Hcs2.out,zxg];exact HL1
  have hlt2 : i < cs2.length:=by omega
  have HL2c:=hd_ hl2
  clear hl2
  obtain ⟨c,hc⟩ : ∃ c,cs2[i] = c:=⟨_,rfl⟩
  have hr : (cs2.map Chan.cells)[i]? = some c.cells:=by rw [List.getElem?_map,List.getElem?_eq_getElem hlt2,hc];rfl
  obtain ⟨y0,y1,y2,y3,y4,y5,y6⟩:=c
  have HRow:=hd_ hr
  have HCI:=hd_ hc
  clear hr hc
  have ix0 : (0 : Int) ≤ (i : Int):=by omega
  have ix1 : (i : Int) < (cs2.length : Int):=by omega
  go_wp2_with fail
  have y6c:=HW10.out.o.c.cellAt HRow (j:=6) (by decide)
  simp only [Chan.cells,List.getElem?_cons_zero,List.getElem?_cons_succ] at y6c
  refine zqs (fun w' => kqiiissss w' X b.t b.n b.w (some ⟨g,0,none⟩) cs2.length p1 A' out.length cap' A3 b.os.length p3 A4 L.length p4 (kqiiiiibi w' Q f0 f1 f2 f3 f4 f5 f6 (kqio_ w' g (i * 7 + 6) y6))) [yF 0 63,yF 1 64,yF 2 65,yF 3 66,yF 4 67,yF 5 68,yF 6 69,yF 7 70,yF 8 71,yF 9 72,yF 10 73,yF 11 74,yF 12 75,yF 13 76,yF 14 77,yT 15 78,yF 16 79,yF 17 80] rfl (by kernel_rfl) (by kernel_rfl) (by kernel_rfl) (by kernel_rfl) (by kernel_rfl) (by kernel_rfl) (q78_ ja (q7_ jH y6c)) (fun hH => ?_)
  obtain ⟨w11,hwd⟩ : ∃ wd,w10.drew = wd:=⟨_,rfl⟩
  have HW11:=wkd_ hwd HW10
  have HH11:=hr_ hwd HH10
  clear ja af az jH
  rw [hwd] at hH ⊢
  clear hwd
  obtain ⟨ja,af,az⟩:=opc_ HW11.out.open_
  have jH:=bd7_ HH11
  refine tk_ ?_
  clear y6c
  have y6c:=HW11.out.o.c.cellAt HRow (j:=6) (by decide)
  simp only [Chan.cells,List.getElem?_cons_zero,List.getElem?_cons_succ] at y6c
  have yf:=fun j => HW11.out.o.c.frozenAt j
  refine ss_ (fun K hK => ?_)
  go_simp
  refine (s_ScoreUp _ _).mono ?_
  rintro e' wz ⟨rfl,rfl⟩
  go_simp
  refine hK.out _ _ (q78_ ja (q7_ jH y6c)) (fun hH => ?_)
  clear hK K
  refine tk_ ?_
  refine Sq.done ?_
  intro KK hKK
  go_simp
  refine hKK _ _ (NoPanic.normal ?_)
  clear y6c yf
  refine nm_ ?_
  intro w12 hw
  have HW12 : Hid (Wk 108 w w12 B X ⟨b.t,b.n,b.w,(cs2.set i ⟨y0,y1,y2,y3,y4,y5,upF y6⟩),out,b.os⟩ L 0 (some ⟨g,0,none⟩) A' A3 A4 p1 cap' p3 p4):=hd_ (by rw [hw];exact HW11.out.putCell (c':=⟨y0,y1,y2,y3,y4,y5,upF y6⟩) (by decide) hlt2 (by decide) (by rw [HCI.out];rfl))
  have HH12:=hf_ hw (fun e9 => HW11.out.o.c.ne_ HH11 (by decide) (by rw [e9];rfl)) HH11
  clear hw
  clear ja af az jH
  obtain ⟨ja,af,az⟩:=opc_ HW12.out.open_
  have jH:=bd7_ HH12
  have hcs3 : setCh cs2 f1 scoreUp = cs2.set i ⟨y0,y1,y2,y3,y4,y5,upF y6⟩:=by rw [zkv HIX2 hlt2,HCI.out];rfl
  obtain ⟨cs3,hc3⟩ : ∃ v,cs2.set i ⟨y0,y1,y2,y3,y4,y5,upF y6⟩ = v:=⟨_,rfl⟩
  rw [hc3] at hcs3
  have Hcs3:=hd_ hcs3
  clear hcs3
  rw [hc3] at HW12
  clear hc3
  clear ja af az jH
  obtain ⟨ja,af,az⟩:=opc_ HW12.out.open_
  have jH:=bd7_ HH12
  go_wp2_with fail
  refine (zxo _ _ B X ⟨b.t,b.n,b.w,cs3,out,b.os⟩ L 0 (some ⟨g,0,none⟩) A' A3 A4 p1 cap' p3 p4 3 0 (f4 - f3) (by rw [HL.out];decide) HW12).mono ?_
  rintro e' w13 ⟨⟨Cw130,Cw131,Cw132,Cw133,rw130,rw131,rw132,rw133,rfl,hh⟩,ho⟩
  have HH13:=hd_ (ho _ _ HXH HH12)
  obtain ⟨M0,hL9⟩ : ∃ v,lineTo L 3 0 (f4 - f3) = v:=⟨_,rfl⟩
  rw [hL9] at hh
  have hlM0 : M0.length ≤ L.length + 1:=by rw [← hL9];exact zqu _ _ _ _
  have HM0:=hd_ hL9
  have HW13:=hd_ (HW12.out.trans hh)
  clear hh ho hL9
  clear ja af az jH
  obtain ⟨ja,af,az⟩:=opc_ HW13.out.open_
  have jH:=bd7_ HH13
  go_wp2_with fail
  refine (zxo _ _ B X ⟨b.t,b.n,b.w,cs3,out,b.os⟩ M0 0 Cw130 Cw131 Cw132 Cw133 rw130 rw131 rw132 rw133 6 f1 f3 (by rw [HL.out] at hlM0;simp at hlM0;omega) HW13).mono ?_
  rintro e' w14 ⟨⟨Cw140,Cw141,Cw142,Cw143,rw140,rw141,rw142,rw143,rfl,hh⟩,ho⟩
  have HH14:=hd_ (ho _ _ HXH HH13)
  obtain ⟨M1,hL9⟩ : ∃ v,lineTo M0 6 f1 f3 = v:=⟨_,rfl⟩
  rw [hL9] at hh
  have hlM1 : M1.length ≤ M0.length + 1:=by rw [← hL9];exact zqu _ _ _ _
  have HM1:=hd_ hL9
  have HW14:=hd_ (HW13.out.trans hh)
  clear hh ho hL9
  clear ja af az jH
  obtain ⟨ja,af,az⟩:=opc_ HW14.out.open_
  have jH:=bd7_ HH14
  go_wp2_with fail
  refine (zxo _ _ B X ⟨b.t,b.n,b.w,cs3,out,b.os⟩ M1 0 Cw140 Cw141 Cw142 Cw143 rw140 rw141 rw142 rw143 8 f2 (-f4) (by rw [HL.out] at hlM0;simp at hlM0;omega) HW14).mono ?_
  rintro e' w15 ⟨⟨Cw150,Cw151,Cw152,Cw153,rw150,rw151,rw152,rw153,rfl,hh⟩,ho⟩
  have HH15:=hd_ (ho _ _ HXH HH14)
  obtain ⟨M2,hL9⟩ : ∃ v,lineTo M1 8 f2 (-f4) = v:=⟨_,rfl⟩
  rw [hL9] at hh
  have hlM2 : M2.length ≤ M1.length + 1:=by rw [← hL9];exact zqu _ _ _ _
  have HM2:=hd_ hL9
  have HW15:=hd_ (HW14.out.trans hh)
  clear hh ho hL9
  clear ja af az jH
  obtain ⟨ja,af,az⟩:=opc_ HW15.out.open_
  have jH:=bd7_ HH15
  go_wp2_with fail
  go_end0
  rw [zti HO Hf0.out]
  have HZ : nz [⟨3,0,(f4 - f3)⟩,⟨6,f1,f3⟩,⟨8,f2,(-f4)⟩] = M2:=by rw [← HM2.out,← HM1.out,← HM0.out,HL.out];exact (line3 (by decide) (by decide)).symm
  rw [show (⟨f0,f1,f2,f3,f4,f5,f6⟩ : Htlc).In = f1 from rfl,show (⟨f0,f1,f2,f3,f4,f5,f6⟩ : Htlc).Out = f2 from rfl,show (⟨f0,f1,f2,f3,f4,f5,f6⟩ : Htlc).AmtIn = f3 from rfl,show (⟨f0,f1,f2,f3,f4,f5,f6⟩ : Htlc).AmtOut = f4 from rfl,HZ,HI.out,Hcs1.out,Hcs2.out,Hcs3.out]
  exact Acts.ok ⟨_,_,_,_,_,_,_,_,rfl,HW15.out⟩
end Go.Proofs.YtdbmkfmenfcbiaaGreat
