/- IAl · IEr · IOv · SAll · AllF · ISl · GnI · RtP · Inc · Rt1: each text proves what its theorems say, with no conditions but theirs. -/
import Derived.Test.YtdbmkfmenfcbiaaGreatRows
import Derived.Test.YtdbmkfmenfcbiaaGreatNISm
import Derived.Test.YtdbmkfmenfcbiaaGreatNM1
import Derived.Deep.Cut
import Derived.Test.YtdbmkfmenfcbiaaGreatNM4
import Derived.RegionTactic
import Derived.Test.YtdbmkfmenfcbiaaGreatNSApply
import Derived.Test.YtdbmkfmenfcbiaaGreatNM2
namespace Go.Proofs.YtdbmkfmenfcbiaaGreat
open Go.RowKit Go.Deep
set_option maxRecDepth 100000 in
set_option maxHeartbeats 4000000 in
theorem zgp (w0 w : World) (B X : Nat) (b : Bk) (L : List Line) (code : Int) (A1 A2 A3 A4 : Option Addr) (p1 p2 p3 p4 : Nat) (ci co : Chan) (e : Event) (hsm : Small b.hs b.os) (h : Wk 136 w0 w B X b L code A1 A2 A3 A4 p1 p2 p3 p4) :
  Calls Tryz.prog 147 #[.pointer (some ⟨X,0,none⟩),.agg #[.int .i64 ci.Id,.int .i64 ci.Size,.int .i64 ci.Local,.int .i64 ci.Remote,.int .i64 ci.Base,.int .i64 ci.Ppm,.int .i64 ci.Score],.agg #[.int .i64 co.Id,.int .i64 co.Size,.int .i64 co.Local,.int .i64 co.Remote,.int .i64 co.Base,.int .i64 co.Ppm,.int .i64 co.Score],.agg #[.int .i64 e.Kind,.int .i64 e.Key,.int .i64 e.Ch,.int .i64 e.To,.int .i64 e.Amt,.int .i64 e.Fee,.bool e.Yes]] w fun e' w' => e' = .returned (.int .i64 (roomF b.hs co e.To e.Amt ci.Score e.Yes))∧Below w.heap.size w w':=by
 have HH:=hd_ h.o.h.rd
 have HS:=hd_ hsm
 have h60:=hsm.hl
 have H:=hd_ h
 clear h hsm
 obtain ⟨ch,hch⟩ : ∃ ch,e.To = ch:=⟨_,rfl⟩
 rw [hch]
 have HCH:=hd_ hch
 clear hch
 go_enter Tryz.func147,Tryz.ntmps147
 go_upto_region 1 with fail
 refine nm_ ?_
 intro v hw
 have HVW : Hid (Wk 136 w0 v B X b L code A1 A2 A3 A4 p1 p2 p3 p4):=hd_ (by rw [hw];exact ((H.out.alloc _).alloc _).alloc _)
 have hb0 : v.heap[w.heap.size]? = some (.cells #[.int .i64 ci.Id,.int .i64 ci.Size,.int .i64 ci.Local,.int .i64 ci.Remote,.int .i64 ci.Base,.int .i64 ci.Ppm,.int .i64 ci.Score] 103 (0,0)):=by rw [hw];exact zqd (by simp;omega) (zqd (by simp) (zqi rfl))
 have hb1 : v.heap[w.heap.size + 1]? = some (.cells #[.int .i64 co.Id,.int .i64 co.Size,.int .i64 co.Local,.int .i64 co.Remote,.int .i64 co.Base,.int .i64 co.Ppm,.int .i64 co.Score] 103 (0,0)):=by rw [hw];exact zqd (by simp) (zqi (by simp))
 have hb2 : v.heap[w.heap.size + 1 + 1]? = some (.cells #[.int .i64 e.Kind,.int .i64 e.Key,.int .i64 e.Ch,.int .i64 ch,.int .i64 e.Amt,.int .i64 e.Fee,.bool e.Yes] 64 (0,0)):=by rw [hw];exact zqi (by simp)
 have hbv : Below w.heap.size w v:=by rw [hw];exact (((Below.refl _ _).alloc (Nat.le_refl _) _).alloc (by simp) _).alloc (by simp;omega) _
 have HB0:=hd_ hb0
 have HB1:=hd_ hb1
 have HB2:=hd_ hb2
 have HBV:=hd_ hbv
 clear hw hb0 hb1 hb2 hbv
 obtain ⟨ja,af,az⟩:=opc_ HVW.out.open_
 go_wp2_with fail
 clear ja af az
 go_loopw [9,10,11,12,21] (fun v1 v2 v3 v4 i wr => ∃ (k : Nat) (x1 x2 x3 x4 : Int),k ≤ b.hs.length∧i = .int .i64 k∧v1 = .int .i64 x1∧v2 = .int .i64 x2∧v3 = .int .i64 x3∧v4 = .int .i64 x4∧Hid ((b.hs.take k).foldl (fewH ch) 0 = x1)∧Hid ((b.hs.take k).foldl (outH ch) 0 = x2)∧Hid ((b.hs.take k).foldl (slotFewH ch) 0 = x3)∧Hid ((b.hs.take k).foldl (slotH ch) 0 = x4)
   ∧ wr.heap[w.heap.size]? = some (.cells #[.int .i64 ci.Id,.int .i64 ci.Size,.int .i64 ci.Local,.int .i64 ci.Remote,.int .i64 ci.Base,.int .i64 ci.Ppm,.int .i64 ci.Score] 103 (0,0))
   ∧ wr.heap[w.heap.size + 1]? = some (.cells #[.int .i64 co.Id,.int .i64 co.Size,.int .i64 co.Local,.int .i64 co.Remote,.int .i64 co.Base,.int .i64 co.Ppm,.int .i64 co.Score] 103 (0,0))
   ∧ wr.heap[w.heap.size + 1 + 1]? = some (.cells #[.int .i64 e.Kind,.int .i64 e.Key,.int .i64 e.Ch,.int .i64 ch,.int .i64 e.Amt,.int .i64 e.Fee,.bool e.Yes] 64 (0,0))∧Below w.heap.size w wr) (fun _ _ _ _ i _ => b.hs.length - (intOf i).toNat)
 case atStart => exact ⟨0,_,_,_,_,Nat.zero_le _,rfl,rfl,rfl,rfl,rfl,hd_ rfl,hd_ rfl,hd_ rfl,hd_ rfl,HB0.out,HB1.out,HB2.out,HBV.out⟩
 case round =>
  obtain ⟨k,x1,x2,x3,x4,hk,rfl,rfl,rfl,rfl,rfl,H1,H2,H3,H4,hbox,hbi,hbo,hbw⟩:=hrel
  have hbz:=hbw.size
  have s6 : wr.cell? ⟨w.heap.size,6,none⟩ = some (.int .i64 ci.Score):=zqc hbox 6
  have o1 : wr.cell? ⟨w.heap.size + 1,1,none⟩ = some (.int .i64 co.Size):=zqc hbi 1
  have o0 : wr.cell? ⟨w.heap.size + 1 + 1,3,none⟩ = some (.int .i64 ch):=zqc hbo 3
  have o4 : wr.cell? ⟨w.heap.size + 1 + 1,4,none⟩ = some (.int .i64 e.Amt):=zqc hbo 4
  have o6 : wr.cell? ⟨w.heap.size + 1 + 1,6,none⟩ = some (.bool e.Yes):=zqc hbo 6
  have oz:=(gz_ hbo).1
  have iz:=(gz_ hbi).1
  have ezz:=(gz_ hbox).1
  have EH:=hd_ hbox
  have EI:=hd_ hbi
  have EO:=hd_ hbo
  clear hbox hbi hbo
  have bd1:=HS.out.few_bd ch k hk
  have bd2:=HS.out.outH_bd ch k hk
  have bd3:=zhq (hs:=b.hs) ch k hk
  have bd4:=slot_bd (hs:=b.hs) ch k hk
  rw [H1.out] at bd1
  rw [H2.out] at bd2
  rw [H3.out] at bd3
  rw [H4.out] at bd4
  obtain ⟨l1,u1⟩:=bd1
  obtain ⟨l2,u2⟩:=bd2
  obtain ⟨l3,u3⟩:=bd3
  obtain ⟨l4,u4⟩:=bd4
  by_cases hlt : k < b.hs.length
  rotate_left
  ·
   obtain rfl : k = b.hs.length:=by omega
   have q1:=H1.out
   have q2:=H2.out
   have q3:=H3.out
   have q4:=H4.out
   rw [List.take_length] at q1 q2 q3 q4
   have HE:=hd_ (show roomF b.hs co ch e.Amt ci.Score e.Yes = allowF co.Size x1 x2 x3 x4 e.Amt (standB ci.Score e.Yes) by unfold roomF;rw [q1,q2,q3,q4])
   clear q1 q2 q3 q4 H1 H2 H3 H4
   go_wp2_with fail
   go_quiet (first | (go_at_call 166;exact zqh (i_Standing _ _ _)) | (go_at_call 165;exact zqh (i_Allow _ _ _ _ _ _ _ _ (by omega) (by omega))))
   go_wp2_with fail
   go_ret
   exact ⟨zxc HE.out.symm,bl_⟩
  obtain ⟨bb,off,rfl,hbB,c0,c1,c2,c3,c4,c5,c6⟩:=Htlc.rd (HH.out.below hbw) hlt
  obtain ⟨⟨m1,m2⟩,m3,m4⟩:=HS.out.h k hlt
  clear s6 o1 o4 o6
  have F1:=hd_ (zqq b.hs (fewH ch) 0 hlt)
  have F2:=hd_ (zqq b.hs (outH ch) 0 hlt)
  have F3:=hd_ (zqq b.hs (slotFewH ch) 0 hlt)
  have F4:=hd_ (zqq b.hs (slotH ch) 0 hlt)
  cases tx : (b.hs[k].Out == ch)
  ·
   have tn : (b.hs[k].Out != ch) = true:=by simp [bne,tx]
   have K1:=hd_ (show fewH ch x1 b.hs[k] = x1 by simp [fewH,tx])
   have K2:=hd_ (show outH ch x2 b.hs[k] = x2 by simp [outH,tx])
   have K3:=hd_ (show slotFewH ch x3 b.hs[k] = x3 by simp [slotFewH,tx])
   have K4:=hd_ (show slotH ch x4 b.hs[k] = x4 by simp [slotH,tx])
   clear tx
   go_wp2_with fail
   go_roundw
   case rel => exact ⟨k + 1,_,_,_,_,by omega,by go_num,rfl,rfl,rfl,rfl,hd_ (by rw [F1.out,H1.out,K1.out]),hd_ (by rw [F2.out,H2.out,K2.out]),hd_ (by rw [F3.out,H3.out,K3.out]),hd_ (by rw [F4.out,H4.out,K4.out]),zqd ezz EH.out,zqd iz EI.out,zqd oz EO.out,bl_⟩
   case measure => simp [intOf];omega
  have tn : (b.hs[k].Out != ch) = false:=by simp [bne,tx]
  cases ty : b.hs[k].Kept
  ·
   have K1:=hd_ (show fewH ch x1 b.hs[k] = x1 + b.hs[k].AmtOut by simp [fewH,tx,ty])
   have K2:=hd_ (show outH ch x2 b.hs[k] = x2 + b.hs[k].AmtOut by simp [outH,tx])
   have K3:=hd_ (show slotFewH ch x3 b.hs[k] = x3 + 1 by simp [slotFewH,tx,ty])
   have K4:=hd_ (show slotH ch x4 b.hs[k] = x4 + 1 by simp [slotH,tx])
   clear tx
   go_wp2_with fail
   go_roundw
   case rel => exact ⟨k + 1,_,_,_,_,by omega,by go_num,by first | rfl | go_num,by first | rfl | go_num,by first | rfl | go_num,by first | rfl | go_num,hd_ (by rw [F1.out,H1.out,K1.out]),hd_ (by rw [F2.out,H2.out,K2.out]),hd_ (by rw [F3.out,H3.out,K3.out]),hd_ (by rw [F4.out,H4.out,K4.out]),zqd ezz EH.out,zqd iz EI.out,zqd oz EO.out,bl_⟩
   case measure => simp [intOf];omega
  have K1:=hd_ (show fewH ch x1 b.hs[k] = x1 by simp [fewH,tx,ty])
  have K2:=hd_ (show outH ch x2 b.hs[k] = x2 + b.hs[k].AmtOut by simp [outH,tx])
  have K3:=hd_ (show slotFewH ch x3 b.hs[k] = x3 by simp [slotFewH,tx,ty])
  have K4:=hd_ (show slotH ch x4 b.hs[k] = x4 + 1 by simp [slotH,tx])
  clear tx
  go_wp2_with fail
  go_roundw
  case rel => exact ⟨k + 1,_,_,_,_,by omega,by go_num,by first | rfl | go_num,by first | rfl | go_num,by first | rfl | go_num,by first | rfl | go_num,hd_ (by rw [F1.out,H1.out,K1.out]),hd_ (by rw [F2.out,H2.out,K2.out]),hd_ (by rw [F3.out,H3.out,K3.out]),hd_ (by rw [F4.out,H4.out,K4.out]),zqd ezz EH.out,zqd iz EI.out,zqd oz EO.out,bl_⟩
  case measure => simp [intOf];omega
def tailA (A : Option Addr) (cap k size : Nat) : Option Addr:=if cap = k then A else A.map (·.add (k * size))
theorem Rd.from_ {w : World} {B size : Nat} {A : Option Addr} {rows : List (List Value)} (h : Rd w B size A rows) {cap : Nat} (hc : rows.length ≤ cap) (k : Nat) : Rd w B size (tailA A cap k size) (rows.drop k):=by
  refine ⟨fun r hr => h.1 r (List.mem_of_mem_drop hr),fun hn => ?_⟩
  rw [List.length_drop] at hn
  obtain ⟨b,off,rfl,hb,hcell⟩:=h.2 (by omega)
  refine ⟨b,off + k * size,?_,hb,fun i r j v h1 h2 => ?_⟩
  · unfold tailA
    rw [if_neg (by omega)]
    simp [Addr.add]
  · rw [List.getElem?_drop] at h1
    have:=hcell (k + i) r j v h1 h2
    rw [Nat.add_mul] at this
    rw [show off + k * size + i * size + j = off + (k * size + i * size) + j by omega]
    exact this
theorem zws {P : Program} {t : TypeId} {size n cap k : Nat} {A : Option Addr} {x : Int} (ht : P.underlying t = some (.slice (P.elem t))) (hsz : ∀ W : World,(sizeOf (P.elem t)).run P W = .ok size W) (hx : x = (k : Int)) (h1 : k ≤ n) (W : World) :
    (Instr.slice t (.slice A n cap) (some (.int .i64 x)) none none).run P W = .ok (.slice (tailA A cap k size) (n - k) (cap - k)) W:=by
  subst hx
  rw [run_slice_l (P:=P) W t A n cap ht .i64 (k : Int) (by omega) (by omega),hsz]
  simp [Result.andThen,sliced,tailA]
theorem sl_to {P : Program} {t : TypeId} {size n cap k : Nat} {A : Option Addr} {x : Int} (ht : P.underlying t = some (.slice (P.elem t))) (hsz : ∀ W : World,(sizeOf (P.elem t)).run P W = .ok size W) (hx : x = (k : Int)) (h1 : k ≤ cap) (W : World) :
    (Instr.slice t (.slice A n cap) none (some (.int .i64 x)) none).run P W = .ok (.slice A k cap) W:=by
  subst hx
  rw [run_slice_h (P:=P) W t A n cap ht .i64 (k : Int) (by omega) (by omega),hsz]
  have : A.map (fun a => a.add (0 * size)) = A:=by
    cases A with
    | none => rfl
    | some a => simp [Addr.add]
  simp only [Result.andThen,sliced,Int.toNat_natCast,Nat.sub_zero,this,ite_self]
theorem zkt {α : Type} (l : List α) (i : Nat) : l.take i ++ l.drop (i + 1) = l.eraseIdx i:=(List.eraseIdx_eq_take_drop_succ l i).symm
theorem zyz {α β : Type} (f : α → β) (l : List α) (i : Nat) : (l.eraseIdx i).map f = (l.map f).eraseIdx i:=by
  rw [List.eraseIdx_eq_take_drop_succ,List.eraseIdx_eq_take_drop_succ,List.map_append,List.map_take,List.map_drop]
def ovB (b : Bk) (e : Event) : Bool :=
 if b.n = 1125899906842624 then true
 else if e.Kind = 1 then decide (1125899906842624 < b.w + e.Amt)
 else if e.Kind = 2 then decide (1125899906842624 < e.Amt + e.Fee)
 else if e.Kind = 3∧0 ≤ chanIx b.cs e.Ch then decide (1125899906842624 < b.w + (chanOf b.cs e.Ch).Local - e.Fee)
 else if e.Kind = 8 then b.t == 1125899906842624
 else false
theorem ov_yes {b : Bk} {e : Event} (h : (b.ok && evB e) = true) (ho : ovB b e = true) : applyS b e = bad 2:=by
 by_cases hn : b.n = 1125899906842624
 ·
  exact zww h hn
 rw [zvy h hn]
 unfold ovB at ho
 rw [if_neg hn] at ho
 unfold stepS
 split
 ·
  rename_i h1
  rw [if_pos h1] at ho
  unfold depB
  rw [if_pos (of_decide_eq_true ho)]
 rename_i h1
 rw [if_neg h1] at ho
 split
 ·
  rename_i h2
  rw [if_pos h2] at ho
  unfold openB
  rw [if_pos (of_decide_eq_true ho)]
 rename_i h2
 rw [if_neg h2] at ho
 by_cases h3 : e.Kind = 3∧0 ≤ chanIx b.cs e.Ch
 ·
  rw [if_pos h3] at ho
  rw [if_pos h3.1]
  unfold closeA
  rw [if_pos ⟨h3.2,of_decide_eq_true ho⟩]
 rw [if_neg h3] at ho
 by_cases h8 : e.Kind = 8
 ·
  rw [if_pos h8] at ho
  rw [if_neg (by omega),if_neg (by omega),if_neg (by omega),if_neg (by omega),if_neg (by omega),if_pos h8]
  unfold tickB
  rw [if_pos (eq_of_beq ho)]
 rw [if_neg h8] at ho
 cases ho
theorem ov_no {b : Bk} {e : Event} (ho : ovB b e = false) : b.n ≠ 1125899906842624∧(e.Kind = 1 → b.w + e.Amt ≤ 1125899906842624)∧(e.Kind = 2 → e.Amt + e.Fee ≤ 1125899906842624)∧(e.Kind = 3 → closeA b e = closeB b e)∧(e.Kind = 8 → b.t ≠ 1125899906842624):=by
 unfold ovB at ho
 by_cases hn : b.n = 1125899906842624
 ·
  rw [if_pos hn] at ho
  cases ho
 rw [if_neg hn] at ho
 refine ⟨hn,fun h1 => ?_,fun h2 => ?_,fun h3 => ?_,fun h8 => ?_⟩
 ·
  rw [if_pos h1] at ho
  have:=of_decide_eq_false ho
  omega
 ·
  rw [if_neg (by omega),if_pos h2] at ho
  have:=of_decide_eq_false ho
  omega
 ·
  rw [if_neg (by omega),if_neg (by omega)] at ho
  unfold closeA
  by_cases hx : 0 ≤ chanIx b.cs e.Ch
  ·
   rw [if_pos ⟨h3,hx⟩] at ho
   rw [if_neg (fun h => absurd h.2 (of_decide_eq_false ho))]
  rw [if_neg (fun h => hx h.1)]
 rw [if_neg (by omega),if_neg (by omega),if_neg (by omega),if_pos h8] at ho
 exact beq_eq_false_iff_ne.1 ho
set_option maxRecDepth 100000 in
set_option maxHeartbeats 4000000 in
theorem zyu (b : Bk) (e : Event) (A1 A2 A3 : Option Addr) (p1 p2 p3 : Nat) (w : World) (hF : BookFacts b.t b.n b.w b.cs b.hs b.os) (ha : amtB e.Amt = true) (hf : amtB e.Fee = true) (hr : RdBook w w.heap.size A1 b.cs A2 b.hs A3 b.os) :
  Calls Tryz.prog 87 #[.agg #[.int .i64 b.t,.int .i64 b.n,.int .i64 b.w,.slice A1 b.cs.length p1,.slice A2 b.hs.length p2,.slice A3 b.os.length p3],.agg #[.int .i64 e.Kind,.int .i64 e.Key,.int .i64 e.Ch,.int .i64 e.To,.int .i64 e.Amt,.int .i64 e.Fee,.bool e.Yes]] w fun e' w' => e' = .returned (.bool (ovB b e))∧Below w.heap.size w w':=by
 obtain ⟨k,key,ch,ot,amt,fee,yes⟩:=e
 dsimp only at ha hf ⊢
 obtain ⟨a1,a2⟩:=zja.1 ha
 obtain ⟨f1,f2⟩:=zja.1 hf
 obtain ⟨w1,w2⟩:=hF.w
 have hcl:=hF.cl
 have HF:=hd_ hF
 have HR:=hd_ hr
 clear hF hr ha hf
 obtain ⟨r,hr⟩ : ∃ r,ovB b ⟨k,key,ch,ot,amt,fee,yes⟩ = r:=⟨_,rfl⟩
 rw [hr]
 have HRS:=hd_ hr
 clear hr
 have HG_w : Hid (Below w.heap.size w w):=hd_ (Below.refl _ _)
 go_enter Tryz.func87,Tryz.ntmps87
 go_upto_region 1 with fail
 refine nm_ ?_
 intro w11 hw
 have HG11 : Hid (Below w.heap.size w w11):=hd_ (by rw [hw];exact ((HG_w.out).alloc (by have:=HG_w.out.size;first | omega | (simp;done) | (simp;omega)) _).alloc (by have:=HG_w.out.size;first | omega | (simp;done) | (simp;omega)) _)
 obtain ⟨KB,h9K⟩ : ∃ v,v = w.heap.size:=⟨_,rfl⟩
 have HK11 : Hid (Hx w11 KB (bkC b A1 p1 A2 p2 A3 p3) 39):=hd_ (by rw [hw,h9K];first | done | exact zqd (by simp) (zqi (by first | rfl | (simp;done))))
 have HLK : Hid (w.heap.size ≤ KB):=hd_ (by have:=HG_w.out.size;omega)
 obtain ⟨MB,h9M⟩ : ∃ v,v = w.heap.size + 1:=⟨_,rfl⟩
 have HM11 : Hid (Hx w11 MB (qaiiiiiib k key ch ot amt fee yes) 64):=hd_ (by rw [hw,h9M];first | done | exact zqi (by first | rfl | (simp;done)))
 have HLM : Hid (w.heap.size ≤ MB):=hd_ (by have:=HG_w.out.size;omega)
 try rw [← h9M]
 try rw [← h9K]
 have HNMK : Hid (MB ≠ KB):=hd_ (by omega)
 clear hw h9K h9M
 obtain ⟨K,Kf,Kz⟩:=bc6_ HK11
 obtain ⟨M,Mf,Mz⟩:=bc7_ HM11
 obtain ⟨ix,hix⟩ : ∃ v,chanIx b.cs ch = v:=⟨_,rfl⟩
 have HIX:=hd_ hix
 clear hix
 go_wp2_with fail
 refine (zkc b.t b.n b.w b.cs b.hs b.os _ _ _ _ _ _ ch _ (by omega) ((HR.out.below HG11).more HG11.out.size)).mono ?_
 rintro e' w12 ⟨rfl,hb⟩
 rw [HIX.out]
 have HG12:=hd_ (HG11.out.trans (hb.mono HG11.out.size))
 have HK12:=hb_ hb HK11
 have HM12:=hb_ hb HM11
 clear hb
 clear K M Kf Mf Kz Mz
 obtain ⟨K,Kf,Kz⟩:=bc6_ HK12
 obtain ⟨M,Mf,Mz⟩:=bc7_ HM12
 cases tn : (b.n == 1125899906842624)
 rotate_left
 ·
  have HN:=hd_ (eq_of_beq tn)
  go_wp2_with fail
  go_ret
  exact ⟨zqf (by rw [← HRS.out];unfold ovB;rw [if_pos HN.out]),HG12.out⟩
 have HN:=hd_ (beq_eq_false_iff_ne.1 tn)
 cases tk1 : (k == 1)
 rotate_left
 ·
  have H1:=hd_ (eq_of_beq tk1)
  have ws : IntKind.i64.wrap (b.w + amt) = b.w + amt:=IntWalk.i64_in _ ⟨by omega,by omega⟩
  go_wp2_with fail
  go_ret
  exact ⟨zqf (by rw [← HRS.out];unfold ovB;rw [if_neg HN.out,if_pos H1.out]),HG12.out⟩
 have h1:=beq_eq_false_iff_ne.1 tk1
 have H1:=hd_ h1
 clear h1
 cases tk2 : (k == 2)
 rotate_left
 ·
  have H2:=hd_ (eq_of_beq tk2)
  have ws : IntKind.i64.wrap (amt + fee) = amt + fee:=IntWalk.i64_in _ ⟨by omega,by omega⟩
  go_wp2_with fail
  go_ret
  exact ⟨zqf (by rw [← HRS.out];unfold ovB;rw [if_neg HN.out,if_neg H1.out,if_pos H2.out]),HG12.out⟩
 have h2:=beq_eq_false_iff_ne.1 tk2
 have H2:=hd_ h2
 clear h2
 cases tk3 : (k == 3)
 ·
  have h3:=beq_eq_false_iff_ne.1 tk3
  have H3:=hd_ h3
  clear h3
  cases tk8 : (k == 8)
  ·
   have H8:=hd_ (beq_eq_false_iff_ne.1 tk8)
   go_wp2_with fail
   go_ret
   exact ⟨zqf (by rw [← HRS.out];unfold ovB;rw [if_neg HN.out,if_neg H1.out,if_neg H2.out,if_neg (fun h => H3.out h.1),if_neg H8.out]),HG12.out⟩
  have H8:=hd_ (eq_of_beq tk8)
  go_wp2_with fail
  go_ret
  exact ⟨zqf (by rw [← HRS.out];unfold ovB;rw [if_neg HN.out,if_neg H1.out,if_neg H2.out,if_neg (fun h => H3.out h.1),if_pos H8.out]),HG12.out⟩
 have H3:=hd_ (eq_of_beq tk3)
 cases tx : decide (ix ≥ 0)
 ·
  have HX:=hd_ (of_decide_eq_false tx)
  have tk8 : (k == 8) = false:=beq_eq_false_iff_ne.2 (by rw [H3.out];decide)
  go_wp2_with fail
  go_ret
  exact ⟨zqf (by rw [← HRS.out];unfold ovB;rw [if_neg HN.out,if_neg H1.out,if_neg H2.out,if_neg (fun h => absurd h.2 (by have:=HX.out;rw [HIX.out];omega)),if_neg (by simp only;rw [H3.out];decide)]),HG12.out⟩
 have hx:=of_decide_eq_true tx
 obtain ⟨i,hi⟩:=Int.eq_ofNat_of_zero_le (show 0 ≤ ix from hx)
 subst hi
 have hlt:=zxm HIX
 have hloc:=HF.out.local_ hlt
 have hco : chanOf b.cs ch = b.cs[i]:=by unfold chanOf;rw [HIX.out,Int.toNat_natCast,List.getD_eq_getElem?_getD,List.getElem?_eq_getElem hlt];rfl
 have HCO:=hd_ hco
 have HX:=hd_ hx
 clear hco hx
 obtain ⟨bb,off,hA,hbB,c0,c1,c2,c3,c4,c5,c6⟩:=Chan.rd (HR.out.c.below HG12) hlt
 subst hA
 clear K M Kf Mf Kz Mz
 obtain ⟨K,Kf,Kz⟩:=bc6_ HK12
 obtain ⟨M,Mf,Mz⟩:=bc7_ HM12
 obtain ⟨l,hl⟩ : ∃ l,b.cs[i].Local = l:=⟨_,rfl⟩
 rw [hl] at c2 hloc
 have HLO:=hd_ hl
 clear hl
 have i1 : (0 : Int) ≤ (i : Int):=by omega
 have i2 : (i : Int) < (b.cs.length : Int):=by omega
 have ws1 : IntKind.i64.wrap (b.w + l) = b.w + l:=IntWalk.i64_in _ ⟨by omega,by omega⟩
 have ws2 : IntKind.i64.wrap (b.w + l - fee) = b.w + l - fee:=IntWalk.i64_in _ ⟨by omega,by omega⟩
 go_wp2_with fail
 go_region
 all_goals go_wp2_with fail
 all_goals go_ret
 all_goals exact ⟨zqf (by rw [← HRS.out];unfold ovB;rw [if_neg HN.out,if_neg H1.out,if_neg H2.out,if_pos ⟨H3.out,by simp only;rw [HIX.out];exact HX.out⟩,HCO.out,HLO.out]),HG12.out.drew⟩
def LenOk (b : Bk) : Prop:=b.cs.length ≤ 21∧b.hs.length ≤ 61∧b.os.length ≤ 21
theorem LenOk.zero : LenOk bk0:=⟨by decide,by decide,by decide⟩
theorem lenOk_of {b : Bk} (h : b.ok = true) : LenOk b:=by
 have hF:=zxw h
 exact ⟨Nat.le_trans hF.cl (by decide),Nat.le_trans hF.small.hl (by decide),Nat.le_trans hF.small.ol (by decide)⟩
theorem insC_len (c : Chan) (cs : List Chan) : (insC c cs).length = cs.length + 1:=by
 unfold insC
 rw [List.length_append,List.length_cons]
 have h:=congrArg List.length (List.takeWhile_append_dropWhile (p:=fun x : Chan => decide (x.Id < c.Id)) (l:=cs))
 rw [List.length_append] at h
 omega
theorem ztg (cs : List Chan) (ch : Int) (f : Chan → Chan) : (setCh cs ch f).length = cs.length:=List.length_modify ..
theorem stepS_len {b : Bk} {e : Event} (h : b.ok = true) : LenOk (stepS b e).b:=by
 have hF:=zxw h
 have h1:=hF.cl
 have h2:=hF.small.hl
 have h3:=hF.small.ol
 have z : LenOk bk0:=LenOk.zero
 have hb : LenOk b:=lenOk_of h
 have fh : ∀ p : Htlc → Bool,(b.hs.filter p).length ≤ 61:=fun p => Nat.le_trans (List.length_filter_le _ _) (by omega)
 have fo : ∀ p : Circle → Bool,(b.os.filter p).length ≤ 21:=fun p => Nat.le_trans (List.length_filter_le _ _) (by omega)
 have fc : ∀ p : Chan → Bool,(b.cs.filter p).length ≤ 21:=fun p => Nat.le_trans (List.length_filter_le _ _) (by omega)
 unfold stepS
 split
 ·
  unfold depB;split
  ·
   exact z
  exact hb
 split
 ·
  unfold openB;(repeat' split) <;> first | exact z | exact ⟨by simp only [done,insC_len];omega,hb.2⟩
 split
 ·
  unfold closeA closeB;(repeat' split) <;> first | exact z | exact ⟨fc _,hb.2⟩
 split
 ·
  unfold priceB;(repeat' split) <;> first | exact z | exact ⟨by simp only [done,ztg];omega,hb.2⟩
 split
 ·
  unfold admitS;(repeat' split) <;> first | exact z | exact ⟨by simp only [done,zxg];omega,by simp only [done,List.length_append,List.length_singleton];omega,hb.2.2⟩
 split
 ·
  unfold settleS;(repeat' split) <;> first | exact z | exact ⟨by simp only [done,zxg,ztg];omega,fh _,hb.2.2⟩
 split
 ·
  unfold settleS;(repeat' split) <;> first | exact z | exact ⟨by simp only [done,zxg,ztg];omega,fh _,hb.2.2⟩
 split
 ·
  unfold tickB;split
  ·
   exact z
  refine ⟨?_,by simp only [done,List.length_map];omega,hb.2.2⟩
  simp only [done]
  split
  ·
   rw [List.length_map];omega
  omega
 split
 ·
  unfold launchS;(repeat' split) <;> first | exact z | exact ⟨by simp only [done,zxg];omega,hb.2.1,by simp only [done,List.length_append,List.length_singleton];omega⟩
 split
 ·
  unfold landS;(repeat' split) <;> first | exact z | exact ⟨by simp only [done,zxg];omega,hb.2.1,fo _⟩
 unfold landS;(repeat' split) <;> first | exact z | exact ⟨by simp only [done,zxg];omega,hb.2.1,fo _⟩
theorem zvz (b : Bk) (e : Event) : LenOk (applyS b e).b:=by
 unfold applyS
 split
 ·
  exact LenOk.zero
 rename_i h
 split
 ·
  exact LenOk.zero
 refine stepS_len ?_
 cases h9 : b.ok
 ·
  rw [h9] at h;exact absurd rfl h
 rfl
def nextB (b : Bk) (e : Event) : Bk:=if (applyS b e).code = 0 then (applyS b e).b else b
theorem ztc {w w' : World} {B B' n : Nat} {b : Bk} {C1 C2 C3 : Option Addr} {q1 q2 q3 : Nat} {e : TypeId} {v : Value} {rows : List (List Value)} (h : OwB w B b C1 C2 C3 q1 q2 q3) (hv : Ow w B' e n v rows) (hg : w.grownBy w' v.ownBlock) (h1 : 103 ≠ e:=by decide) (h2 : 70 ≠ e:=by decide) (h3 : 93 ≠ e:=by decide) : OwB w' B b C1 C2 C3 q1 q2 q3:=⟨h.c.apart_ hv h1 hg,h.h.apart_ hv h2 hg,h.o.apart_ hv h3 hg⟩
theorem zva {P : Program} {ops : Array Oper} {Q : Exit → Act → World → Prop} {l : List Oper} {a : Act} {w : World} (h : ∀ wq,wq = w → wpList P ops Q l a wq) : wpList P ops Q l a w:=h w rfl
theorem zpe : (Tryz.prog.info? 66).map (fun i => (i.zero,i.size,i.bytes)) = some (some (.agg #[.int .i64 0,.slice none 0 0]),2,32):=by kernel_rfl
theorem info_intA : (Tryz.prog.info? 3).map (fun i => (i.zero,i.size,i.bytes)) = some (some (.int .i64 0),1,8):=by kernel_rfl
def psStep (b : Bk) (e : Event) (ps : List (Int × List Line)) : List (Int × List Line):=if (applyS b e).code = 0∧(applyS b e).l ≠ [] then ps ++ [(b.n,(applyS b e).l)] else ps
def allStep (s : Bk × List (Int × List Line) × List Int) (e : Event) : Bk × List (Int × List Line) × List Int:=(nextB s.1 e,psStep s.1 e s.2.1,s.2.2 ++ [(applyS s.1 e).code])
def allF (b : Bk) (es : List Event) : Bk × List (Int × List Line) × List Int:=es.foldl allStep (b,[],[])
theorem keys_ne {ks : List Int} (h : everyTo ks.length (keyAt ks) = true) {i j : Nat} (hij : i < j) (hj : j < ks.length) : ks[i]'(by omega) ≠ ks[j]:=by
 have h1:=everyTo_iff.1 h j hj
 rw [zpg hj,Bool.and_eq_true] at h1
 intro e
 have h2 : hasB (ks.take j) ks[j] = true:=by
  unfold hasB
  rw [List.any_eq_true]
  refine ⟨ks[i]'(by omega),?_,by rw [e];simp⟩
  rw [List.mem_take_iff_getElem]
  exact ⟨i,by omega,rfl⟩
 rw [h2] at h1
 exact absurd h1.2 (by decide)
theorem hs_ne {bt bn bw : Int} {cs : List Chan} {hs : List Htlc} {os : List Circle} (hF : BookFacts bt bn bw cs hs os) {i j : Nat} (hij : i < j) (hj : j < hs.length) : (hs[i]'(by omega)).Key ≠ hs[j].Key:=by
 have hp:=hF.parts
 simp only [partsB,Bool.and_eq_true] at hp
 have h2:=hp.2
 unfold keysOf at h2
 have hl : j < (hs.map Htlc.Key ++ os.map Circle.Key).length:=by rw [List.length_append,List.length_map];omega
 have:=keys_ne h2 hij hl
 rw [List.getElem_append_left (by rw [List.length_map];omega),List.getElem_append_left (by rw [List.length_map];omega),List.getElem_map,List.getElem_map] at this
 exact this
theorem os_ne {bt bn bw : Int} {cs : List Chan} {hs : List Htlc} {os : List Circle} (hF : BookFacts bt bn bw cs hs os) {i j : Nat} (hij : i < j) (hj : j < os.length) : (os[i]'(by omega)).Key ≠ os[j].Key:=by
 have hp:=hF.parts
 simp only [partsB,Bool.and_eq_true] at hp
 have h2:=hp.2
 unfold keysOf at h2
 have hl : hs.length + j < (hs.map Htlc.Key ++ os.map Circle.Key).length:=by rw [List.length_append,List.length_map,List.length_map];omega
 have:=keys_ne h2 (show hs.length + i < hs.length + j by omega) hl
 rw [List.getElem_append_right (by rw [List.length_map];omega),List.getElem_append_right (by rw [List.length_map];omega),List.getElem_map,List.getElem_map] at this
 simpa using this
theorem zpb {hs : List Htlc} {key : Int} {i : Nat} (h : hAt hs key = (i : Int)) : ∃ hl : i < hs.length,hs[i].Key = key:=by
 unfold hAt at h
 split at h
 ·
  rename_i j hj
  obtain ⟨h1,h2,_⟩:=List.findIdx?_eq_some_iff_getElem.1 hj
  have : j = i:=by omega
  subst this
  exact ⟨h1,by simpa [notKeyH] using h2⟩
 omega
theorem zpi {os : List Circle} {key : Int} {i : Nat} (h : oAt os key = (i : Int)) : ∃ hl : i < os.length,os[i].Key = key:=by
 unfold oAt at h
 split at h
 ·
  rename_i j hj
  obtain ⟨h1,h2,_⟩:=List.findIdx?_eq_some_iff_getElem.1 hj
  have : j = i:=by omega
  subst this
  exact ⟨h1,by simpa [notKeyC] using h2⟩
 omega
theorem zwf (key : Int) : ∀ (l : List Htlc) (r : Htlc),(∀ x ∈ l,x.Key ≠ key) → l.foldl (pickH key) r = r
 | [],_,_ => rfl
 | x :: l,r,h => by
  have e : pickH key r x = r:=by unfold pickH;rw [if_neg (by simpa using h x (by simp))]
  rw [List.foldl_cons,e]
  exact zwf key l r (fun y hy => h y (by simp [hy]))
theorem zwe (key : Int) : ∀ (l : List Circle) (r : Circle),(∀ x ∈ l,x.Key ≠ key) → l.foldl (pickC key) r = r
 | [],_,_ => rfl
 | x :: l,r,h => by
  have e : pickC key r x = r:=by unfold pickC;rw [if_neg (by simpa using h x (by simp))]
  rw [List.foldl_cons,e]
  exact zwe key l r (fun y hy => h y (by simp [hy]))
theorem zwh {α : Type} {l : List α} {i : Nat} (h : i < l.length) : l = l.take i ++ l[i] :: l.drop (i + 1):=by rw [List.getElem_cons_drop,List.take_append_drop]
theorem hs_found {bt bn bw : Int} {cs : List Chan} {hs : List Htlc} {os : List Circle} (hF : BookFacts bt bn bw cs hs os) {key : Int} {i : Nat} (h : hAt hs key = (i : Int)) (hl : i < hs.length) : lastH hs key = hs[i]∧hs.filter (notKeyH key) = hs.eraseIdx i:=by
 obtain ⟨_,hk⟩:=zpb h
 have hA : ∀ x ∈ hs.take i,x.Key ≠ key:=by
  intro x hx
  obtain ⟨j,hj,rfl⟩:=List.mem_take_iff_getElem.1 hx
  rw [← hk]
  exact hs_ne hF (by omega) hl
 have hB : ∀ x ∈ hs.drop (i + 1),x.Key ≠ key:=by
  intro x hx
  obtain ⟨j,hj,rfl⟩:=List.mem_iff_getElem.1 hx
  rw [List.length_drop] at hj
  rw [List.getElem_drop,← hk]
  exact (hs_ne hF (show i < i + 1 + j by omega) (by omega)).symm
 constructor
 ·
  unfold lastH
  have e1 : hs.foldl (pickH key) htlc0 = (hs.take i ++ hs[i] :: hs.drop (i + 1)).foldl (pickH key) htlc0:=by rw [← zwh hl]
  have hk2 : (hs[i].Key == key) = true:=by rw [hk];simp
  have e2 : pickH key htlc0 hs[i] = hs[i]:=by unfold pickH;rw [if_pos hk2]
  rw [e1,List.foldl_append,zwf key _ _ hA,List.foldl_cons,e2,zwf key _ _ hB]
 rw [List.eraseIdx_eq_take_drop_succ]
 have e1 : hs.filter (notKeyH key) = (hs.take i ++ hs[i] :: hs.drop (i + 1)).filter (notKeyH key):=by rw [← zwh hl]
 rw [e1,List.filter_append,List.filter_cons_of_neg (by simp [notKeyH,hk]),List.filter_eq_self.2 (fun x hx => by simpa [notKeyH] using hA x hx),List.filter_eq_self.2 (fun x hx => by simpa [notKeyH] using hB x hx)]
theorem os_found {bt bn bw : Int} {cs : List Chan} {hs : List Htlc} {os : List Circle} (hF : BookFacts bt bn bw cs hs os) {key : Int} {i : Nat} (h : oAt os key = (i : Int)) (hl : i < os.length) : lastC os key = os[i]∧os.filter (notKeyC key) = os.eraseIdx i:=by
 obtain ⟨_,hk⟩:=zpi h
 have hA : ∀ x ∈ os.take i,x.Key ≠ key:=by
  intro x hx
  obtain ⟨j,hj,rfl⟩:=List.mem_take_iff_getElem.1 hx
  rw [← hk]
  exact os_ne hF (by omega) hl
 have hB : ∀ x ∈ os.drop (i + 1),x.Key ≠ key:=by
  intro x hx
  obtain ⟨j,hj,rfl⟩:=List.mem_iff_getElem.1 hx
  rw [List.length_drop] at hj
  rw [List.getElem_drop,← hk]
  exact (os_ne hF (show i < i + 1 + j by omega) (by omega)).symm
 constructor
 ·
  unfold lastC
  have e1 : os.foldl (pickC key) circle0 = (os.take i ++ os[i] :: os.drop (i + 1)).foldl (pickC key) circle0:=by rw [← zwh hl]
  have hk2 : (os[i].Key == key) = true:=by rw [hk];simp
  have e2 : pickC key circle0 os[i] = os[i]:=by unfold pickC;rw [if_pos hk2]
  rw [e1,List.foldl_append,zwe key _ _ hA,List.foldl_cons,e2,zwe key _ _ hB]
 rw [List.eraseIdx_eq_take_drop_succ]
 have e1 : os.filter (notKeyC key) = (os.take i ++ os[i] :: os.drop (i + 1)).filter (notKeyC key):=by rw [← zwh hl]
 rw [e1,List.filter_append,List.filter_cons_of_neg (by simp [notKeyC,hk]),List.filter_eq_self.2 (fun x hx => by simpa [notKeyC] using hA x hx),List.filter_eq_self.2 (fun x hx => by simpa [notKeyC] using hB x hx)]
theorem hAt_neg {hs : List Htlc} {key : Int} (h : hAt hs key < 0) : ∀ x ∈ hs,x.Key ≠ key:=by
 intro x hx
 unfold hAt at h
 split at h
 ·
  omega
 rename_i hf
 rw [List.findIdx?_eq_none_iff] at hf
 have:=hf x hx
 simpa [notKeyH] using this
theorem oAt_neg {os : List Circle} {key : Int} (h : oAt os key < 0) : ∀ x ∈ os,x.Key ≠ key:=by
 intro x hx
 unfold oAt at h
 split at h
 ·
  omega
 rename_i hf
 rw [List.findIdx?_eq_none_iff] at hf
 have:=hf x hx
 simpa [notKeyC] using this
theorem zgl {hs : List Htlc} {key : Int} (h : hAt hs key < 0) : (lastH hs key).Key = 0:=by
 unfold lastH
 rw [zwf key hs htlc0 (hAt_neg h)]
 rfl
theorem zsd {os : List Circle} {key : Int} (h : oAt os key < 0) : (lastC os key).Key = 0:=by
 unfold lastC
 rw [zwe key os circle0 (oAt_neg h)]
 rfl
/-! ### channels put cell by cell -/
theorem zwq {cs : List Chan} {ch d : Int} {i : Nat} {y0 y1 y2 y3 y4 y5 y6 : Int} (hi : chanIx cs ch = (i : Int)) (hl : i < cs.length) (hc : cs[i] = ⟨y0,y1,y2,y3,y4,y5,y6⟩) : moveC cs ch d 0 = cs.set i ⟨y0,y1,y2 + d,y3,y4,y5,y6⟩:=by
 unfold moveC
 rw [zkv hi hl,hc]
 simp [moveF]
theorem zwr {cs : List Chan} {ch d : Int} {i : Nat} {y0 y1 y2 y3 y4 y5 y6 : Int} (hi : chanIx cs ch = (i : Int)) (hl : i < cs.length) (hc : cs[i] = ⟨y0,y1,y2,y3,y4,y5,y6⟩) : moveC cs ch 0 d = cs.set i ⟨y0,y1,y2,y3 + d,y4,y5,y6⟩:=by
 unfold moveC
 rw [zkv hi hl,hc]
 simp [moveF]
/-! ### lines -/
theorem addF_mem {x : Line} : ∀ {l : List Line},(∀ z ∈ l,¬(z.Kind = x.Kind∧z.Ch = x.Ch)) → ∀ y ∈ addF x l,y ∈ l ∨ y = x
 | [],_,y,hy => by simpa [addF] using hy
 | z :: l,h,y,hy => by
  rw [addF] at hy
  split at hy
  ·
   rcases List.mem_cons.1 hy with h1 | h1
   ·
    exact .inl (by simp [h1])
   rcases addF_mem (fun u hu => h u (by simp [hu])) y h1 with h2 | h2
   ·
    exact .inl (by simp [h2])
   exact .inr h2
  rw [if_neg (h z (by simp))] at hy
  rcases List.mem_cons.1 hy with h1 | h1
  ·
   exact .inr h1
  exact .inl h1
theorem zxk {L : List Line} {k c a : Int} (h : ∀ z ∈ L,¬(z.Kind = k∧z.Ch = c)) {y : Line} (hy : y ∈ lineTo L k c a) : y ∈ L ∨ y = ⟨k,c,a⟩:=by
 unfold lineTo at hy
 split at hy
 ·
  exact .inl hy
 exact addF_mem (x:=⟨k,c,a⟩) h y hy
theorem wr_in {n : Int} (h : -9223372036854775808 ≤ n∧n ≤ 9223372036854775807) : wr n = n:=by unfold wr wrap64;omega
theorem wr_rng (n : Int) : -9223372036854775808 ≤ wr n∧wr n ≤ 9223372036854775807:=by unfold wr wrap64;omega
def bumpG (h : Htlc) (good : Bool) (x : Gain) : Gain:=if good = true then ⟨x.Ch,wr (x.Fees + (h.AmtIn - h.AmtOut)),wr (x.Count + 1),x.Failed⟩ else ⟨x.Ch,x.Fees,x.Count,wr (x.Failed + 1)⟩
def gIx (l : List Gain) (ch : Int) : Nat:=(l.findIdx? fun x => x.Ch == ch).getD l.length
def seatG (l : List Gain) (ch : Int) : List Gain:=if gIx l ch = l.length then l ++ [⟨ch,0,0,0⟩] else l
def putG (l : List Gain) (h : Htlc) (good : Bool) : List Gain:=(seatG l h.Out).modify (gIx l h.Out) (bumpG h good)
def putEv (hs : List Htlc) (e : Event) (l : List Gain) : List Gain :=
 match htlcF hs e.Key with
 | some h => if e.Kind = 6 then putG l h true else if e.Kind = 7 then putG l h false else l
 | none => l
def gainStepI (s : Bk × List Gain) (e : Event) : Bk × List Gain:=if (applyS s.1 e).code = 0 then ((applyS s.1 e).b,putEv s.1.hs e s.2) else s
def gainsI (es : List Event) : List Gain:=(es.foldl gainStepI (bk1,[])).2
def SG (l : List Gain) : Prop:=l.Pairwise fun a b => a.Ch < b.Ch
def inG (x : Gain) : Prop:=wr x.Fees = x.Fees∧wr x.Count = x.Count∧wr x.Failed = x.Failed
def atG (ch : Int) (f : Gain → Gain) (x : Gain) : Gain:=if x.Ch = ch then f x else x
def insG (g : Gain) : List Gain → List Gain
 | [] => [g]
 | x :: l => if g.Ch < x.Ch then g :: x :: l else x :: insG g l
theorem zvq (g : Gain) : ∀ l : List Gain,(insG g l).Perm (l ++ [g])
 | [] => .refl _
 | x :: l => by
  unfold insG
  split
  ·
   exact (List.perm_append_comm (l₁:=[g]) (l₂:=x :: l))
  exact (zvq g l).cons x
theorem zyw (g : Gain) : ∀ l : List Gain,SG l → (∀ x ∈ l,x.Ch ≠ g.Ch) → SG (insG g l)
 | [],_,_ => .cons (by simp) .nil
 | x :: l,hs,hn => by
  obtain ⟨h1,h2⟩:=List.pairwise_cons.1 hs
  have hx:=hn x (by simp)
  unfold insG
  split
  ·
   rename_i hlt
   refine .cons (fun y hy => ?_) hs
   rcases List.mem_cons.1 hy with rfl | hy
   ·
    exact hlt
   have:=h1 y hy;omega
  rename_i hlt
  refine .cons (fun y hy => ?_) (zyw g l h2 fun y hy => hn y (by simp [hy]))
  rcases List.mem_append.1 ((zvq g l).mem_iff.1 hy) with hy | hy
  ·
   exact h1 y hy
  rw [List.mem_singleton.1 hy];omega
theorem zmr (g : Gain) : ∀ (l o : List Gain),(∀ x ∈ l,x.Ch ≠ g.Ch) → l.foldl (addStep g) (true,o) = (true,o ++ l)
 | [],o,_ => by simp
 | x :: l,o,h => by
  have e : addStep g (true,o) x = (true,o ++ [x]):=by
   unfold addStep
   rw [if_neg (h x (by simp)),if_neg (by simp)]
  rw [List.foldl_cons,e,zmr g l _ fun y hy => h y (by simp [hy])]
  simp
theorem add_new (g : Gain) : ∀ (l o : List Gain),(∀ x ∈ l,x.Ch ≠ g.Ch) → addEnd g (l.foldl (addStep g) (false,o)) = o ++ insG g l
 | [],o,_ => rfl
 | x :: l,o,h => by
  have hx:=h x (by simp)
  rw [List.foldl_cons]
  by_cases hlt : g.Ch < x.Ch
  ·
   have e : addStep g (false,o) x = (true,o ++ [g] ++ [x]):=by
    unfold addStep
    rw [if_neg hx,if_pos ⟨rfl,hlt⟩]
   rw [e,zmr g l _ fun y hy => h y (by simp [hy])]
   unfold addEnd insG
   rw [if_pos rfl,if_pos hlt]
   simp
  have e : addStep g (false,o) x = (false,o ++ [x]):=by
   unfold addStep
   rw [if_neg hx,if_neg fun h' => hlt h'.2]
  have e2 : insG g (x :: l) = x :: insG g l:=by simp only [insG,if_neg hlt]
  rw [e,add_new g l _ fun y hy => h y (by simp [hy]),e2]
  simp
theorem map_atG {ch : Int} {f : Gain → Gain} {l : List Gain} (h : ∀ x ∈ l,x.Ch ≠ ch) : l.map (atG ch f) = l:=by
 conv => rhs;rw [← List.map_id l]
 refine List.map_congr_left fun x hx => ?_
 unfold atG
 rw [if_neg (h x hx)]
 rfl
theorem add_old (g : Gain) : ∀ (l o : List Gain),SG l → (∃ x ∈ l,x.Ch = g.Ch) → addEnd g (l.foldl (addStep g) (false,o)) = o ++ l.map (atG g.Ch fun x => plusG x g)
 | [],_,_,h => by obtain ⟨_,h,_⟩:=h;cases h
 | x :: l,o,hs,h => by
  obtain ⟨h1,h2⟩:=List.pairwise_cons.1 hs
  rw [List.foldl_cons,List.map_cons]
  by_cases hx : x.Ch = g.Ch
  ·
   have hn : ∀ y ∈ l,y.Ch ≠ g.Ch:=fun y hy e => by have:=h1 y hy;omega
   have e : addStep g (false,o) x = (true,o ++ [plusG x g]):=by
    unfold addStep
    rw [if_pos hx]
   rw [e,zmr g l _ hn,map_atG hn]
   unfold addEnd atG
   rw [if_pos rfl,if_pos hx]
   simp
  have hl : ∃ y ∈ l,y.Ch = g.Ch:=by
   obtain ⟨y,hy,he⟩:=h
   rcases List.mem_cons.1 hy with rfl | hy
   ·
    exact absurd he hx
   exact ⟨y,hy,he⟩
  have e : addStep g (false,o) x = (false,o ++ [x]):=by
   obtain ⟨y,hy,he⟩:=hl
   have:=h1 y hy
   unfold addStep
   rw [if_neg hx,if_neg fun h' => by have:=h'.2;omega]
  rw [e,add_old g l _ h2 hl]
  unfold atG
  rw [if_neg hx]
  simp
theorem gIx_some {l : List Gain} {ch : Int} (h : ∃ x ∈ l,x.Ch = ch) : gIx l ch < l.length∧∀ hl : gIx l ch < l.length,l[gIx l ch].Ch = ch:=by
 unfold gIx
 cases hf : l.findIdx? fun x => x.Ch == ch with
 | none =>
  rw [List.findIdx?_eq_none_iff] at hf
  obtain ⟨x,hx,he⟩:=h
  have:=hf x hx
  simp [he] at this
 | some i =>
  obtain ⟨h1,h2,_⟩:=List.findIdx?_eq_some_iff_getElem.1 hf
  exact ⟨h1,fun _ => by simpa using h2⟩
theorem gIx_none {l : List Gain} {ch : Int} (h : ∀ x ∈ l,x.Ch ≠ ch) : gIx l ch = l.length:=by
 unfold gIx
 have : (l.findIdx? fun x => x.Ch == ch) = none:=by
  rw [List.findIdx?_eq_none_iff]
  intro x hx
  simpa using h x hx
 rw [this]
 rfl
def UG (l : List Gain) : Prop:=l.Pairwise fun a b => a.Ch ≠ b.Ch
theorem modify_atG {l : List Gain} (hu : UG l) {i : Nat} (hi : i < l.length) (f : Gain → Gain) : l.modify i f = l.map (atG l[i].Ch f):=by
 refine List.ext_getElem (by simp) fun j h1 h2 => ?_
 have hj : j < l.length:=by simpa using h2
 rw [List.getElem_modify,List.getElem_map]
 unfold atG
 by_cases hij : i = j
 ·
  subst hij
  rw [if_pos rfl,if_pos rfl]
 rw [if_neg hij,if_neg]
 intro e
 rcases Nat.lt_or_gt_of_ne hij with h | h
 ·
  exact List.pairwise_iff_getElem.1 hu i j hi hj h e.symm
 exact List.pairwise_iff_getElem.1 hu j i hj hi h e
theorem bump_plus {h : Htlc} (good : Bool) {x : Gain} (hx : inG x) : bumpG h good x = plusG x (gainOf h good):=by
 obtain ⟨h1,h2,h3⟩:=hx
 unfold bumpG plusG gainOf
 cases good
 ·
  simp [h1,h2]
 simp [h3]
theorem bump_zero {h : Htlc} (ha : 0 ≤ h.AmtIn∧h.AmtIn ≤ 1125899906842624) (hb : 0 ≤ h.AmtOut∧h.AmtOut ≤ 1125899906842624) (good : Bool) : bumpG h good ⟨h.Out,0,0,0⟩ = gainOf h good:=by
 unfold bumpG gainOf
 have e1 : wr (0 + (h.AmtIn - h.AmtOut)) = h.AmtIn - h.AmtOut:=by rw [wr_in (by omega)];omega
 have e2 : wr (0 + 1) = 1:=by rw [wr_in (by omega)];omega
 cases good
 ·
  simp only [e2,Bool.false_eq_true,if_false]
 simp only [e1,e2,if_true]
theorem plus_in (x g : Gain) : inG (plusG x g):=⟨wr_in (wr_rng _),wr_in (wr_rng _),wr_in (wr_rng _)⟩
theorem gainOf_in {h : Htlc} (ha : 0 ≤ h.AmtIn∧h.AmtIn ≤ 1125899906842624) (hb : 0 ≤ h.AmtOut∧h.AmtOut ≤ 1125899906842624) (good : Bool) : inG (gainOf h good):=by
 unfold gainOf
 cases good
 ·
  exact ⟨wr_in (by simp),wr_in (by simp),wr_in (by simp)⟩
 exact ⟨wr_in (by simp only [if_true];omega),wr_in (by simp),wr_in (by simp)⟩
theorem zta (f : Gain → Gain) : ∀ (l : List Gain) (x : Gain),(l ++ [x]).modify l.length f = l ++ [f x]
 | [],_ => rfl
 | y :: l,x => by
  rw [List.cons_append,List.length_cons,List.modify_succ_cons,zta f l x]
  rfl
structure Same (I S : List Gain) : Prop where
 p : I.Perm S
 s : SG S
 n : ∀ x ∈ S,inG x
theorem SG.ug {l : List Gain} (h : SG l) : UG l:=h.imp fun h e => by omega
theorem Same.ug {I S : List Gain} (h : Same I S) : UG I:=(h.p.pairwise_iff (R:=fun a b : Gain => a.Ch ≠ b.Ch) (fun h e => h e.symm)).2 h.s.ug
theorem gainOf_ch (h : Htlc) (good : Bool) : (gainOf h good).Ch = h.Out:=by unfold gainOf;split <;> rfl
theorem Same.put {I S : List Gain} (hh : Same I S) {h : Htlc} (ha : 0 ≤ h.AmtIn∧h.AmtIn ≤ 1125899906842624) (hb : 0 ≤ h.AmtOut∧h.AmtOut ≤ 1125899906842624) (good : Bool) : Same (putG I h good) (addG S (gainOf h good)):=by
 have hc:=gainOf_ch h good
 by_cases hx : ∃ x ∈ S,x.Ch = h.Out
 rotate_left
 ·
  have hS : ∀ x ∈ S,x.Ch ≠ h.Out:=fun x h1 h2 => hx ⟨x,h1,h2⟩
  have hI : ∀ x ∈ I,x.Ch ≠ h.Out:=fun x h1 => hS x (hh.p.mem_iff.1 h1)
  have e1 : addG S (gainOf h good) = insG (gainOf h good) S:=by
   have:=add_new (gainOf h good) S [] (by rw [hc];exact hS)
   simpa [addG] using this
  have e2 : putG I h good = I ++ [gainOf h good]:=by
   unfold putG seatG
   rw [gIx_none hI,if_pos rfl,zta,bump_zero ha hb]
  rw [e1,e2]
  refine ⟨(hh.p.append_right _).trans (zvq _ _).symm,zyw _ _ hh.s (by rw [hc];exact hS),fun y hy => ?_⟩
  rcases List.mem_append.1 ((zvq _ _).mem_iff.1 hy) with h1 | h1
  ·
   exact hh.n y h1
  rw [List.mem_singleton.1 h1];exact gainOf_in ha hb good
 have hxI : ∃ x ∈ I,x.Ch = h.Out:=by
  obtain ⟨x,h1,h2⟩:=hx
  exact ⟨x,hh.p.mem_iff.2 h1,h2⟩
 obtain ⟨hl,hch⟩:=gIx_some hxI
 have e1 : addG S (gainOf h good) = S.map (atG h.Out fun x => plusG x (gainOf h good)):=by
  have:=add_old (gainOf h good) S [] hh.s (by rw [hc];exact hx)
  rw [hc] at this
  simpa [addG] using this
 have e2 : putG I h good = I.map (atG h.Out (bumpG h good)):=by
  unfold putG seatG
  rw [if_neg (by omega),modify_atG hh.ug hl,hch hl]
 have e3 : I.map (atG h.Out (bumpG h good)) = I.map (atG h.Out fun x => plusG x (gainOf h good)):=by
  refine List.map_congr_left fun x hxm => ?_
  unfold atG
  split
  ·
   exact bump_plus good (hh.n x (hh.p.mem_iff.1 hxm))
  rfl
 have idf : ∀ x,(atG h.Out (fun x => plusG x (gainOf h good)) x).Ch = x.Ch:=fun x => by unfold atG;split <;> rfl
 rw [e1,e2,e3]
 refine ⟨hh.p.map _,?_,fun y hy => ?_⟩
 ·
  unfold SG
  rw [List.pairwise_map]
  have hs:=hh.s
  unfold SG at hs
  simpa only [idf] using hs
 obtain ⟨x,hxm,rfl⟩:=List.mem_map.1 hy
 unfold atG
 split
 ·
  exact plus_in _ _
 exact hh.n x hxm
theorem Same.ev {I S : List Gain} (hh : Same I S) {b : Bk} (hb : b.ok = true) (e : Event) : Same (putEv b.hs e I) (gainEv b.hs e S):=by
 cases hf : htlcF b.hs e.Key with
 | none =>
  unfold putEv gainEv
  rw [hf]
  exact hh
 | some h =>
  obtain ⟨-,ha,hb'⟩:=zkk (zxw hb) (zyr hf)
  unfold putEv gainEv
  rw [hf]
  simp only
  by_cases h6 : e.Kind = 6
  ·
   rw [if_pos h6,if_pos h6]
   exact hh.put ha hb' true
  rw [if_neg h6,if_neg h6]
  by_cases h7 : e.Kind = 7
  ·
   rw [if_pos h7,if_pos h7]
   exact hh.put ha hb' false
  rw [if_neg h7,if_neg h7]
  exact hh
theorem Same.fold : ∀ (es : List Event) (b : Bk) (I S : List Gain),Same I S → Same (es.foldl gainStepI (b,I)).2 (es.foldl gainStep (b,S)).2∧(es.foldl gainStepI (b,I)).1 = (es.foldl gainStep (b,S)).1
 | [],_,_,_,h => ⟨h,rfl⟩
 | e :: es,b,I,S,h => by
  rw [List.foldl_cons,List.foldl_cons]
  unfold gainStepI gainStep
  simp only
  by_cases hc : (applyS b e).code = 0
  ·
   rw [if_pos hc,if_pos hc]
   exact Same.fold es _ _ _ (h.ev (zyj hc) e)
  rw [if_neg hc,if_neg hc]
  exact Same.fold es _ _ _ h
theorem gains_same (es : List Event) : Same (gainsI es) (gainsF es):=(Same.fold es bk1 [] [] ⟨.refl _,.nil,by simp⟩).1
theorem gains_order {es : List Event} {L : List Gain} (hp : L.Perm (gainsI es)) (hs : L.Pairwise fun a b => a.Ch ≤ b.Ch) : L = gainsF es:=by
 have hh:=gains_same es
 have hq : L.Perm (gainsF es):=hp.trans hh.p
 have hu : UG L:=(hq.pairwise_iff (R:=fun a b : Gain => a.Ch ≠ b.Ch) (fun h e => h e.symm)).2 hh.s.ug
 have h1 : L.Pairwise fun a b => a.Ch < b.Ch:=by
  rw [List.pairwise_iff_getElem]
  intro i j hi hj hij
  have a1:=List.pairwise_iff_getElem.1 hs i j hi hj hij
  have a2:=List.pairwise_iff_getElem.1 hu i j hi hj hij
  omega
 exact List.Perm.eq_of_pairwise (le:=fun a b : Gain => a.Ch < b.Ch) (fun a b _ _ h1 h2 => by omega) h1 hh.s hq
/-! ### what the walk asks -/
theorem putG_len (l : List Gain) (h : Htlc) (good : Bool) : (putG l h good).length ≤ l.length + 1:=by
 unfold putG seatG
 rw [List.length_modify]
 split <;> simp
theorem zsg (hs : List Htlc) (e : Event) (l : List Gain) : (putEv hs e l).length ≤ l.length + 1:=by
 unfold putEv
 split
 ·
  split
  ·
   exact putG_len _ _ _
  split
  ·
   exact putG_len _ _ _
  omega
 omega
theorem zwz : ∀ (es : List Event) (s : Bk × List Gain),(es.foldl gainStepI s).2.length ≤ s.2.length + es.length
 | [],_ => by simp
 | e :: es,s => by
  rw [List.foldl_cons]
  have h1:=zwz es (gainStepI s e)
  have h2 : (gainStepI s e).2.length ≤ s.2.length + 1:=by
   unfold gainStepI
   split
   ·
    exact zsg _ _ _
   omega
  rw [List.length_cons]
  omega
theorem gainsI_len (es : List Event) : (gainsI es).length ≤ es.length:=by
 have:=zwz es (bk1,[])
 simpa [gainsI] using this
theorem settled {b : Bk} {e : Event} (hk : e.Kind = 6 ∨ e.Kind = 7) (hc : (applyS b e).code = 0) : ∃ i : Nat,∃ h : i < b.hs.length,hAt b.hs e.Key = (i : Int)∧htlcF b.hs e.Key = some b.hs[i]:=by
 have hok : (b.ok && evB e) = true:=by
  cases h : b.ok && evB e with
  | true => rfl
  | false => rw [zvx h] at hc;cases hc
 have hb : b.ok = true:=((Bool.and_eq_true _ _).mp hok).1
 have hF:=zxw hb
 have hn : b.n ≠ 1125899906842624:=fun h => by rw [zww hok h] at hc;cases hc
 rw [zvy hok hn] at hc
 have hl : stepS b e = settleS b e.Key true ∨ stepS b e = settleS b e.Key false:=by
  unfold stepS
  rcases hk with hk | hk
  ·
   rw [if_neg (by omega),if_neg (by omega),if_neg (by omega),if_neg (by omega),if_neg (by omega),if_pos hk];exact .inl rfl
  rw [if_neg (by omega),if_neg (by omega),if_neg (by omega),if_neg (by omega),if_neg (by omega),if_neg (by omega),if_pos hk];exact .inr rfl
 have h0 : ¬ hAt b.hs e.Key < 0:=fun h => by
  have:=zgl h
  rcases hl with hl | hl
  ·
   rw [hl,zwg this] at hc;cases hc
  rw [hl,zwg this] at hc;cases hc
 obtain ⟨i,hi⟩:=Int.eq_ofNat_of_zero_le (show 0 ≤ hAt b.hs e.Key by omega)
 obtain ⟨hlt,hkey⟩:=zpb hi
 refine ⟨i,hlt,hi,?_⟩
 cases hf : htlcF b.hs e.Key with
 | none =>
  unfold htlcF at hf
  rw [List.find?_eq_none] at hf
  exact absurd (by simpa using hkey) (hf _ (List.getElem_mem hlt))
 | some x =>
  have hm:=zyr hf
  have hx : x.Key = e.Key:=by
   unfold htlcF at hf
   simpa using List.find?_some hf
  obtain ⟨j,hj,rfl⟩:=List.mem_iff_getElem.1 hm
  rcases Nat.lt_trichotomy i j with h' | h' | h'
  ·
   exact absurd (hkey.trans hx.symm) (hs_ne hF h' hj)
  ·
   subst h';rfl
  exact absurd (hx.trans hkey.symm) (hs_ne hF h' hlt)
def rtIn (ten : Bool) (key : Int) (st : Int × Int) (o : Circle) : Int × Int:=if (ten && o.Key == key) = true then (wrap64 (st.1 + 1),wrap64 (st.2 + o.Fee)) else st
def rtStep (st : (Int × Int) × Bk) (e : Event) : (Int × Int) × Bk:=if (applyS st.2 e).code = 0 then (st.2.os.foldl (rtIn (e.Kind == 10) e.Key) st.1,(applyS st.2 e).b) else st
def rtBk : Bk:=⟨0,1,0,[],[],[]⟩
def rtF (es : List Event) : (Int × Int) × Bk:=es.foldl rtStep ((0,0),rtBk)
theorem rtIn_no {key : Int} : ∀ (l : List Circle) (st : Int × Int),(∀ x ∈ l,x.Key ≠ key) → l.foldl (rtIn true key) st = st
  | [],_,_ => rfl
  | x :: l,st,h => by
    have e : rtIn true key st x = st:=by
      unfold rtIn
      rw [if_neg (by simpa using h x (by simp))]
    rw [List.foldl_cons,e]
    exact rtIn_no l st (fun y hy => h y (by simp [hy]))
theorem zpl (key : Int) : ∀ (l : List Circle) (st : Int × Int),l.foldl (rtIn false key) st = st
  | [],_ => rfl
  | x :: l,st => by
    rw [List.foldl_cons]
    exact zpl key l st
theorem rt_land {b : Bk} {e : Event} (hk : e.Kind = 10) (hc : (applyS b e).code = 0) (st : Int × Int) : ∃ i : Nat,∃ h : i < b.os.length,oAt b.os e.Key = (i : Int)∧b.os.foldl (rtIn true e.Key) st = (wrap64 (st.1 + 1),wrap64 (st.2 + b.os[i].Fee)):=by
  have hok : (b.ok && evB e) = true:=by
    cases h : b.ok && evB e with
    | true => rfl
    | false => rw [zvx h] at hc;cases hc
  have hb : b.ok = true:=((Bool.and_eq_true _ _).mp hok).1
  have hF:=zxw hb
  have hn : b.n ≠ 1125899906842624:=fun h => by rw [zww hok h] at hc;cases hc
  rw [zvy hok hn] at hc
  have hl : stepS b e = landS b e.Key true:=by
    unfold stepS
    rw [if_neg (by omega),if_neg (by omega),if_neg (by omega),if_neg (by omega),if_neg (by omega),if_neg (by omega),if_neg (by omega),if_neg (by omega),if_neg (by omega),if_pos hk]
  rw [hl] at hc
  have h0 : ¬ oAt b.os e.Key < 0:=fun h => by
    have:=zsd h
    unfold landS at hc
    rw [if_pos this] at hc
    cases hc
  obtain ⟨i,hi⟩:=Int.eq_ofNat_of_zero_le (show 0 ≤ oAt b.os e.Key by omega)
  obtain ⟨hlt,hkey⟩:=zpi hi
  refine ⟨i,hlt,hi,?_⟩
  have hA : ∀ x ∈ b.os.take i,x.Key ≠ e.Key:=by
    intro x hx
    obtain ⟨j,hj,rfl⟩:=List.mem_take_iff_getElem.1 hx
    rw [← hkey]
    exact os_ne hF (by omega) hlt
  have hB : ∀ x ∈ b.os.drop (i + 1),x.Key ≠ e.Key:=by
    intro x hx
    obtain ⟨j,hj,rfl⟩:=List.mem_iff_getElem.1 hx
    rw [List.length_drop] at hj
    rw [List.getElem_drop,← hkey]
    exact (os_ne hF (show i < i + 1 + j by omega) (by omega)).symm
  have e1 : b.os.foldl (rtIn true e.Key) st = (b.os.take i ++ b.os[i] :: b.os.drop (i + 1)).foldl (rtIn true e.Key) st:=by rw [← zwh hlt]
  have e2 : rtIn true e.Key st b.os[i] = (wrap64 (st.1 + 1),wrap64 (st.2 + b.os[i].Fee)):=by
    unfold rtIn
    rw [if_pos (by rw [hkey];simp)]
  rw [e1,List.foldl_append,rtIn_no _ _ hA,List.foldl_cons,e2,rtIn_no _ _ hB]
def sumBal (k c : Int) (ps : List (Int × List Line)) : Int:=(ps.map fun p => bal k c p.2).sum
theorem sumBal_snoc (k c : Int) (ps : List (Int × List Line)) (p : Int × List Line) : sumBal k c (ps ++ [p]) = sumBal k c ps + bal k c p.2:=by
 unfold sumBal
 rw [List.map_append,List.sum_append]
 simp
theorem zhg {n : Int} (h : rangeB n = true) : -1125899906842624 ≤ n∧n ≤ 1125899906842624:=by
 unfold rangeB at h
 exact zjj.1 h
theorem zyb {k c : Int} : ∀ (ps : List (Int × List Line)) (z : Int) (l : List Line) (n : Int),ledgerB z l = true → (pAll ps z l n).2.2 = n + ps.length →
  ledgerB (pAll ps z l n).1 (pAll ps z l n).2.1 = true∧bal k c (pAll ps z l n).2.1 = bal k c l + sumBal k c ps∧∀ i,i ≤ ps.length → rangeB (bal k c l + sumBal k c (ps.take i)) = true
 | [],z,l,n,h,_ => by
  refine ⟨h,by simp [pAll,sumBal],fun i hi => ?_⟩
  have : sumBal k c (([] : List (Int × List Line)).take i) = 0:=by simp [sumBal]
  rw [this,Int.add_zero]
  exact zpw (ledgerB_iff.1 h).2.2
 | p :: ps,z,l,n,h,hn => by
  rw [pAll] at hn ⊢
  by_cases hc : postCode z l p.1 p.2 = 0
  rotate_left
  ·
   rw [if_neg hc] at hn
   have:=zpk ps z l n
   simp only [List.length_cons] at hn
   omega
  rw [if_pos hc] at hn ⊢
  obtain ⟨_,p2,_,M,_,p5,p6⟩:=post_ok hc
  rw [p5] at hn ⊢
  have hn' : (pAll ps p.1 (postL z l p.1 p.2) (n + 1)).2.2 = n + 1 + ps.length:=by
   rw [hn];simp only [List.length_cons];omega
  have hb:=M.bal k c
  obtain ⟨i1,i2,i3⟩:=zyb (k:=k) (c:=c) ps p.1 (postL z l p.1 p.2) (n + 1) p6 hn'
  have hs : sumBal k c (p :: ps) = bal k c p.2 + sumBal k c ps:=by simp [sumBal]
  refine ⟨i1,by rw [i2,hb,hs];omega,fun i hi => ?_⟩
  cases i with
  | zero =>
   have : sumBal k c ((p :: ps).take 0) = 0:=by simp [sumBal]
   rw [this,Int.add_zero]
   exact zpw (ledgerB_iff.1 h).2.2
  | succ i =>
   have h1:=i3 i (by simpa using hi)
   have h2 : sumBal k c ((p :: ps).take (i + 1)) = bal k c p.2 + sumBal k c (ps.take i):=by simp [sumBal]
   rw [h2,show bal k c l + (bal k c p.2 + sumBal k c (ps.take i)) = bal k c (postL z l p.1 p.2) + sumBal k c (ps.take i) by rw [hb];omega]
   exact h1
theorem zvn (k c : Int) : ∀ l : List Line,bal k c (nz l) = bal k c l
 | [] => rfl
 | x :: l => by
  rw [zph]
  split
  ·
   rename_i h
   rw [zvn k c l,bal,h]
   split <;> omega
  rw [bal,bal,zvn k c l]
theorem step_of {b : Bk} {e : Event} (hc : (applyS b e).code = 0) : applyS b e = stepS b e∧b.ok = true∧evB e = true:=by
 have hok : (b.ok && evB e) = true:=by
  cases h : b.ok && evB e with
  | true => rfl
  | false => rw [zvx h] at hc;cases hc
 have hn : b.n ≠ 1125899906842624:=fun h => by rw [zww hok h] at hc;cases hc
 obtain ⟨h1,h2⟩:=(Bool.and_eq_true _ _).mp hok
 exact ⟨zvy hok hn,h1,h2⟩
theorem inc_of {b : Bk} {e : Event} (hc : (applyS b e).code = 0) : bal 3 0 (applyS b e).l = (if e.Kind = 6 then (lastH b.hs e.Key).AmtOut - (lastH b.hs e.Key).AmtIn else 0)∧bal 4 0 (applyS b e).l = (if e.Kind = 10 then (lastC b.os e.Key).Fee else 0):=by
 obtain ⟨h0,-,-⟩:=step_of hc
 rw [h0] at hc ⊢
 unfold stepS at hc ⊢
 split
 ·
  rename_i hk
  rw [if_neg (by omega),if_neg (by omega)]
  rw [if_pos hk] at hc
  unfold depB at hc ⊢
  split
  ·
   rename_i h;rw [if_pos h] at hc;cases hc
  simp [done,zvn,bal]
 rename_i k1
 rw [if_neg k1] at hc
 split
 ·
  rename_i hk
  rw [if_neg (by omega),if_neg (by omega)]
  rw [if_pos hk] at hc
  unfold openB at hc ⊢
  (repeat' split) <;> first | (exfalso;revert hc;simp [*,bad];done) | simp [done,zvn,bal]
 rename_i k2
 rw [if_neg k2] at hc
 split
 ·
  rename_i hk
  rw [if_neg (by omega),if_neg (by omega)]
  rw [if_pos hk] at hc
  unfold closeA closeB at hc ⊢
  (repeat' split) <;> first | (exfalso;revert hc;simp [*,bad];done) | simp [done,zvn,bal]
 rename_i k3
 rw [if_neg k3] at hc
 split
 ·
  rename_i hk
  rw [if_neg (by omega),if_neg (by omega)]
  unfold priceB
  split <;> simp [done,bad,bal]
 rename_i k4
 rw [if_neg k4] at hc
 split
 ·
  rename_i hk
  rw [if_neg (by omega),if_neg (by omega)]
  unfold admitS
  (repeat' split) <;> simp [done,bad,zvn,bal]
 rename_i k5
 rw [if_neg k5] at hc
 split
 ·
  rename_i hk
  rw [if_neg (show ¬ e.Kind = 10 by omega)]
  rw [if_pos hk] at hc
  unfold settleS at hc ⊢
  split
  ·
   rename_i h;rw [if_pos h] at hc;cases hc
  simp [done,zvn,bal]
 rename_i k6
 rw [if_neg k6] at hc
 split
 ·
  rename_i hk
  rw [if_neg (show ¬ e.Kind = 10 by omega)]
  unfold settleS
  (repeat' split) <;> first | (simp [done,bad,zvn,bal];done) | (rename_i h;exact absurd h (by decide))
 rename_i k7
 rw [if_neg k7] at hc
 split
 ·
  rename_i hk
  rw [if_neg (show ¬ e.Kind = 10 by omega)]
  unfold tickB
  split <;> simp [done,bad,bal]
 rename_i k8
 rw [if_neg k8] at hc
 split
 ·
  rename_i hk
  rw [if_neg (show ¬ e.Kind = 10 by omega)]
  unfold launchS
  (repeat' split) <;> simp [done,bad,zvn,bal]
 rename_i k9
 rw [if_neg k9] at hc
 split
 ·
  rename_i hk
  rw [if_pos hk] at hc
  unfold landS at hc ⊢
  split
  ·
   rename_i h;rw [if_pos h] at hc;cases hc
  simp [done,zvn,bal]
 rename_i k10
 unfold landS
 (repeat' split) <;> first | (simp [done,bad,zvn,bal];done) | (rename_i h;exact absurd h (by decide))
def feeSum (l : List Gain) : Int:=(l.map Gain.Fees).sum
theorem zjm (x : Gain) (l : List Gain) : feeSum (x :: l) = x.Fees + feeSum l:=by simp [feeSum]
theorem zty : ∀ l : List Gain,(∀ x ∈ l,0 ≤ x.Fees) → 0 ≤ feeSum l
 | [],_ => by simp [feeSum]
 | x :: l,h => by
  rw [zjm]
  have h1:=h x (by simp)
  have h2:=zty l fun y hy => h y (by simp [hy])
  omega
theorem zhk : ∀ (l : List Gain),(∀ x ∈ l,0 ≤ x.Fees) → ∀ x ∈ l,x.Fees ≤ feeSum l
 | y :: l,h,x,hx => by
  rw [zjm]
  have h1:=h y (by simp)
  have h2:=zty l fun z hz => h z (by simp [hz])
  rcases List.mem_cons.1 hx with rfl | hx
  ·
   omega
  have:=zhk l (fun z hz => h z (by simp [hz])) x hx
  omega
theorem ztx (g : Gain) : ∀ l : List Gain,feeSum (insG g l) = feeSum l + g.Fees
 | [] => by simp [insG,feeSum]
 | x :: l => by
  unfold insG
  split
  ·
   rw [zjm];omega
  rw [zjm,ztx g l,zjm];omega
theorem zgh {g : Gain} : ∀ l : List Gain,SG l → (∃ x ∈ l,x.Ch = g.Ch) → (∀ x ∈ l,wr (x.Fees + g.Fees) = x.Fees + g.Fees) → feeSum (l.map (atG g.Ch fun x => plusG x g)) = feeSum l + g.Fees
 | [],_,h,_ => by obtain ⟨_,h,_⟩:=h;cases h
 | x :: l,hs,h,hw => by
  obtain ⟨h1,h2⟩:=List.pairwise_cons.1 hs
  rw [List.map_cons,zjm,zjm]
  by_cases hx : x.Ch = g.Ch
  ·
   have e : (atG g.Ch (fun x => plusG x g) x).Fees = x.Fees + g.Fees:=by
    unfold atG
    rw [if_pos hx]
    exact hw x (by simp)
   rw [e,map_atG fun y hy e => by have:=h1 y hy;omega]
   omega
  have e : (atG g.Ch (fun x => plusG x g) x).Fees = x.Fees:=by
   unfold atG
   rw [if_neg hx]
  have hl : ∃ y ∈ l,y.Ch = g.Ch:=by
   obtain ⟨y,hy,he⟩:=h
   rcases List.mem_cons.1 hy with rfl | hy
   ·
    exact absurd he hx
   exact ⟨y,hy,he⟩
  rw [e,zgh l h2 hl fun y hy => hw y (by simp [hy])]
  omega
theorem ztw {l : List Gain} {g : Gain} (hs : SG l) (h0 : ∀ x ∈ l,0 ≤ x.Fees) (hg : 0 ≤ g.Fees) (hm : feeSum l + g.Fees ≤ 1125899906842624) : feeSum (addG l g) = feeSum l + g.Fees∧∀ x ∈ addG l g,0 ≤ x.Fees:=by
 have hw : ∀ x ∈ l,wr (x.Fees + g.Fees) = x.Fees + g.Fees:=fun x hx => wr_in (by have:=zhk l h0 x hx;have:=h0 x hx;omega)
 by_cases hx : ∃ x ∈ l,x.Ch = g.Ch
 ·
  have e1 : addG l g = l.map (atG g.Ch fun x => plusG x g):=by simpa [addG] using add_old g l [] hs hx
  rw [e1]
  refine ⟨zgh l hs hx hw,fun y hy => ?_⟩
  obtain ⟨x,hxm,rfl⟩:=List.mem_map.1 hy
  unfold atG
  split
  ·
   show 0 ≤ wr (x.Fees + g.Fees)
   rw [hw x hxm]
   have:=h0 x hxm
   omega
  exact h0 x hxm
 have hS : ∀ x ∈ l,x.Ch ≠ g.Ch:=fun x h1 h2 => hx ⟨x,h1,h2⟩
 have e1 : addG l g = insG g l:=by simpa [addG] using add_new g l [] hS
 rw [e1]
 refine ⟨ztx g l,fun y hy => ?_⟩
 rcases List.mem_append.1 ((zvq g l).mem_iff.1 hy) with h1 | h1
 ·
  exact h0 y h1
 rw [List.mem_singleton.1 h1];exact hg
theorem zhp (k c : Int) (b : Bk) (e : Event) (ps : List (Int × List Line)) : sumBal k c (psStep b e ps) = sumBal k c ps + (if (applyS b e).code = 0 then bal k c (applyS b e).l else 0):=by
 unfold psStep
 by_cases hc : (applyS b e).code = 0
 ·
  rw [if_pos hc]
  by_cases hl : (applyS b e).l = []
  ·
   rw [if_neg fun h => h.2 hl,hl,bal];omega
  rw [if_pos ⟨hc,hl⟩,sumBal_snoc]
 rw [if_neg hc,if_neg fun h => hc h.1];omega
theorem ztu : ∀ (es : List Event) (s : Bk × List (Int × List Line) × List Int),∃ rest,(es.foldl allStep s).2.1 = s.2.1 ++ rest
 | [],s => ⟨[],by simp⟩
 | e :: es,s => by
  obtain ⟨r,hr⟩:=ztu es (allStep s e)
  rw [List.foldl_cons,hr]
  unfold allStep psStep
  simp only
  split
  ·
   exact ⟨_ :: r,by rw [List.append_assoc];rfl⟩
  exact ⟨r,rfl⟩
structure Books (b : Bk) (l : List Gain) (rt : Int × Int) (ps : List (Int × List Line)) : Prop where
 s : Same l l
 fees : feeSum l = -sumBal 3 0 ps
 pos : ∀ x ∈ l,0 ≤ x.Fees
 paid : rt.2 = sumBal 4 0 ps
theorem Books.step {b : Bk} {l : List Gain} {rt : Int × Int} {ps : List (Int × List Line)} (h : Books b l rt ps) (e : Event) (h3 : rangeB (sumBal 3 0 (psStep b e ps)) = true) (h4 : rangeB (sumBal 4 0 (psStep b e ps)) = true) :
  Books (nextB b e) (gainStep (b,l) e).2 (rtStep (rt,b) e).1 (psStep b e ps)∧(gainStep (b,l) e).1 = nextB b e∧(rtStep (rt,b) e).2 = nextB b e:=by
 rw [zhp] at h3 h4
 have m3:=zhp 3 0 b e ps
 have m4:=zhp 4 0 b e ps
 unfold gainStep rtStep nextB
 simp only
 by_cases hc : (applyS b e).code = 0
 rotate_left
 ·
  rw [if_neg hc] at m3 m4
  rw [if_neg hc,if_neg hc,if_neg hc]
  exact ⟨⟨h.s,by rw [m3,h.fees];omega,h.pos,by rw [m4,h.paid];omega⟩,rfl,rfl⟩
 rw [if_pos hc] at h3 h4 m3 m4
 rw [if_pos hc,if_pos hc,if_pos hc]
 obtain ⟨i3,i4⟩:=inc_of hc
 rw [i3] at h3 m3
 rw [i4] at h4 m4
 obtain ⟨-,hbok,-⟩:=step_of hc
 have hF:=zxw hbok
 refine ⟨?_,rfl,rfl⟩
 have hpaid : (b.os.foldl (rtIn (e.Kind == 10) e.Key) rt).2 = sumBal 4 0 (psStep b e ps):=by
  by_cases hk : e.Kind = 10
  ·
   obtain ⟨i,hi,ho,hf⟩:=rt_land hk hc rt
   obtain ⟨f1,-⟩:=os_found hF ho hi
   rw [if_pos hk,f1] at h4 m4
   rw [show (e.Kind == 10) = true by rw [hk];rfl,hf,m4,h.paid]
   have:=zhg h4
   exact IntWalk.wrap64_in _ ⟨by omega,by omega⟩
  rw [if_neg hk] at m4
  rw [show (e.Kind == 10) = false by simpa using hk,zpl,m4,h.paid]
  omega
 by_cases h6 : e.Kind = 6
 ·
  obtain ⟨i,hi,ha,hf⟩:=settled (.inl h6) hc
  obtain ⟨f1,-⟩:=hs_found hF ha hi
  obtain ⟨-,q1,q2⟩:=zkk hF (List.getElem_mem hi)
  have hio : b.hs[i].AmtOut ≤ b.hs[i].AmtIn:=by
   have hp:=hF.parts
   simp only [partsB,Bool.and_eq_true] at hp
   have h1:=List.all_eq_true.1 hp.1.1 _ (List.getElem_mem hi)
   simp only [htlcB,Bool.and_eq_true,zjj] at h1
   omega
  rw [if_pos h6,f1] at h3 m3
  have hgo : gainEv b.hs e l = addG l (gainOf b.hs[i] true):=by
   unfold gainEv
   rw [hf]
   simp only
   rw [if_pos h6]
  have hge : (gainOf b.hs[i] true).Fees = b.hs[i].AmtIn - b.hs[i].AmtOut:=rfl
  have hr3:=zhg h3
  have hfe:=h.fees
  obtain ⟨a1,a2⟩:=ztw (g:=gainOf b.hs[i] true) h.s.s h.pos (by rw [hge];omega) (by rw [hge];omega)
  have hsame:=h.s.put q1 q2 true
  rw [hgo]
  exact ⟨⟨.refl _,hsame.s,hsame.n⟩,by rw [a1,hge,m3];omega,a2,hpaid⟩
 rw [if_neg h6] at h3 m3
 by_cases h7 : e.Kind = 7
 ·
  obtain ⟨i,hi,ha,hf⟩:=settled (.inr h7) hc
  obtain ⟨-,q1,q2⟩:=zkk hF (List.getElem_mem hi)
  have hgo : gainEv b.hs e l = addG l (gainOf b.hs[i] false):=by
   unfold gainEv
   rw [hf]
   simp only
   rw [if_neg h6,if_pos h7]
  have hge : (gainOf b.hs[i] false).Fees = 0:=rfl
  have hr3:=zhg h3
  have hfe:=h.fees
  obtain ⟨a1,a2⟩:=ztw (g:=gainOf b.hs[i] false) h.s.s h.pos (by rw [hge];omega) (by rw [hge];omega)
  have hsame:=h.s.put q1 q2 false
  rw [hgo]
  exact ⟨⟨.refl _,hsame.s,hsame.n⟩,by rw [a1,hge,m3];omega,a2,hpaid⟩
 have hgo : gainEv b.hs e l = l:=by
  unfold gainEv
  split
  ·
   rw [if_neg h6,if_neg h7]
  rfl
 rw [hgo]
 exact ⟨h.s,by rw [m3,h.fees];omega,h.pos,hpaid⟩
theorem Books.fold : ∀ (es : List Event) (b : Bk) (l : List Gain) (rt : Int × Int) (ps : List (Int × List Line)) (cs : List Int),Books b l rt ps →
  (∀ i,i ≤ (es.foldl allStep (b,ps,cs)).2.1.length → rangeB (sumBal 3 0 ((es.foldl allStep (b,ps,cs)).2.1.take i)) = true) → (∀ i,i ≤ (es.foldl allStep (b,ps,cs)).2.1.length → rangeB (sumBal 4 0 ((es.foldl allStep (b,ps,cs)).2.1.take i)) = true) →
  Books (es.foldl allStep (b,ps,cs)).1 (es.foldl gainStep (b,l)).2 (es.foldl rtStep (rt,b)).1 (es.foldl allStep (b,ps,cs)).2.1
 | [],_,_,_,_,_,h,_,_ => h
 | e :: es,b,l,rt,ps,cs,h,r3,r4 => by
  have hst : allStep (b,ps,cs) e = (nextB b e,psStep b e ps,cs ++ [(applyS b e).code]):=rfl
  rw [List.foldl_cons,hst] at r3 r4
  rw [List.foldl_cons,hst,List.foldl_cons,List.foldl_cons]
  obtain ⟨rest,hrest⟩:=ztu es (nextB b e,psStep b e ps,cs ++ [(applyS b e).code])
  have hp : (es.foldl allStep (nextB b e,psStep b e ps,cs ++ [(applyS b e).code])).2.1.take (psStep b e ps).length = psStep b e ps:=by
   rw [hrest]
   simp
  have hle : (psStep b e ps).length ≤ (es.foldl allStep (nextB b e,psStep b e ps,cs ++ [(applyS b e).code])).2.1.length:=by
   rw [hrest]
   simp
  obtain ⟨k1,k2,k3⟩:=h.step e (by rw [← hp];exact r3 _ hle) (by rw [← hp];exact r4 _ hle)
  have e1 : gainStep (b,l) e = (nextB b e,(gainStep (b,l) e).2):=by rw [← k2]
  have e2 : rtStep (rt,b) e = ((rtStep (rt,b) e).1,nextB b e):=by rw [← k3]
  rw [e1,e2]
  exact Books.fold es _ _ _ _ _ k1 r3 r4
theorem feesTo_sum (l : List Gain) : feesTo l = feeSum l:=by
 have h : ∀ (l : List Gain) (z : Int),l.foldl (fun s g => s + g.Fees) z = z + feeSum l:=by
  intro l
  induction l with
  | nil => intro z;simp [feeSum]
  | cons x l ih => intro z;rw [List.foldl_cons,ih,zjm];omega
 unfold feesTo
 rw [h]
 omega
theorem income_law (es : List Event) (hn : (pAll (allF bk1 es).2.1 0 [] 0).2.2 = ((allF bk1 es).2.1.length : Int)) :
  gainSum (gainsF es) = -balB (pAll (allF bk1 es).2.1 0 [] 0).1 (pAll (allF bk1 es).2.1 0 [] 0).2.1 3 0∧(rtF es).1.2 = balB (pAll (allF bk1 es).2.1 0 [] 0).1 (pAll (allF bk1 es).2.1 0 [] 0).2.1 4 0:=by
 obtain ⟨a1,a2,a3⟩:=zyb (k:=3) (c:=0) (allF bk1 es).2.1 0 [] 0 zvf (by rw [hn];omega)
 obtain ⟨-,b2,b3⟩:=zyb (k:=4) (c:=0) (allF bk1 es).2.1 0 [] 0 zvf (by rw [hn];omega)
 have z3 : bal 3 0 [] = 0:=rfl
 have z4 : bal 4 0 [] = 0:=rfl
 have hb0 : Books bk1 [] (0,0) []:=⟨⟨.refl _,.nil,by simp⟩,by simp [feeSum,sumBal],by simp,by simp [sumBal]⟩
 have h:=Books.fold es bk1 [] (0,0) [] [] hb0 (fun i hi => by have:=a3 i hi;rw [z3,Int.zero_add] at this;exact this) (fun i hi => by have:=b3 i hi;rw [z4,Int.zero_add] at this;exact this)
 have hf:=h.fees
 have hr:=zhg (a3 _ (Nat.le_refl _))
 rw [z3,List.take_length] at hr
 have bl : ∀ k,accB k 0 = true → balB (pAll (allF bk1 es).2.1 0 [] 0).1 (pAll (allF bk1 es).2.1 0 [] 0).2.1 k 0 = bal k 0 (pAll (allF bk1 es).2.1 0 [] 0).2.1:=fun k hk => by
  unfold balB
  rw [if_pos ⟨a1,hk⟩]
  exact zpa (linesB_iff.1 (ledgerB_iff.1 a1).2.2).2.1
 rw [bl 3 (by decide),bl 4 (by decide),a2,b2,z3,z4]
 have hff : feeSum (gainsF es) = -sumBal 3 0 (allF bk1 es).2.1:=hf
 constructor
 ·
  have hpos : ∀ x ∈ gainsF es,0 ≤ x.Fees:=h.pos
  have hall : (gainsF es).all feeG = true:=by
   rw [List.all_eq_true]
   intro x hx
   unfold feeG
   exact zja.2 ⟨hpos x hx,by have:=zhk _ hpos x hx;omega⟩
  unfold gainSum
  rw [feesTo_sum,if_pos ⟨hall,by omega⟩,hff]
  omega
 have : (rtF es).1.2 = sumBal 4 0 (allF bk1 es).2.1:=h.paid
 rw [this]
 omega
end Go.Proofs.YtdbmkfmenfcbiaaGreat
namespace Go.Proofs.YtdbmkfmenfcbiaaGreat
open Go.RowKit Go.Deep
structure Two (B G1 G2 : Nat) (w w' : World) : Prop where
 b : Below B w w'
 o : ∀ k x,k ≠ G1 → k ≠ G2 → w.heap[k]? = some x → w'.heap[k]? = some x
section
variable {B G1 G2 : Nat} {w w' w'' : World}
theorem Two.refl (B G1 G2 : Nat) (w : World) : Two B G1 G2 w w:=⟨Below.refl _ _,fun _ _ _ _ h => h⟩
theorem Two.trans (h : Two B G1 G2 w w') (h' : Two B G1 G2 w' w'') : Two B G1 G2 w w'':=⟨h.b.trans h'.b,fun k x h1 h2 hk => h'.o k x h1 h2 (h.o k x h1 h2 hk)⟩
theorem Two.below (hb : Below w.heap.size w w') (hB : B ≤ w.heap.size) : Two B G1 G2 w w':=⟨hb.mono hB,fun k _ _ _ hk => (hb.block k (gz_ hk).1).trans hk⟩
theorem Two.set1 (hB : B ≤ G1) (u : Value) : Two B G1 G2 w (w.setCell ⟨G1,0,none⟩ u):=⟨(Below.refl B w).setCell hB _,fun _ _ h1 _ hk => zqb h1 hk⟩
theorem Two.set2 (hB : B ≤ G2) (u : Value) : Two B G1 G2 w (w.setCell ⟨G2,0,none⟩ u):=⟨(Below.refl B w).setCell hB _,fun _ _ _ h2 hk => zqb h2 hk⟩
theorem Two.drew (h : Two B G1 G2 w w') : Two B G1 G2 w w'.drew:=⟨h.b.drew,h.o⟩
end
theorem OwB.farB {w : World} {B G : Nat} {b : Bk} {A1 A2 A3 : Option Addr} {p1 p2 p3 : Nat} (h : OwB w B b A1 A2 A3 p1 p2 p3) (hB : G < B) (i : Nat) (u : Value) : OwB (w.setCell ⟨G,i,none⟩ u) B b A1 A2 A3 p1 p2 p3:=⟨h.c.far hB _,h.h.far hB _,h.o.far hB _⟩
set_option maxRecDepth 100000 in
set_option maxHeartbeats 4000000 in
theorem i_Rt1 (B B2 G1 G2 : Nat) (b : Bk) (C1 C2 C3 : Option Addr) (q1 q2 q3 : Nat) (e : Event) (n s : Int) (w : World) (hB1 : B ≤ G1) (hB2 : B ≤ G2) (hne : G1 ≠ G2) (hl1 : G1 < B2) (hl2 : G2 < B2) (hlo : b.os.length ≤ 1048576) (ho : OwB w B2 b C1 C2 C3 q1 q2 q3) (h1 : w.heap[G1]? = some (.cells #[.int .i64 n] 3 (0,0))) (h2 : w.heap[G2]? = some (.cells #[.int .i64 s] 3 (0,0)))
  (hf : e.Kind = 10 → ∃ i : Nat,∃ h : i < b.os.length,oAt b.os e.Key = (i : Int)∧b.os.foldl (rtIn true e.Key) (n,s) = (wrap64 (n + 1),wrap64 (s + b.os[i].Fee))) :
  Calls Tryz.prog 48 #[.agg #[.int .i64 b.t,.int .i64 b.n,.int .i64 b.w,.slice C1 b.cs.length q1,.slice C2 b.hs.length q2,.slice C3 b.os.length q3],.agg #[.int .i64 e.Kind,.int .i64 e.Key,.int .i64 e.Ch,.int .i64 e.To,.int .i64 e.Amt,.int .i64 e.Fee,.bool e.Yes],.pointer (some ⟨G1,0,none⟩),.pointer (some ⟨G2,0,none⟩)] w fun e' w' => e' = .returned (.tuple #[])∧(∃ n' s' : Int,b.os.foldl (rtIn (e.Kind == 10) e.Key) (n,s) = (n',s')∧w'.heap[G1]? = some (.cells #[.int .i64 n'] 3 (0,0))∧w'.heap[G2]? = some (.cells #[.int .i64 s'] 3 (0,0)))∧Two B G1 G2 w w':=by
 have HN_w:=hd_ h1
 have HS_w:=hd_ h2
 have O_w:=hd_ ho
 have T_w:=hd_ (Two.refl B G1 G2 w)
 have HNE:=hd_ hne
 have hg1:=(gz_ h1).1
 have hg2:=(gz_ h2).1
 clear h1 h2 ho hne
 go_enter Tryz.func48,Tryz.ntmps48
 go_upto_region 1 with fail
 refine nm_ ?_
 intro w1 hw
 obtain ⟨KB,hKB⟩ : ∃ v,v = w.heap.size:=⟨_,rfl⟩
 obtain ⟨MB,hMB⟩ : ∃ v,v = w.heap.size + 1:=⟨_,rfl⟩
 have HK1 : Hid (Hx w1 KB (bkC b C1 q1 C2 q2 C3 q3) 39):=hd_ (by rw [hw,hKB];exact zqd (by simp) (zqi rfl))
 have HM1 : Hid (Hx w1 MB (evC e) 64):=hd_ (by rw [hw,hMB];exact zqi (by first | rfl | (simp;done)))
 have HN1 : Hid (Hx w1 G1 #[.int .i64 n] 3):=hd_ (by rw [hw];exact zqd (by have:=(gz_ HN_w).1;simp;omega) (zqd (gz_ HN_w).1 HN_w))
 have HS1 : Hid (Hx w1 G2 #[.int .i64 s] 3):=hd_ (by rw [hw];exact zqd (by have:=(gz_ HS_w).1;simp;omega) (zqd (gz_ HS_w).1 HS_w))
 have O_w1 : Hid (OwB w1 B2 b C1 C2 C3 q1 q2 q3):=hd_ (by rw [hw];exact (O_w.out.alloc _).alloc _)
 have T_w1 : Hid (Two B G1 G2 w w1):=hd_ (by rw [hw];exact T_w.out.trans (Two.below (((Below.refl _ _).alloc (Nat.le_refl _) _).alloc (by simp) _) (by omega)))
 have HNMK : Hid (G1 ≠ KB∧G1 ≠ MB∧G2 ≠ KB∧G2 ≠ MB∧B ≤ w1.heap.size):=hd_ ⟨by omega,by omega,by omega,by omega,by have:=T_w1.out.b.size;omega⟩
 try rw [← hMB]
 try rw [← hKB]
 clear hw hKB hMB
 have N0 : w1.cell? ⟨G1,0,none⟩ = some (.int .i64 n):=zqc HN1 0
 have Nf:=zqm HN1
 have Nz:=(gz_ HN1).1
 have S0 : w1.cell? ⟨G2,0,none⟩ = some (.int .i64 s):=zqc HS1 0
 have Sf:=zqm HS1
 have Sz:=(gz_ HS1).1
 obtain ⟨jK,Kf,Kz⟩:=bc6_ HK1
 obtain ⟨M,Mf,Mz⟩:=bc7_ HM1
 cases t1 : (e.Kind == 10)
 ·
  go_wp2_with fail
  go_end0
  exact ⟨rfl,⟨n,s,by rw [t1];exact zpl _ _ _,HN1.out,HS1.out⟩,T_w1.out⟩
 obtain ⟨i,hlt,hix,hfold⟩:=hf (eq_of_beq t1)
 have HIX:=hd_ hix
 have HFD:=hd_ hfold
 clear hix hfold hf
 have jx0 : (0 : Int) ≤ (i : Int):=by omega
 have jx1 : (i : Int) < (b.os.length : Int):=by omega
 obtain ⟨bc,offc,hA3,hbC,c0,c1,c2,c3,c4⟩:=Circle.rd O_w1.out.rd.o hlt
 clear c0 c1 c2 c3 c4 hbC
 obtain ⟨g,hA,hBg⟩:=O_w1.out.o.headW (by rw [List.length_map];omega)
 subst hA
 clear hA3
 clear N0 S0 jK M Nf Nz Sf Sz Kf Kz Mf Mz
 have N0 : w1.cell? ⟨G1,0,none⟩ = some (.int .i64 n):=zqc HN1 0
 have Nf:=zqm HN1
 have Nz:=(gz_ HN1).1
 have S0 : w1.cell? ⟨G2,0,none⟩ = some (.int .i64 s):=zqc HS1 0
 have Sf:=zqm HS1
 have Sz:=(gz_ HS1).1
 obtain ⟨jK,Kf,Kz⟩:=bc6_ HK1
 obtain ⟨M,Mf,Mz⟩:=bc7_ HM1
 go_upto_region 3 with fail
 refine nm_ ?_
 intro w2 hw
 have HN2 : Hid (Hx w2 G1 #[.int .i64 (wrap64 (n + 1))] 3):=hd_ (by rw [hw];exact zqa HN1)
 have HS2:=hf_ hw (fun e9 => HNE.out e9.symm) HS1
 have HK2:=hf_ hw (fun e9 => HNMK.out.1 e9.symm) HK1
 have HM2:=hf_ hw (fun e9 => HNMK.out.2.1 e9.symm) HM1
 have O_w2 : Hid (OwB w2 B2 b C1 C2 (some ⟨g,0,none⟩) q1 q2 q3):=hd_ (by rw [hw];exact O_w1.out.farB hl1 _ _)
 have T_w2 : Hid (Two B G1 G2 w w2):=hd_ (by rw [hw];exact T_w1.out.trans (Two.set1 hB1 _))
 clear N0 S0 jK M Nf Nz Sf Sz Kf Kz Mf Mz
 clear hw
 have N0 : w2.cell? ⟨G1,0,none⟩ = some (.int .i64 (wrap64 (n + 1))):=zqc HN2 0
 have Nf:=zqm HN2
 have Nz:=(gz_ HN2).1
 have S0 : w2.cell? ⟨G2,0,none⟩ = some (.int .i64 s):=zqc HS2 0
 have Sf:=zqm HS2
 have Sz:=(gz_ HS2).1
 obtain ⟨jK,Kf,Kz⟩:=bc6_ HK2
 obtain ⟨M,Mf,Mz⟩:=bc7_ HM2
 have fc : w2.cell? ⟨g,i * 5 + 4,none⟩ = some (.int .i64 b.os[i].Fee):=O_w2.out.o.cellAt (show (b.os.map Circle.cells)[i]? = some b.os[i].cells by rw [List.getElem?_map,List.getElem?_eq_getElem hlt];rfl) (j:=4) (by decide)
 refine zqs (fun w' => kqi w' G1 (wrap64 (n + 1)) (kqi w' G2 s (kqiiisss w' KB b.t b.n b.w C1 b.cs.length q1 C2 b.hs.length q2 (some ⟨g,0,none⟩) b.os.length q3 (kqE w' MB e (kqio_ w' g (i * 5 + 4) (b.os[i].Fee)))))) [yF 0 11,yF 1 12,yF 2 13,yF 3 14,yF 4 15,yF 5 16,yT 6 17,yF 7 18,yF 8 19,yF 9 20,yF 10 21] rfl (by kernel_rfl) (by kernel_rfl) (by kernel_rfl) (by kernel_rfl) (by kernel_rfl) (by kernel_rfl) ⟨N0,S0,(q6_ jK (q7_ M fc))⟩ (fun hH => ?_)
 obtain ⟨w3,hwd⟩ : ∃ wd,w2.drew = wd:=⟨_,rfl⟩
 have HN3:=hr_ hwd HN2
 have HS3:=hr_ hwd HS2
 have HK3:=hr_ hwd HK2
 have HM3:=hr_ hwd HM2
 have O_w3:=obd_ hwd O_w2
 have T_w3 : Hid (Two B G1 G2 w w3):=hd_ (by rw [← hwd];exact T_w2.out.drew)
 clear N0 S0 jK M Nf Nz Sf Sz Kf Kz Mf Mz
 clear fc
 rw [hwd] at hH ⊢
 clear hwd
 have N0 : w3.cell? ⟨G1,0,none⟩ = some (.int .i64 (wrap64 (n + 1))):=zqc HN3 0
 have Nf:=zqm HN3
 have Nz:=(gz_ HN3).1
 have S0 : w3.cell? ⟨G2,0,none⟩ = some (.int .i64 s):=zqc HS3 0
 have Sf:=zqm HS3
 have Sz:=(gz_ HS3).1
 obtain ⟨jK,Kf,Kz⟩:=bc6_ HK3
 obtain ⟨M,Mf,Mz⟩:=bc7_ HM3
 have fc : w3.cell? ⟨g,i * 5 + 4,none⟩ = some (.int .i64 b.os[i].Fee):=O_w3.out.o.cellAt (show (b.os.map Circle.cells)[i]? = some b.os[i].cells by rw [List.getElem?_map,List.getElem?_eq_getElem hlt];rfl) (j:=4) (by decide)
 refine tk_ ?_
 refine ss_ (fun K hK => ?_)
 go_simp
 refine (zhn b.t b.n b.w b.cs b.hs b.os _ _ _ _ _ _ e.Key _ (by omega) O_w3.out.rd).mono ?_
 rintro e' w4 ⟨rfl,hb⟩
 rw [HIX.out]
 have HN4 : Hid (Hx w4 G1 #[.int .i64 (wrap64 (n + 1))] 3):=hd_ (zqr hb (gz_ HN3).1 HN3)
 have HS4 : Hid (Hx w4 G2 #[.int .i64 s] 3):=hd_ (zqr hb (gz_ HS3).1 HS3)
 have HK4 : Hid (Hx w4 KB (bkC b C1 q1 C2 q2 (some ⟨g,0,none⟩) q3) 39):=hd_ (zqr hb (gz_ HK3).1 HK3)
 have HM4 : Hid (Hx w4 MB (evC e) 64):=hd_ (zqr hb (gz_ HM3).1 HM3)
 have O_w4 : Hid (OwB w4 B2 b C1 C2 (some ⟨g,0,none⟩) q1 q2 q3):=hd_ (O_w3.out.below hb)
 have T_w4 : Hid (Two B G1 G2 w w4):=hd_ (T_w3.out.trans (Two.below hb (by have:=T_w3.out.b.size;omega)))
 clear N0 S0 jK M Nf Nz Sf Sz Kf Kz Mf Mz
 clear fc hb
 have N0 : w4.cell? ⟨G1,0,none⟩ = some (.int .i64 (wrap64 (n + 1))):=zqc HN4 0
 have Nf:=zqm HN4
 have Nz:=(gz_ HN4).1
 have S0 : w4.cell? ⟨G2,0,none⟩ = some (.int .i64 s):=zqc HS4 0
 have Sf:=zqm HS4
 have Sz:=(gz_ HS4).1
 obtain ⟨jK,Kf,Kz⟩:=bc6_ HK4
 obtain ⟨M,Mf,Mz⟩:=bc7_ HM4
 have fc : w4.cell? ⟨g,i * 5 + 4,none⟩ = some (.int .i64 b.os[i].Fee):=O_w4.out.o.cellAt (show (b.os.map Circle.cells)[i]? = some b.os[i].cells by rw [List.getElem?_map,List.getElem?_eq_getElem hlt];rfl) (j:=4) (by decide)
 go_simp
 refine hK.out _ _ ⟨N0,S0,(q6_ jK (q7_ M fc))⟩ (fun hH => ?_)
 clear hK K
 refine tk_ ?_
 refine Sq.done ?_
 intro KK hKK
 go_simp
 refine hKK _ _ (NoPanic.normal ?_)
 refine nm_ ?_
 intro w5 hw
 have HN5:=hf_ hw HNE HN4
 have HS5 : Hid (Hx w5 G2 #[.int .i64 (IntKind.i64.wrap (s + b.os[i].Fee))] 3):=hd_ (by rw [hw];exact zqa HS4)
 have HK5:=hf_ hw (fun e9 => HNMK.out.2.2.1 e9.symm) HK4
 have HM5:=hf_ hw (fun e9 => HNMK.out.2.2.2.1 e9.symm) HM4
 have O_w5 : Hid (OwB w5 B2 b C1 C2 (some ⟨g,0,none⟩) q1 q2 q3):=hd_ (by rw [hw];exact O_w4.out.farB hl2 _ _)
 have T_w5 : Hid (Two B G1 G2 w w5):=hd_ (by rw [hw];exact T_w4.out.trans (Two.set2 hB2 _))
 clear N0 S0 jK M Nf Nz Sf Sz Kf Kz Mf Mz
 clear hw fc
 go_wp2_with fail
 go_end0
 exact ⟨rfl,⟨wrap64 (n + 1),wrap64 (s + b.os[i].Fee),by rw [t1];exact HFD.out,HN5.out,by rw [← IntWalk.i64_left (s + b.os[i].Fee)];exact HS5.out⟩,T_w5.out⟩
end Go.Proofs.YtdbmkfmenfcbiaaGreat
