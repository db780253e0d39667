/- IAl · IEr · IOv · SAll · DrawEv · ISl · DrawEs · GnI · RtP · DrawBk · Rt1: each text proves what its theorems say, with no conditions but theirs. -/
import Derived.Test.YtdbmkfmenfcbiaaGreatRows
import Derived.Test.YtdbmkfmenfcbiaaGreatGISm
import Derived.Test.YtdbmkfmenfcbiaaGreatGM1
import Derived.Deep.Cut
import Derived.Test.YtdbmkfmenfcbiaaGreatGM4
import Derived.RegionTactic
import Derived.Test.YtdbmkfmenfcbiaaGreatGSApply
import Derived.Test.YtdbmkfmenfcbiaaGreatGM2
import Derived.Deep.CutRange
namespace Go.Proofs.YtdbmkfmenfcbiaaGreat
open Go.RowKit Go.Deep
set_option maxRecDepth 100000 in
set_option maxHeartbeats 4000000 in
theorem zmu (w0 w : World) (B X : Nat) (b : Bk) (L : List Line) (code : Int) (A1 A2 A3 A4 : Option Addr) (p1 p2 p3 p4 : Nat) (ci co : Chan) (e : Event) (hsm : Small b.hs b.os) (h : Wk 136 w0 w B X b L code A1 A2 A3 A4 p1 p2 p3 p4) :
  Calls Tryz.prog 147 #[.pointer (some ⟨X,0,none⟩),.agg #[.int .i64 ci.Id,.int .i64 ci.Size,.int .i64 ci.Local,.int .i64 ci.Remote,.int .i64 ci.Base,.int .i64 ci.Ppm,.int .i64 ci.Score],.agg #[.int .i64 co.Id,.int .i64 co.Size,.int .i64 co.Local,.int .i64 co.Remote,.int .i64 co.Base,.int .i64 co.Ppm,.int .i64 co.Score],.agg #[.int .i64 e.Kind,.int .i64 e.Key,.int .i64 e.Ch,.int .i64 e.To,.int .i64 e.Amt,.int .i64 e.Fee,.bool e.Yes]] w fun e' w' => e' = .returned (.int .i64 (roomF b.hs co e.To e.Amt ci.Score e.Yes))∧Below w.heap.size w w':=by
 have HH:=hd_ h.o.h.rd
 have HS:=hd_ hsm
 have h60:=hsm.hl
 have H:=hd_ h
 clear h hsm
 obtain ⟨ch,hch⟩ : ∃ ch,e.To = ch:=⟨_,rfl⟩
 rw [hch]
 have HCH:=hd_ hch
 clear hch
 go_enter Tryz.func147,Tryz.ntmps147
 go_upto_region 1 with fail
 refine nm_ ?_
 intro v hw
 have HVW : Hid (Wk 136 w0 v B X b L code A1 A2 A3 A4 p1 p2 p3 p4):=hd_ (by rw [hw];exact ((H.out.alloc _).alloc _).alloc _)
 have hb0 : v.heap[w.heap.size]? = some (.cells #[.int .i64 ci.Id,.int .i64 ci.Size,.int .i64 ci.Local,.int .i64 ci.Remote,.int .i64 ci.Base,.int .i64 ci.Ppm,.int .i64 ci.Score] 103 (0,0)):=by rw [hw];exact zqe (by simp;omega) (zqe (by simp) (zqk rfl))
 have hb1 : v.heap[w.heap.size + 1]? = some (.cells #[.int .i64 co.Id,.int .i64 co.Size,.int .i64 co.Local,.int .i64 co.Remote,.int .i64 co.Base,.int .i64 co.Ppm,.int .i64 co.Score] 103 (0,0)):=by rw [hw];exact zqe (by simp) (zqk (by simp))
 have hb2 : v.heap[w.heap.size + 1 + 1]? = some (.cells #[.int .i64 e.Kind,.int .i64 e.Key,.int .i64 e.Ch,.int .i64 ch,.int .i64 e.Amt,.int .i64 e.Fee,.bool e.Yes] 64 (0,0)):=by rw [hw];exact zqk (by simp)
 have hbv : Below w.heap.size w v:=by rw [hw];exact (((Below.refl _ _).alloc (Nat.le_refl _) _).alloc (by simp) _).alloc (by simp;omega) _
 have HB0:=hd_ hb0
 have HB1:=hd_ hb1
 have HB2:=hd_ hb2
 have HBV:=hd_ hbv
 clear hw hb0 hb1 hb2 hbv
 obtain ⟨a0,a1,a2,a3,a4,a5,a6,a7,af,az⟩:=HVW.out.open_
 go_wp2_with fail
 clear a0 a1 a2 a3 a4 a5 a6 a7 af az
 go_loopw [9,10,11,12,21] (fun v1 v2 v3 v4 i wr => ∃ (k : Nat) (x1 x2 x3 x4 : Int),k ≤ b.hs.length∧i = .int .i64 k∧v1 = .int .i64 x1∧v2 = .int .i64 x2∧v3 = .int .i64 x3∧v4 = .int .i64 x4∧Hid ((b.hs.take k).foldl (fewH ch) 0 = x1)∧Hid ((b.hs.take k).foldl (outH ch) 0 = x2)∧Hid ((b.hs.take k).foldl (slotFewH ch) 0 = x3)∧Hid ((b.hs.take k).foldl (slotH ch) 0 = x4)
   ∧ wr.heap[w.heap.size]? = some (.cells #[.int .i64 ci.Id,.int .i64 ci.Size,.int .i64 ci.Local,.int .i64 ci.Remote,.int .i64 ci.Base,.int .i64 ci.Ppm,.int .i64 ci.Score] 103 (0,0))
   ∧ wr.heap[w.heap.size + 1]? = some (.cells #[.int .i64 co.Id,.int .i64 co.Size,.int .i64 co.Local,.int .i64 co.Remote,.int .i64 co.Base,.int .i64 co.Ppm,.int .i64 co.Score] 103 (0,0))
   ∧ wr.heap[w.heap.size + 1 + 1]? = some (.cells #[.int .i64 e.Kind,.int .i64 e.Key,.int .i64 e.Ch,.int .i64 ch,.int .i64 e.Amt,.int .i64 e.Fee,.bool e.Yes] 64 (0,0))∧Below w.heap.size w wr) (fun _ _ _ _ i _ => b.hs.length - (intOf i).toNat)
 case atStart => exact ⟨0,_,_,_,_,Nat.zero_le _,rfl,rfl,rfl,rfl,rfl,hd_ rfl,hd_ rfl,hd_ rfl,hd_ rfl,HB0.out,HB1.out,HB2.out,HBV.out⟩
 case round =>
  obtain ⟨k,x1,x2,x3,x4,hk,rfl,rfl,rfl,rfl,rfl,H1,H2,H3,H4,hbox,hbi,hbo,hbw⟩:=hrel
  have hbz:=hbw.size
  have s6 : wr.cell? ⟨w.heap.size,6,none⟩ = some (.int .i64 ci.Score):=zqd hbox 6
  have o1 : wr.cell? ⟨w.heap.size + 1,1,none⟩ = some (.int .i64 co.Size):=zqd hbi 1
  have o0 : wr.cell? ⟨w.heap.size + 1 + 1,3,none⟩ = some (.int .i64 ch):=zqd hbo 3
  have o4 : wr.cell? ⟨w.heap.size + 1 + 1,4,none⟩ = some (.int .i64 e.Amt):=zqd hbo 4
  have o6 : wr.cell? ⟨w.heap.size + 1 + 1,6,none⟩ = some (.bool e.Yes):=zqd hbo 6
  have oz:=(gz_ hbo).1
  have iz:=(gz_ hbi).1
  have ezz:=(gz_ hbox).1
  have EH:=hd_ hbox
  have EI:=hd_ hbi
  have EO:=hd_ hbo
  clear hbox hbi hbo
  have bd1:=HS.out.few_bd ch k hk
  have bd2:=HS.out.outH_bd ch k hk
  have bd3:=zwo (hs:=b.hs) ch k hk
  have bd4:=zgn (hs:=b.hs) ch k hk
  rw [H1.out] at bd1
  rw [H2.out] at bd2
  rw [H3.out] at bd3
  rw [H4.out] at bd4
  obtain ⟨l1,u1⟩:=bd1
  obtain ⟨l2,u2⟩:=bd2
  obtain ⟨l3,u3⟩:=bd3
  obtain ⟨l4,u4⟩:=bd4
  by_cases hlt : k < b.hs.length
  ·
   obtain ⟨bb,off,rfl,hbB,c0,c1,c2,c3,c4,c5,c6⟩:=Htlc.rd (HH.out.below hbw) hlt
   obtain ⟨⟨m1,m2⟩,m3,m4⟩:=HS.out.h k hlt
   clear s6 o1 o4 o6
   have F1:=hd_ (zqp b.hs (fewH ch) 0 hlt)
   have F2:=hd_ (zqp b.hs (outH ch) 0 hlt)
   have F3:=hd_ (zqp b.hs (slotFewH ch) 0 hlt)
   have F4:=hd_ (zqp b.hs (slotH ch) 0 hlt)
   cases tx : (b.hs[k].Out == ch)
   ·
    have tn : (b.hs[k].Out != ch) = true:=by simp [bne,tx]
    have K1:=hd_ (show fewH ch x1 b.hs[k] = x1 by simp [fewH,tx])
    have K2:=hd_ (show outH ch x2 b.hs[k] = x2 by simp [outH,tx])
    have K3:=hd_ (show slotFewH ch x3 b.hs[k] = x3 by simp [slotFewH,tx])
    have K4:=hd_ (show slotH ch x4 b.hs[k] = x4 by simp [slotH,tx])
    clear tx
    go_wp2_with fail
    go_roundw
    case rel => exact ⟨k + 1,_,_,_,_,by omega,by go_num,rfl,rfl,rfl,rfl,hd_ (by rw [F1.out,H1.out,K1.out]),hd_ (by rw [F2.out,H2.out,K2.out]),hd_ (by rw [F3.out,H3.out,K3.out]),hd_ (by rw [F4.out,H4.out,K4.out]),zqe ezz EH.out,zqe iz EI.out,zqe oz EO.out,bl_⟩
    case measure => simp [intOf];omega
   ·
    have tn : (b.hs[k].Out != ch) = false:=by simp [bne,tx]
    cases ty : b.hs[k].Kept
    ·
     have K1:=hd_ (show fewH ch x1 b.hs[k] = x1 + b.hs[k].AmtOut by simp [fewH,tx,ty])
     have K2:=hd_ (show outH ch x2 b.hs[k] = x2 + b.hs[k].AmtOut by simp [outH,tx])
     have K3:=hd_ (show slotFewH ch x3 b.hs[k] = x3 + 1 by simp [slotFewH,tx,ty])
     have K4:=hd_ (show slotH ch x4 b.hs[k] = x4 + 1 by simp [slotH,tx])
     clear tx
     go_wp2_with fail
     go_roundw
     case rel => exact ⟨k + 1,_,_,_,_,by omega,by go_num,by first | rfl | go_num,by first | rfl | go_num,by first | rfl | go_num,by first | rfl | go_num,hd_ (by rw [F1.out,H1.out,K1.out]),hd_ (by rw [F2.out,H2.out,K2.out]),hd_ (by rw [F3.out,H3.out,K3.out]),hd_ (by rw [F4.out,H4.out,K4.out]),zqe ezz EH.out,zqe iz EI.out,zqe oz EO.out,bl_⟩
     case measure => simp [intOf];omega
    ·
     have K1:=hd_ (show fewH ch x1 b.hs[k] = x1 by simp [fewH,tx,ty])
     have K2:=hd_ (show outH ch x2 b.hs[k] = x2 + b.hs[k].AmtOut by simp [outH,tx])
     have K3:=hd_ (show slotFewH ch x3 b.hs[k] = x3 by simp [slotFewH,tx,ty])
     have K4:=hd_ (show slotH ch x4 b.hs[k] = x4 + 1 by simp [slotH,tx])
     clear tx
     go_wp2_with fail
     go_roundw
     case rel => exact ⟨k + 1,_,_,_,_,by omega,by go_num,by first | rfl | go_num,by first | rfl | go_num,by first | rfl | go_num,by first | rfl | go_num,hd_ (by rw [F1.out,H1.out,K1.out]),hd_ (by rw [F2.out,H2.out,K2.out]),hd_ (by rw [F3.out,H3.out,K3.out]),hd_ (by rw [F4.out,H4.out,K4.out]),zqe ezz EH.out,zqe iz EI.out,zqe oz EO.out,bl_⟩
     case measure => simp [intOf];omega
  ·
   obtain rfl : k = b.hs.length:=by omega
   have q1:=H1.out
   have q2:=H2.out
   have q3:=H3.out
   have q4:=H4.out
   rw [List.take_length] at q1 q2 q3 q4
   have HE:=hd_ (show roomF b.hs co ch e.Amt ci.Score e.Yes = allowF co.Size x1 x2 x3 x4 e.Amt (standB ci.Score e.Yes) by unfold roomF;rw [q1,q2,q3,q4])
   clear q1 q2 q3 q4 H1 H2 H3 H4
   go_wp2_with fail
   go_quiet (first | (go_at_call 166;exact zqi (i_Standing _ _ _)) | (go_at_call 165;exact zqi (i_Allow _ _ _ _ _ _ _ _ (by omega) (by omega))))
   go_wp2_with fail
   go_ret
   exact ⟨zqz HE.out.symm,bl_⟩
end Go.Proofs.YtdbmkfmenfcbiaaGreat
namespace Go.Proofs.YtdbmkfmenfcbiaaGreat
open Go.RowKit Go.Deep
def tailA (A : Option Addr) (cap k size : Nat) : Option Addr:=if cap = k then A else A.map (·.add (k * size))
theorem Rd.from_ {w : World} {B size : Nat} {A : Option Addr} {rows : List (List Value)} (h : Rd w B size A rows) {cap : Nat} (hc : rows.length ≤ cap) (k : Nat) : Rd w B size (tailA A cap k size) (rows.drop k):=by
  refine ⟨fun r hr => h.1 r (List.mem_of_mem_drop hr),fun hn => ?_⟩
  rw [List.length_drop] at hn
  obtain ⟨b,off,rfl,hb,hcell⟩:=h.2 (by omega)
  refine ⟨b,off + k * size,?_,hb,fun i r j v h1 h2 => ?_⟩
  · unfold tailA
    rw [if_neg (by omega)]
    simp [Addr.add]
  · rw [List.getElem?_drop] at h1
    have:=hcell (k + i) r j v h1 h2
    rw [Nat.add_mul] at this
    rw [show off + k * size + i * size + j = off + (k * size + i * size) + j by omega]
    exact this
theorem zvv {P : Program} {t : TypeId} {size n cap k : Nat} {A : Option Addr} {x : Int} (ht : P.underlying t = some (.slice (P.elem t))) (hsz : ∀ W : World,(sizeOf (P.elem t)).run P W = .ok size W) (hx : x = (k : Int)) (h1 : k ≤ n) (W : World) :
    (Instr.slice t (.slice A n cap) (some (.int .i64 x)) none none).run P W = .ok (.slice (tailA A cap k size) (n - k) (cap - k)) W:=by
  subst hx
  rw [run_slice_l (P:=P) W t A n cap ht .i64 (k : Int) (by omega) (by omega),hsz]
  simp [Result.andThen,sliced,tailA]
theorem sl_to {P : Program} {t : TypeId} {size n cap k : Nat} {A : Option Addr} {x : Int} (ht : P.underlying t = some (.slice (P.elem t))) (hsz : ∀ W : World,(sizeOf (P.elem t)).run P W = .ok size W) (hx : x = (k : Int)) (h1 : k ≤ cap) (W : World) :
    (Instr.slice t (.slice A n cap) none (some (.int .i64 x)) none).run P W = .ok (.slice A k cap) W:=by
  subst hx
  rw [run_slice_h (P:=P) W t A n cap ht .i64 (k : Int) (by omega) (by omega),hsz]
  have : A.map (fun a => a.add (0 * size)) = A:=by
    cases A with
    | none => rfl
    | some a => simp [Addr.add]
  simp only [Result.andThen,sliced,Int.toNat_natCast,Nat.sub_zero,this,ite_self]
theorem zki {α : Type} (l : List α) (i : Nat) : l.take i ++ l.drop (i + 1) = l.eraseIdx i:=(List.eraseIdx_eq_take_drop_succ l i).symm
theorem zhv {α β : Type} (f : α → β) (l : List α) (i : Nat) : (l.eraseIdx i).map f = (l.map f).eraseIdx i:=by
  rw [List.eraseIdx_eq_take_drop_succ,List.eraseIdx_eq_take_drop_succ,List.map_append,List.map_take,List.map_drop]
end Go.Proofs.YtdbmkfmenfcbiaaGreat
namespace Go.Proofs.YtdbmkfmenfcbiaaGreat
open Go.RowKit Go.Deep
def ovB (b : Bk) (e : Event) : Bool :=
 if b.n = 1125899906842624 then true
 else if e.Kind = 1 then decide (1125899906842624 < b.w + e.Amt)
 else if e.Kind = 2 then decide (1125899906842624 < e.Amt + e.Fee)
 else if e.Kind = 3∧0 ≤ chanIx b.cs e.Ch then decide (1125899906842624 < b.w + (chanOf b.cs e.Ch).Local - e.Fee)
 else if e.Kind = 8 then b.t == 1125899906842624
 else false
theorem ov_yes {b : Bk} {e : Event} (h : (b.ok && evB e) = true) (ho : ovB b e = true) : applyS b e = bad 2:=by
 by_cases hn : b.n = 1125899906842624
 ·
  exact zth h hn
 rw [zwx h hn]
 unfold ovB at ho
 rw [if_neg hn] at ho
 unfold stepS
 split
 ·
  rename_i h1
  rw [if_pos h1] at ho
  unfold depB
  rw [if_pos (of_decide_eq_true ho)]
 rename_i h1
 rw [if_neg h1] at ho
 split
 ·
  rename_i h2
  rw [if_pos h2] at ho
  unfold openB
  rw [if_pos (of_decide_eq_true ho)]
 rename_i h2
 rw [if_neg h2] at ho
 by_cases h3 : e.Kind = 3∧0 ≤ chanIx b.cs e.Ch
 ·
  rw [if_pos h3] at ho
  rw [if_pos h3.1]
  unfold closeA
  rw [if_pos ⟨h3.2,of_decide_eq_true ho⟩]
 rw [if_neg h3] at ho
 by_cases h8 : e.Kind = 8
 ·
  rw [if_pos h8] at ho
  rw [if_neg (by omega),if_neg (by omega),if_neg (by omega),if_neg (by omega),if_neg (by omega),if_pos h8]
  unfold tickB
  rw [if_pos (eq_of_beq ho)]
 ·
  rw [if_neg h8] at ho
  cases ho
theorem ov_no {b : Bk} {e : Event} (ho : ovB b e = false) : b.n ≠ 1125899906842624∧(e.Kind = 1 → b.w + e.Amt ≤ 1125899906842624)∧(e.Kind = 2 → e.Amt + e.Fee ≤ 1125899906842624)∧(e.Kind = 3 → closeA b e = closeB b e)∧(e.Kind = 8 → b.t ≠ 1125899906842624):=by
 unfold ovB at ho
 by_cases hn : b.n = 1125899906842624
 ·
  rw [if_pos hn] at ho
  cases ho
 rw [if_neg hn] at ho
 refine ⟨hn,fun h1 => ?_,fun h2 => ?_,fun h3 => ?_,fun h8 => ?_⟩
 ·
  rw [if_pos h1] at ho
  have:=of_decide_eq_false ho
  omega
 ·
  rw [if_neg (by omega),if_pos h2] at ho
  have:=of_decide_eq_false ho
  omega
 ·
  rw [if_neg (by omega),if_neg (by omega)] at ho
  unfold closeA
  by_cases hx : 0 ≤ chanIx b.cs e.Ch
  ·
   rw [if_pos ⟨h3,hx⟩] at ho
   rw [if_neg (fun h => absurd h.2 (of_decide_eq_false ho))]
  ·
   rw [if_neg (fun h => hx h.1)]
 ·
  rw [if_neg (by omega),if_neg (by omega),if_neg (by omega),if_pos h8] at ho
  exact beq_eq_false_iff_ne.1 ho
set_option maxRecDepth 100000 in
set_option maxHeartbeats 4000000 in
theorem zhp (b : Bk) (e : Event) (A1 A2 A3 : Option Addr) (p1 p2 p3 : Nat) (w : World) (hF : BookFacts b.t b.n b.w b.cs b.hs b.os) (ha : amtB e.Amt = true) (hf : amtB e.Fee = true) (hr : RdBook w w.heap.size A1 b.cs A2 b.hs A3 b.os) :
  Calls Tryz.prog 87 #[.agg #[.int .i64 b.t,.int .i64 b.n,.int .i64 b.w,.slice A1 b.cs.length p1,.slice A2 b.hs.length p2,.slice A3 b.os.length p3],.agg #[.int .i64 e.Kind,.int .i64 e.Key,.int .i64 e.Ch,.int .i64 e.To,.int .i64 e.Amt,.int .i64 e.Fee,.bool e.Yes]] w fun e' w' => e' = .returned (.bool (ovB b e))∧Below w.heap.size w w':=by
 obtain ⟨k,key,ch,ot,amt,fee,yes⟩:=e
 dsimp only at ha hf ⊢
 obtain ⟨a1,a2⟩:=zxu.1 ha
 obtain ⟨f1,f2⟩:=zxu.1 hf
 obtain ⟨w1,w2⟩:=hF.w
 have hcl:=hF.cl
 have HF:=hd_ hF
 have HR:=hd_ hr
 clear hF hr ha hf
 obtain ⟨r,hr⟩ : ∃ r,ovB b ⟨k,key,ch,ot,amt,fee,yes⟩ = r:=⟨_,rfl⟩
 rw [hr]
 have HRS:=hd_ hr
 clear hr
 have HG_w : Hid (Below w.heap.size w w):=hd_ (Below.refl _ _)
 go_enter Tryz.func87,Tryz.ntmps87
 go_upto_region 1 with fail
 refine nm_ ?_
 intro w11 hw
 have HG_w11 : Hid (Below w.heap.size w w11):=hd_ (by rw [hw];exact ((HG_w.out).alloc (by have:=HG_w.out.size;first | omega | (simp;done) | (simp;omega)) _).alloc (by have:=HG_w.out.size;first | omega | (simp;done) | (simp;omega)) _)
 obtain ⟨KB,h9K⟩ : ∃ v,v = w.heap.size:=⟨_,rfl⟩
 have HK_w11 : Hid (Hx w11 KB (bkC b A1 p1 A2 p2 A3 p3) 39):=hd_ (by rw [hw,h9K];first | done | exact zqe (by simp) (zqk (by first | rfl | (simp;done))))
 have HLK : Hid (w.heap.size ≤ KB):=hd_ (by have:=HG_w.out.size;omega)
 obtain ⟨MB,h9M⟩ : ∃ v,v = w.heap.size + 1:=⟨_,rfl⟩
 have HM_w11 : Hid (Hx w11 MB #[.int .i64 k,.int .i64 key,.int .i64 ch,.int .i64 ot,.int .i64 amt,.int .i64 fee,.bool yes] 64):=hd_ (by rw [hw,h9M];first | done | exact zqk (by first | rfl | (simp;done)))
 have HLM : Hid (w.heap.size ≤ MB):=hd_ (by have:=HG_w.out.size;omega)
 try rw [← h9M]
 try rw [← h9K]
 have HNMK : Hid (MB ≠ KB):=hd_ (by omega)
 clear hw h9K h9M
 obtain ⟨K0,K1,K2,K3,K4,K5,Kf,Kz⟩:=box6_ HK_w11.out
 obtain ⟨M0,M1,M2,M3,M4,M5,M6,Mf,Mz⟩:=box7_ HM_w11.out
 obtain ⟨ix,hix⟩ : ∃ v,chanIx b.cs ch = v:=⟨_,rfl⟩
 have HIX:=hd_ hix
 clear hix
 go_wp2_with fail
 refine (zjt b.t b.n b.w b.cs b.hs b.os _ _ _ _ _ _ ch _ (by omega) ((HR.out.below HG_w11.out).more HG_w11.out.size)).mono ?_
 rintro e' w12 ⟨rfl,hb⟩
 rw [HIX.out]
 have HG_w12:=hd_ (HG_w11.out.trans (hb.mono HG_w11.out.size))
 have HK_w12:=hd_ (zqc hb (gz_ HK_w11.out).1 HK_w11.out)
 have HM_w12:=hd_ (zqc hb (gz_ HM_w11.out).1 HM_w11.out)
 clear hb
 clear K0 K1 K2 K3 K4 K5 M0 M1 M2 M3 M4 M5 M6 Kf Mf Kz Mz
 obtain ⟨K0,K1,K2,K3,K4,K5,Kf,Kz⟩:=box6_ HK_w12.out
 obtain ⟨M0,M1,M2,M3,M4,M5,M6,Mf,Mz⟩:=box7_ HM_w12.out
 cases tn : (b.n == 1125899906842624)
 ·
  have HN:=hd_ (beq_eq_false_iff_ne.1 tn)
  cases tk1 : (k == 1)
  ·
   have h1:=beq_eq_false_iff_ne.1 tk1
   have H1:=hd_ h1
   clear h1
   cases tk2 : (k == 2)
   ·
    have h2:=beq_eq_false_iff_ne.1 tk2
    have H2:=hd_ h2
    clear h2
    cases tk3 : (k == 3)
    ·
     have h3:=beq_eq_false_iff_ne.1 tk3
     have H3:=hd_ h3
     clear h3
     cases tk8 : (k == 8)
     ·
      have H8:=hd_ (beq_eq_false_iff_ne.1 tk8)
      go_wp2_with fail
      go_ret
      exact ⟨zqh (by rw [← HRS.out];unfold ovB;rw [if_neg HN.out,if_neg H1.out,if_neg H2.out,if_neg (fun h => H3.out h.1),if_neg H8.out]),HG_w12.out⟩
     ·
      have H8:=hd_ (eq_of_beq tk8)
      go_wp2_with fail
      go_ret
      exact ⟨zqh (by rw [← HRS.out];unfold ovB;rw [if_neg HN.out,if_neg H1.out,if_neg H2.out,if_neg (fun h => H3.out h.1),if_pos H8.out]),HG_w12.out⟩
    ·
     have H3:=hd_ (eq_of_beq tk3)
     cases tx : decide (ix ≥ 0)
     ·
      have HX:=hd_ (of_decide_eq_false tx)
      have tk8 : (k == 8) = false:=beq_eq_false_iff_ne.2 (by rw [H3.out];decide)
      go_wp2_with fail
      go_ret
      exact ⟨zqh (by rw [← HRS.out];unfold ovB;rw [if_neg HN.out,if_neg H1.out,if_neg H2.out,if_neg (fun h => absurd h.2 (by have:=HX.out;rw [HIX.out];omega)),if_neg (by simp only;rw [H3.out];decide)]),HG_w12.out⟩
     ·
      have hx:=of_decide_eq_true tx
      obtain ⟨i,hi⟩:=Int.eq_ofNat_of_zero_le (show 0 ≤ ix from hx)
      subst hi
      have hlt:=zxh HIX.out
      have hloc:=HF.out.local_ hlt
      have hco : chanOf b.cs ch = b.cs[i]:=by unfold chanOf;rw [HIX.out,Int.toNat_natCast,List.getD_eq_getElem?_getD,List.getElem?_eq_getElem hlt];rfl
      have HCO:=hd_ hco
      have HX:=hd_ hx
      clear hco hx
      obtain ⟨bb,off,hA,hbB,c0,c1,c2,c3,c4,c5,c6⟩:=Chan.rd (HR.out.c.below HG_w12.out) hlt
      subst hA
      clear K0 K1 K2 K3 K4 K5 M0 M1 M2 M3 M4 M5 M6 Kf Mf Kz Mz
      obtain ⟨K0,K1,K2,K3,K4,K5,Kf,Kz⟩:=box6_ HK_w12.out
      obtain ⟨M0,M1,M2,M3,M4,M5,M6,Mf,Mz⟩:=box7_ HM_w12.out
      obtain ⟨l,hl⟩ : ∃ l,b.cs[i].Local = l:=⟨_,rfl⟩
      rw [hl] at c2 hloc
      have HLO:=hd_ hl
      clear hl
      have i1 : (0 : Int) ≤ (i : Int):=by omega
      have i2 : (i : Int) < (b.cs.length : Int):=by omega
      have ws1 : IntKind.i64.wrap (b.w + l) = b.w + l:=IntWalk.i64_in _ ⟨by omega,by omega⟩
      have ws2 : IntKind.i64.wrap (b.w + l - fee) = b.w + l - fee:=IntWalk.i64_in _ ⟨by omega,by omega⟩
      go_wp2_with fail
      go_region
      all_goals go_wp2_with fail
      all_goals go_ret
      all_goals exact ⟨zqh (by rw [← HRS.out];unfold ovB;rw [if_neg HN.out,if_neg H1.out,if_neg H2.out,if_pos ⟨H3.out,by simp only;rw [HIX.out];exact HX.out⟩,HCO.out,HLO.out]),HG_w12.out.drew⟩
   ·
    have H2:=hd_ (eq_of_beq tk2)
    have ws : IntKind.i64.wrap (amt + fee) = amt + fee:=IntWalk.i64_in _ ⟨by omega,by omega⟩
    go_wp2_with fail
    go_ret
    exact ⟨zqh (by rw [← HRS.out];unfold ovB;rw [if_neg HN.out,if_neg H1.out,if_pos H2.out]),HG_w12.out⟩
  ·
   have H1:=hd_ (eq_of_beq tk1)
   have ws : IntKind.i64.wrap (b.w + amt) = b.w + amt:=IntWalk.i64_in _ ⟨by omega,by omega⟩
   go_wp2_with fail
   go_ret
   exact ⟨zqh (by rw [← HRS.out];unfold ovB;rw [if_neg HN.out,if_pos H1.out]),HG_w12.out⟩
 ·
  have HN:=hd_ (eq_of_beq tn)
  go_wp2_with fail
  go_ret
  exact ⟨zqh (by rw [← HRS.out];unfold ovB;rw [if_pos HN.out]),HG_w12.out⟩
end Go.Proofs.YtdbmkfmenfcbiaaGreat
namespace Go.Proofs.YtdbmkfmenfcbiaaGreat
open Go.RowKit Go.Deep
def LenOk (b : Bk) : Prop:=b.cs.length ≤ 21∧b.hs.length ≤ 61∧b.os.length ≤ 21
theorem LenOk.zero : LenOk bk0:=⟨by decide,by decide,by decide⟩
theorem lenOk_of {b : Bk} (h : b.ok = true) : LenOk b:=by
  have hF:=zxw h
  exact ⟨Nat.le_trans hF.cl (by decide),Nat.le_trans hF.small.hl (by decide),Nat.le_trans hF.small.ol (by decide)⟩
theorem insC_len (c : Chan) (cs : List Chan) : (insC c cs).length = cs.length + 1:=by
  unfold insC
  rw [List.length_append,List.length_cons]
  have h:=congrArg List.length (List.takeWhile_append_dropWhile (p:=fun x : Chan => decide (x.Id < c.Id)) (l:=cs))
  rw [List.length_append] at h
  omega
theorem zyb (cs : List Chan) (ch : Int) (f : Chan → Chan) : (setCh cs ch f).length = cs.length:=List.length_modify ..
theorem stepS_len {b : Bk} {e : Event} (h : b.ok = true) : LenOk (stepS b e).b:=by
  have hF:=zxw h
  have h1:=hF.cl
  have h2:=hF.small.hl
  have h3:=hF.small.ol
  have z : LenOk bk0:=LenOk.zero
  have hb : LenOk b:=lenOk_of h
  have fh : ∀ p : Htlc → Bool,(b.hs.filter p).length ≤ 61:=fun p => Nat.le_trans (List.length_filter_le _ _) (by omega)
  have fo : ∀ p : Circle → Bool,(b.os.filter p).length ≤ 21:=fun p => Nat.le_trans (List.length_filter_le _ _) (by omega)
  have fc : ∀ p : Chan → Bool,(b.cs.filter p).length ≤ 21:=fun p => Nat.le_trans (List.length_filter_le _ _) (by omega)
  unfold stepS
  split
  · unfold depB;split
    · exact z
    · exact hb
  split
  · unfold openB;(repeat' split) <;> first | exact z | exact ⟨by simp only [done,insC_len];omega,hb.2⟩
  split
  · unfold closeA closeB;(repeat' split) <;> first | exact z | exact ⟨fc _,hb.2⟩
  split
  · unfold priceB;(repeat' split) <;> first | exact z | exact ⟨by simp only [done,zyb];omega,hb.2⟩
  split
  · unfold admitS;(repeat' split) <;> first | exact z | exact ⟨by simp only [done,zxc];omega,by simp only [done,List.length_append,List.length_singleton];omega,hb.2.2⟩
  split
  · unfold settleS;(repeat' split) <;> first | exact z | exact ⟨by simp only [done,zxc,zyb];omega,fh _,hb.2.2⟩
  split
  · unfold settleS;(repeat' split) <;> first | exact z | exact ⟨by simp only [done,zxc,zyb];omega,fh _,hb.2.2⟩
  split
  · unfold tickB;split
    · exact z
    · refine ⟨?_,by simp only [done,List.length_map];omega,hb.2.2⟩
      simp only [done]
      split
      · rw [List.length_map];omega
      · omega
  split
  · unfold launchS;(repeat' split) <;> first | exact z | exact ⟨by simp only [done,zxc];omega,hb.2.1,by simp only [done,List.length_append,List.length_singleton];omega⟩
  split
  · unfold landS;(repeat' split) <;> first | exact z | exact ⟨by simp only [done,zxc];omega,hb.2.1,fo _⟩
  · unfold landS;(repeat' split) <;> first | exact z | exact ⟨by simp only [done,zxc];omega,hb.2.1,fo _⟩
theorem zyp (b : Bk) (e : Event) : LenOk (applyS b e).b:=by
  unfold applyS
  split
  · exact LenOk.zero
  · rename_i h
    split
    · exact LenOk.zero
    · refine stepS_len ?_
      cases h9 : b.ok
      · rw [h9] at h;exact absurd rfl h
      · rfl
end Go.Proofs.YtdbmkfmenfcbiaaGreat
namespace Go.Proofs.YtdbmkfmenfcbiaaGreat
open Go.RowKit Go.Deep
end Go.Proofs.YtdbmkfmenfcbiaaGreat
namespace Go.Proofs.YtdbmkfmenfcbiaaGreat
open Go.RowKit Go.Deep
theorem keys_ne {ks : List Int} (h : everyTo ks.length (keyAt ks) = true) {i j : Nat} (hij : i < j) (hj : j < ks.length) : ks[i]'(by omega) ≠ ks[j]:=by
 have h1:=everyTo_iff.1 h j hj
 rw [zts hj,Bool.and_eq_true] at h1
 intro e
 have h2 : hasB (ks.take j) ks[j] = true:=by
  unfold hasB
  rw [List.any_eq_true]
  refine ⟨ks[i]'(by omega),?_,by rw [e];simp⟩
  rw [List.mem_take_iff_getElem]
  exact ⟨i,by omega,rfl⟩
 rw [h2] at h1
 exact absurd h1.2 (by decide)
theorem hs_ne {bt bn bw : Int} {cs : List Chan} {hs : List Htlc} {os : List Circle} (hF : BookFacts bt bn bw cs hs os) {i j : Nat} (hij : i < j) (hj : j < hs.length) : (hs[i]'(by omega)).Key ≠ hs[j].Key:=by
 have hp:=hF.parts
 simp only [partsB,Bool.and_eq_true] at hp
 have h2:=hp.2
 unfold keysOf at h2
 have hl : j < (hs.map Htlc.Key ++ os.map Circle.Key).length:=by rw [List.length_append,List.length_map];omega
 have:=keys_ne h2 hij hl
 rw [List.getElem_append_left (by rw [List.length_map];omega),List.getElem_append_left (by rw [List.length_map];omega),List.getElem_map,List.getElem_map] at this
 exact this
theorem os_ne {bt bn bw : Int} {cs : List Chan} {hs : List Htlc} {os : List Circle} (hF : BookFacts bt bn bw cs hs os) {i j : Nat} (hij : i < j) (hj : j < os.length) : (os[i]'(by omega)).Key ≠ os[j].Key:=by
 have hp:=hF.parts
 simp only [partsB,Bool.and_eq_true] at hp
 have h2:=hp.2
 unfold keysOf at h2
 have hl : hs.length + j < (hs.map Htlc.Key ++ os.map Circle.Key).length:=by rw [List.length_append,List.length_map,List.length_map];omega
 have:=keys_ne h2 (show hs.length + i < hs.length + j by omega) hl
 rw [List.getElem_append_right (by rw [List.length_map];omega),List.getElem_append_right (by rw [List.length_map];omega),List.getElem_map,List.getElem_map] at this
 simpa using this
theorem zto {hs : List Htlc} {key : Int} {i : Nat} (h : hAt hs key = (i : Int)) : ∃ hl : i < hs.length,hs[i].Key = key:=by
 unfold hAt at h
 split at h
 ·
  rename_i j hj
  obtain ⟨h1,h2,_⟩:=List.findIdx?_eq_some_iff_getElem.1 hj
  have : j = i:=by omega
  subst this
  exact ⟨h1,by simpa [notKeyH] using h2⟩
 ·
  omega
theorem zsh {os : List Circle} {key : Int} {i : Nat} (h : oAt os key = (i : Int)) : ∃ hl : i < os.length,os[i].Key = key:=by
 unfold oAt at h
 split at h
 ·
  rename_i j hj
  obtain ⟨h1,h2,_⟩:=List.findIdx?_eq_some_iff_getElem.1 hj
  have : j = i:=by omega
  subst this
  exact ⟨h1,by simpa [notKeyC] using h2⟩
 ·
  omega
theorem zvl (key : Int) : ∀ (l : List Htlc) (r : Htlc),(∀ x ∈ l,x.Key ≠ key) → l.foldl (pickH key) r = r
 | [],_,_ => rfl
 | x :: l,r,h => by
  have e : pickH key r x = r:=by unfold pickH;rw [if_neg (by simpa using h x (by simp))]
  rw [List.foldl_cons,e]
  exact zvl key l r (fun y hy => h y (by simp [hy]))
theorem zvk (key : Int) : ∀ (l : List Circle) (r : Circle),(∀ x ∈ l,x.Key ≠ key) → l.foldl (pickC key) r = r
 | [],_,_ => rfl
 | x :: l,r,h => by
  have e : pickC key r x = r:=by unfold pickC;rw [if_neg (by simpa using h x (by simp))]
  rw [List.foldl_cons,e]
  exact zvk key l r (fun y hy => h y (by simp [hy]))
theorem zwj {α : Type} {l : List α} {i : Nat} (h : i < l.length) : l = l.take i ++ l[i] :: l.drop (i + 1):=by rw [List.getElem_cons_drop,List.take_append_drop]
theorem hs_found {bt bn bw : Int} {cs : List Chan} {hs : List Htlc} {os : List Circle} (hF : BookFacts bt bn bw cs hs os) {key : Int} {i : Nat} (h : hAt hs key = (i : Int)) (hl : i < hs.length) : lastH hs key = hs[i]∧hs.filter (notKeyH key) = hs.eraseIdx i:=by
 obtain ⟨_,hk⟩:=zto h
 have hA : ∀ x ∈ hs.take i,x.Key ≠ key:=by
  intro x hx
  obtain ⟨j,hj,rfl⟩:=List.mem_take_iff_getElem.1 hx
  rw [← hk]
  exact hs_ne hF (by omega) hl
 have hB : ∀ x ∈ hs.drop (i + 1),x.Key ≠ key:=by
  intro x hx
  obtain ⟨j,hj,rfl⟩:=List.mem_iff_getElem.1 hx
  rw [List.length_drop] at hj
  rw [List.getElem_drop,← hk]
  exact (hs_ne hF (show i < i + 1 + j by omega) (by omega)).symm
 constructor
 ·
  unfold lastH
  have e1 : hs.foldl (pickH key) htlc0 = (hs.take i ++ hs[i] :: hs.drop (i + 1)).foldl (pickH key) htlc0:=by rw [← zwj hl]
  have hk2 : (hs[i].Key == key) = true:=by rw [hk];simp
  have e2 : pickH key htlc0 hs[i] = hs[i]:=by unfold pickH;rw [if_pos hk2]
  rw [e1,List.foldl_append,zvl key _ _ hA,List.foldl_cons,e2,zvl key _ _ hB]
 ·
  rw [List.eraseIdx_eq_take_drop_succ]
  have e1 : hs.filter (notKeyH key) = (hs.take i ++ hs[i] :: hs.drop (i + 1)).filter (notKeyH key):=by rw [← zwj hl]
  rw [e1,List.filter_append,List.filter_cons_of_neg (by simp [notKeyH,hk]),List.filter_eq_self.2 (fun x hx => by simpa [notKeyH] using hA x hx),List.filter_eq_self.2 (fun x hx => by simpa [notKeyH] using hB x hx)]
theorem os_found {bt bn bw : Int} {cs : List Chan} {hs : List Htlc} {os : List Circle} (hF : BookFacts bt bn bw cs hs os) {key : Int} {i : Nat} (h : oAt os key = (i : Int)) (hl : i < os.length) : lastC os key = os[i]∧os.filter (notKeyC key) = os.eraseIdx i:=by
 obtain ⟨_,hk⟩:=zsh h
 have hA : ∀ x ∈ os.take i,x.Key ≠ key:=by
  intro x hx
  obtain ⟨j,hj,rfl⟩:=List.mem_take_iff_getElem.1 hx
  rw [← hk]
  exact os_ne hF (by omega) hl
 have hB : ∀ x ∈ os.drop (i + 1),x.Key ≠ key:=by
  intro x hx
  obtain ⟨j,hj,rfl⟩:=List.mem_iff_getElem.1 hx
  rw [List.length_drop] at hj
  rw [List.getElem_drop,← hk]
  exact (os_ne hF (show i < i + 1 + j by omega) (by omega)).symm
 constructor
 ·
  unfold lastC
  have e1 : os.foldl (pickC key) circle0 = (os.take i ++ os[i] :: os.drop (i + 1)).foldl (pickC key) circle0:=by rw [← zwj hl]
  have hk2 : (os[i].Key == key) = true:=by rw [hk];simp
  have e2 : pickC key circle0 os[i] = os[i]:=by unfold pickC;rw [if_pos hk2]
  rw [e1,List.foldl_append,zvk key _ _ hA,List.foldl_cons,e2,zvk key _ _ hB]
 ·
  rw [List.eraseIdx_eq_take_drop_succ]
  have e1 : os.filter (notKeyC key) = (os.take i ++ os[i] :: os.drop (i + 1)).filter (notKeyC key):=by rw [← zwj hl]
  rw [e1,List.filter_append,List.filter_cons_of_neg (by simp [notKeyC,hk]),List.filter_eq_self.2 (fun x hx => by simpa [notKeyC] using hA x hx),List.filter_eq_self.2 (fun x hx => by simpa [notKeyC] using hB x hx)]
theorem hAt_neg {hs : List Htlc} {key : Int} (h : hAt hs key < 0) : ∀ x ∈ hs,x.Key ≠ key:=by
 intro x hx
 unfold hAt at h
 split at h
 ·
  omega
 ·
  rename_i hf
  rw [List.findIdx?_eq_none_iff] at hf
  have:=hf x hx
  simpa [notKeyH] using this
theorem oAt_neg {os : List Circle} {key : Int} (h : oAt os key < 0) : ∀ x ∈ os,x.Key ≠ key:=by
 intro x hx
 unfold oAt at h
 split at h
 ·
  omega
 ·
  rename_i hf
  rw [List.findIdx?_eq_none_iff] at hf
  have:=hf x hx
  simpa [notKeyC] using this
theorem zmt {hs : List Htlc} {key : Int} (h : hAt hs key < 0) : (lastH hs key).Key = 0:=by
 unfold lastH
 rw [zvl key hs htlc0 (hAt_neg h)]
 rfl
theorem os_missed {os : List Circle} {key : Int} (h : oAt os key < 0) : (lastC os key).Key = 0:=by
 unfold lastC
 rw [zvk key os circle0 (oAt_neg h)]
 rfl
/-! ### channels put cell by cell -/
theorem zvt {cs : List Chan} {ch d : Int} {i : Nat} {y0 y1 y2 y3 y4 y5 y6 : Int} (hi : chanIx cs ch = (i : Int)) (hl : i < cs.length) (hc : cs[i] = ⟨y0,y1,y2,y3,y4,y5,y6⟩) : moveC cs ch d 0 = cs.set i ⟨y0,y1,y2 + d,y3,y4,y5,y6⟩:=by
 unfold moveC
 rw [zkk hi hl,hc]
 simp [moveF]
theorem zvu {cs : List Chan} {ch d : Int} {i : Nat} {y0 y1 y2 y3 y4 y5 y6 : Int} (hi : chanIx cs ch = (i : Int)) (hl : i < cs.length) (hc : cs[i] = ⟨y0,y1,y2,y3,y4,y5,y6⟩) : moveC cs ch 0 d = cs.set i ⟨y0,y1,y2,y3 + d,y4,y5,y6⟩:=by
 unfold moveC
 rw [zkk hi hl,hc]
 simp [moveF]
/-! ### lines -/
theorem zgr {x : Line} : ∀ {l : List Line},(∀ z ∈ l,¬(z.Kind = x.Kind∧z.Ch = x.Ch)) → ∀ y ∈ addF x l,y ∈ l ∨ y = x
 | [],_,y,hy => by simpa [addF] using hy
 | z :: l,h,y,hy => by
  rw [addF] at hy
  split at hy
  ·
   rcases List.mem_cons.1 hy with h1 | h1
   ·
    exact .inl (by simp [h1])
   ·
    rcases zgr (fun u hu => h u (by simp [hu])) y h1 with h2 | h2
    ·
     exact .inl (by simp [h2])
    ·
     exact .inr h2
  ·
   rw [if_neg (h z (by simp))] at hy
   rcases List.mem_cons.1 hy with h1 | h1
   ·
    exact .inr h1
   ·
    exact .inl h1
theorem zxe {L : List Line} {k c a : Int} (h : ∀ z ∈ L,¬(z.Kind = k∧z.Ch = c)) {y : Line} (hy : y ∈ lineTo L k c a) : y ∈ L ∨ y = ⟨k,c,a⟩:=by
 unfold lineTo at hy
 split at hy
 ·
  exact .inl hy
 ·
  exact zgr (x:=⟨k,c,a⟩) h y hy
end Go.Proofs.YtdbmkfmenfcbiaaGreat
namespace Go.Proofs.YtdbmkfmenfcbiaaGreat
open Go.RowKit Go.Deep
theorem Ow.apart {w : World} {B size X i : Nat} {e : TypeId} {v u : Value} {rows : List (List Value)} (h : Ow w B e size v rows) (hX : ∀ k,v.ownBlock = some k → k ≠ X) : Ow (w.setCell ⟨X,i,none⟩ u) B e size v rows :=
  h.grown (zqg (World.grownBy.refl w (some X)) i u) (by
    cases hv : v.ownBlock with
    | none => exact .inl rfl
    | some k => exact .inr (someNeL (hX k hv)))
end Go.Proofs.YtdbmkfmenfcbiaaGreat
namespace Go.Proofs.YtdbmkfmenfcbiaaGreat
open Go.RowKit Go.Deep
theorem wr_in {n : Int} (h : -9223372036854775808 ≤ n∧n ≤ 9223372036854775807) : wr n = n:=by unfold wr wrap64;omega
theorem wr_rng (n : Int) : -9223372036854775808 ≤ wr n∧wr n ≤ 9223372036854775807:=by unfold wr wrap64;omega
def bumpG (h : Htlc) (good : Bool) (x : Gain) : Gain:=if good = true then ⟨x.Ch,wr (x.Fees + (h.AmtIn - h.AmtOut)),wr (x.Count + 1),x.Failed⟩ else ⟨x.Ch,x.Fees,x.Count,wr (x.Failed + 1)⟩
def gIx (l : List Gain) (ch : Int) : Nat:=(l.findIdx? fun x => x.Ch == ch).getD l.length
def seatG (l : List Gain) (ch : Int) : List Gain:=if gIx l ch = l.length then l ++ [⟨ch,0,0,0⟩] else l
def putG (l : List Gain) (h : Htlc) (good : Bool) : List Gain:=(seatG l h.Out).modify (gIx l h.Out) (bumpG h good)
def putEv (hs : List Htlc) (e : Event) (l : List Gain) : List Gain :=
 match htlcF hs e.Key with
 | some h => if e.Kind = 6 then putG l h true else if e.Kind = 7 then putG l h false else l
 | none => l
def gainStepI (s : Bk × List Gain) (e : Event) : Bk × List Gain:=if (applyS s.1 e).code = 0 then ((applyS s.1 e).b,putEv s.1.hs e s.2) else s
def gainsI (es : List Event) : List Gain:=(es.foldl gainStepI (bk1,[])).2
def SG (l : List Gain) : Prop:=l.Pairwise fun a b => a.Ch < b.Ch
def inG (x : Gain) : Prop:=wr x.Fees = x.Fees∧wr x.Count = x.Count∧wr x.Failed = x.Failed
def atG (ch : Int) (f : Gain → Gain) (x : Gain) : Gain:=if x.Ch = ch then f x else x
def insG (g : Gain) : List Gain → List Gain
 | [] => [g]
 | x :: l => if g.Ch < x.Ch then g :: x :: l else x :: insG g l
theorem zwd (g : Gain) : ∀ l : List Gain,(insG g l).Perm (l ++ [g])
 | [] => .refl _
 | x :: l => by
  unfold insG
  split
  ·
   exact (List.perm_append_comm (l₁:=[g]) (l₂:=x :: l))
  ·
   exact (zwd g l).cons x
theorem zhq (g : Gain) : ∀ l : List Gain,SG l → (∀ x ∈ l,x.Ch ≠ g.Ch) → SG (insG g l)
 | [],_,_ => .cons (by simp) .nil
 | x :: l,hs,hn => by
  obtain ⟨h1,h2⟩:=List.pairwise_cons.1 hs
  have hx:=hn x (by simp)
  unfold insG
  split
  ·
   rename_i hlt
   refine .cons (fun y hy => ?_) hs
   rcases List.mem_cons.1 hy with rfl | hy
   ·
    exact hlt
   ·
    have:=h1 y hy;omega
  ·
   rename_i hlt
   refine .cons (fun y hy => ?_) (zhq g l h2 fun y hy => hn y (by simp [hy]))
   rcases List.mem_append.1 ((zwd g l).mem_iff.1 hy) with hy | hy
   ·
    exact h1 y hy
   ·
    rw [List.mem_singleton.1 hy];omega
theorem ztf (g : Gain) : ∀ (l o : List Gain),(∀ x ∈ l,x.Ch ≠ g.Ch) → l.foldl (addStep g) (true,o) = (true,o ++ l)
 | [],o,_ => by simp
 | x :: l,o,h => by
  have e : addStep g (true,o) x = (true,o ++ [x]):=by
   unfold addStep
   rw [if_neg (h x (by simp)),if_neg (by simp)]
  rw [List.foldl_cons,e,ztf g l _ fun y hy => h y (by simp [hy])]
  simp
theorem add_new (g : Gain) : ∀ (l o : List Gain),(∀ x ∈ l,x.Ch ≠ g.Ch) → addEnd g (l.foldl (addStep g) (false,o)) = o ++ insG g l
 | [],o,_ => rfl
 | x :: l,o,h => by
  have hx:=h x (by simp)
  rw [List.foldl_cons]
  by_cases hlt : g.Ch < x.Ch
  ·
   have e : addStep g (false,o) x = (true,o ++ [g] ++ [x]):=by
    unfold addStep
    rw [if_neg hx,if_pos ⟨rfl,hlt⟩]
   rw [e,ztf g l _ fun y hy => h y (by simp [hy])]
   unfold addEnd insG
   rw [if_pos rfl,if_pos hlt]
   simp
  ·
   have e : addStep g (false,o) x = (false,o ++ [x]):=by
    unfold addStep
    rw [if_neg hx,if_neg fun h' => hlt h'.2]
   have e2 : insG g (x :: l) = x :: insG g l:=by simp only [insG,if_neg hlt]
   rw [e,add_new g l _ fun y hy => h y (by simp [hy]),e2]
   simp
theorem map_atG {ch : Int} {f : Gain → Gain} {l : List Gain} (h : ∀ x ∈ l,x.Ch ≠ ch) : l.map (atG ch f) = l:=by
 conv => rhs;rw [← List.map_id l]
 refine List.map_congr_left fun x hx => ?_
 unfold atG
 rw [if_neg (h x hx)]
 rfl
theorem add_old (g : Gain) : ∀ (l o : List Gain),SG l → (∃ x ∈ l,x.Ch = g.Ch) → addEnd g (l.foldl (addStep g) (false,o)) = o ++ l.map (atG g.Ch fun x => plusG x g)
 | [],_,_,h => by obtain ⟨_,h,_⟩:=h;cases h
 | x :: l,o,hs,h => by
  obtain ⟨h1,h2⟩:=List.pairwise_cons.1 hs
  rw [List.foldl_cons,List.map_cons]
  by_cases hx : x.Ch = g.Ch
  ·
   have hn : ∀ y ∈ l,y.Ch ≠ g.Ch:=fun y hy e => by have:=h1 y hy;omega
   have e : addStep g (false,o) x = (true,o ++ [plusG x g]):=by
    unfold addStep
    rw [if_pos hx]
   rw [e,ztf g l _ hn,map_atG hn]
   unfold addEnd atG
   rw [if_pos rfl,if_pos hx]
   simp
  ·
   have hl : ∃ y ∈ l,y.Ch = g.Ch:=by
    obtain ⟨y,hy,he⟩:=h
    rcases List.mem_cons.1 hy with rfl | hy
    ·
     exact absurd he hx
    ·
     exact ⟨y,hy,he⟩
   have e : addStep g (false,o) x = (false,o ++ [x]):=by
    obtain ⟨y,hy,he⟩:=hl
    have:=h1 y hy
    unfold addStep
    rw [if_neg hx,if_neg fun h' => by have:=h'.2;omega]
   rw [e,add_old g l _ h2 hl]
   unfold atG
   rw [if_neg hx]
   simp
theorem gIx_some {l : List Gain} {ch : Int} (h : ∃ x ∈ l,x.Ch = ch) : gIx l ch < l.length∧∀ hl : gIx l ch < l.length,l[gIx l ch].Ch = ch:=by
 unfold gIx
 cases hf : l.findIdx? fun x => x.Ch == ch with
 | none =>
  rw [List.findIdx?_eq_none_iff] at hf
  obtain ⟨x,hx,he⟩:=h
  have:=hf x hx
  simp [he] at this
 | some i =>
  obtain ⟨h1,h2,_⟩:=List.findIdx?_eq_some_iff_getElem.1 hf
  exact ⟨h1,fun _ => by simpa using h2⟩
theorem zgy {l : List Gain} {ch : Int} (h : ∀ x ∈ l,x.Ch ≠ ch) : gIx l ch = l.length:=by
 unfold gIx
 have : (l.findIdx? fun x => x.Ch == ch) = none:=by
  rw [List.findIdx?_eq_none_iff]
  intro x hx
  simpa using h x hx
 rw [this]
 rfl
def UG (l : List Gain) : Prop:=l.Pairwise fun a b => a.Ch ≠ b.Ch
theorem modify_atG {l : List Gain} (hu : UG l) {i : Nat} (hi : i < l.length) (f : Gain → Gain) : l.modify i f = l.map (atG l[i].Ch f):=by
 refine List.ext_getElem (by simp) fun j h1 h2 => ?_
 have hj : j < l.length:=by simpa using h2
 rw [List.getElem_modify,List.getElem_map]
 unfold atG
 by_cases hij : i = j
 ·
  subst hij
  rw [if_pos rfl,if_pos rfl]
 ·
  rw [if_neg hij,if_neg]
  intro e
  rcases Nat.lt_or_gt_of_ne hij with h | h
  ·
   exact List.pairwise_iff_getElem.1 hu i j hi hj h e.symm
  ·
   exact List.pairwise_iff_getElem.1 hu j i hj hi h e
theorem bump_plus {h : Htlc} (good : Bool) {x : Gain} (hx : inG x) : bumpG h good x = plusG x (gainOf h good):=by
 obtain ⟨h1,h2,h3⟩:=hx
 unfold bumpG plusG gainOf
 cases good
 ·
  simp [h1,h2]
 ·
  simp [h3]
theorem bump_zero {h : Htlc} (ha : 0 ≤ h.AmtIn∧h.AmtIn ≤ 1125899906842624) (hb : 0 ≤ h.AmtOut∧h.AmtOut ≤ 1125899906842624) (good : Bool) : bumpG h good ⟨h.Out,0,0,0⟩ = gainOf h good:=by
 unfold bumpG gainOf
 have e1 : wr (0 + (h.AmtIn - h.AmtOut)) = h.AmtIn - h.AmtOut:=by rw [wr_in (by omega)];omega
 have e2 : wr (0 + 1) = 1:=by rw [wr_in (by omega)];omega
 cases good
 ·
  simp only [e2,Bool.false_eq_true,if_false]
 ·
  simp only [e1,e2,if_true]
theorem plus_in (x g : Gain) : inG (plusG x g):=⟨wr_in (wr_rng _),wr_in (wr_rng _),wr_in (wr_rng _)⟩
theorem gainOf_in {h : Htlc} (ha : 0 ≤ h.AmtIn∧h.AmtIn ≤ 1125899906842624) (hb : 0 ≤ h.AmtOut∧h.AmtOut ≤ 1125899906842624) (good : Bool) : inG (gainOf h good):=by
 unfold gainOf
 cases good
 ·
  exact ⟨wr_in (by simp),wr_in (by simp),wr_in (by simp)⟩
 ·
  exact ⟨wr_in (by simp only [if_true];omega),wr_in (by simp),wr_in (by simp)⟩
theorem zhw (f : Gain → Gain) : ∀ (l : List Gain) (x : Gain),(l ++ [x]).modify l.length f = l ++ [f x]
 | [],_ => rfl
 | y :: l,x => by
  rw [List.cons_append,List.length_cons,List.modify_succ_cons,zhw f l x]
  rfl
structure Same (I S : List Gain) : Prop where
 p : I.Perm S
 s : SG S
 n : ∀ x ∈ S,inG x
theorem SG.ug {l : List Gain} (h : SG l) : UG l:=h.imp fun h e => by omega
theorem Same.ug {I S : List Gain} (h : Same I S) : UG I:=(h.p.pairwise_iff (R:=fun a b : Gain => a.Ch ≠ b.Ch) (fun h e => h e.symm)).2 h.s.ug
theorem gainOf_ch (h : Htlc) (good : Bool) : (gainOf h good).Ch = h.Out:=by unfold gainOf;split <;> rfl
theorem Same.put {I S : List Gain} (hh : Same I S) {h : Htlc} (ha : 0 ≤ h.AmtIn∧h.AmtIn ≤ 1125899906842624) (hb : 0 ≤ h.AmtOut∧h.AmtOut ≤ 1125899906842624) (good : Bool) : Same (putG I h good) (addG S (gainOf h good)):=by
 have hc:=gainOf_ch h good
 by_cases hx : ∃ x ∈ S,x.Ch = h.Out
 ·
  have hxI : ∃ x ∈ I,x.Ch = h.Out:=by
   obtain ⟨x,h1,h2⟩:=hx
   exact ⟨x,hh.p.mem_iff.2 h1,h2⟩
  obtain ⟨hl,hch⟩:=gIx_some hxI
  have e1 : addG S (gainOf h good) = S.map (atG h.Out fun x => plusG x (gainOf h good)):=by
   have:=add_old (gainOf h good) S [] hh.s (by rw [hc];exact hx)
   rw [hc] at this
   simpa [addG] using this
  have e2 : putG I h good = I.map (atG h.Out (bumpG h good)):=by
   unfold putG seatG
   rw [if_neg (by omega),modify_atG hh.ug hl,hch hl]
  have e3 : I.map (atG h.Out (bumpG h good)) = I.map (atG h.Out fun x => plusG x (gainOf h good)):=by
   refine List.map_congr_left fun x hxm => ?_
   unfold atG
   split
   ·
    exact bump_plus good (hh.n x (hh.p.mem_iff.1 hxm))
   ·
    rfl
  have idf : ∀ x,(atG h.Out (fun x => plusG x (gainOf h good)) x).Ch = x.Ch:=fun x => by unfold atG;split <;> rfl
  rw [e1,e2,e3]
  refine ⟨hh.p.map _,?_,fun y hy => ?_⟩
  ·
   unfold SG
   rw [List.pairwise_map]
   have hs:=hh.s
   unfold SG at hs
   simpa only [idf] using hs
  ·
   obtain ⟨x,hxm,rfl⟩:=List.mem_map.1 hy
   unfold atG
   split
   ·
    exact plus_in _ _
   ·
    exact hh.n x hxm
 ·
  have hS : ∀ x ∈ S,x.Ch ≠ h.Out:=fun x h1 h2 => hx ⟨x,h1,h2⟩
  have hI : ∀ x ∈ I,x.Ch ≠ h.Out:=fun x h1 => hS x (hh.p.mem_iff.1 h1)
  have e1 : addG S (gainOf h good) = insG (gainOf h good) S:=by
   have:=add_new (gainOf h good) S [] (by rw [hc];exact hS)
   simpa [addG] using this
  have e2 : putG I h good = I ++ [gainOf h good]:=by
   unfold putG seatG
   rw [zgy hI,if_pos rfl,zhw,bump_zero ha hb]
  rw [e1,e2]
  refine ⟨(hh.p.append_right _).trans (zwd _ _).symm,zhq _ _ hh.s (by rw [hc];exact hS),fun y hy => ?_⟩
  rcases List.mem_append.1 ((zwd _ _).mem_iff.1 hy) with h1 | h1
  ·
   exact hh.n y h1
  ·
   rw [List.mem_singleton.1 h1];exact gainOf_in ha hb good
theorem Same.ev {I S : List Gain} (hh : Same I S) {b : Bk} (hb : b.ok = true) (e : Event) : Same (putEv b.hs e I) (gainEv b.hs e S):=by
 cases hf : htlcF b.hs e.Key with
 | none =>
  unfold putEv gainEv
  rw [hf]
  exact hh
 | some h =>
  obtain ⟨-,ha,hb'⟩:=zvg (zxw hb) (zhn hf)
  unfold putEv gainEv
  rw [hf]
  simp only
  by_cases h6 : e.Kind = 6
  ·
   rw [if_pos h6,if_pos h6]
   exact hh.put ha hb' true
  ·
   rw [if_neg h6,if_neg h6]
   by_cases h7 : e.Kind = 7
   ·
    rw [if_pos h7,if_pos h7]
    exact hh.put ha hb' false
   ·
    rw [if_neg h7,if_neg h7]
    exact hh
theorem Same.fold : ∀ (es : List Event) (b : Bk) (I S : List Gain),Same I S → Same (es.foldl gainStepI (b,I)).2 (es.foldl gainStep (b,S)).2∧(es.foldl gainStepI (b,I)).1 = (es.foldl gainStep (b,S)).1
 | [],_,_,_,h => ⟨h,rfl⟩
 | e :: es,b,I,S,h => by
  rw [List.foldl_cons,List.foldl_cons]
  unfold gainStepI gainStep
  simp only
  by_cases hc : (applyS b e).code = 0
  ·
   rw [if_pos hc,if_pos hc]
   exact Same.fold es _ _ _ (h.ev (zhg hc) e)
  ·
   rw [if_neg hc,if_neg hc]
   exact Same.fold es _ _ _ h
theorem gains_same (es : List Event) : Same (gainsI es) (gainsF es):=(Same.fold es bk1 [] [] ⟨.refl _,.nil,by simp⟩).1
theorem zpw {es : List Event} {L : List Gain} (hp : L.Perm (gainsI es)) (hs : L.Pairwise fun a b => a.Ch ≤ b.Ch) : L = gainsF es:=by
 have hh:=gains_same es
 have hq : L.Perm (gainsF es):=hp.trans hh.p
 have hu : UG L:=(hq.pairwise_iff (R:=fun a b : Gain => a.Ch ≠ b.Ch) (fun h e => h e.symm)).2 hh.s.ug
 have h1 : L.Pairwise fun a b => a.Ch < b.Ch:=by
  rw [List.pairwise_iff_getElem]
  intro i j hi hj hij
  have a1:=List.pairwise_iff_getElem.1 hs i j hi hj hij
  have a2:=List.pairwise_iff_getElem.1 hu i j hi hj hij
  omega
 exact List.Perm.eq_of_pairwise (le:=fun a b : Gain => a.Ch < b.Ch) (fun a b _ _ h1 h2 => by omega) h1 hh.s hq
/-! ### what the walk asks -/
theorem zsk (l : List Gain) (h : Htlc) (good : Bool) : (putG l h good).length ≤ l.length + 1:=by
 unfold putG seatG
 rw [List.length_modify]
 split <;> simp
theorem zpk (hs : List Htlc) (e : Event) (l : List Gain) : (putEv hs e l).length ≤ l.length + 1:=by
 unfold putEv
 split
 ·
  split
  ·
   exact zsk _ _ _
  ·
   split
   ·
    exact zsk _ _ _
   ·
    omega
 ·
  omega
theorem zwa : ∀ (es : List Event) (s : Bk × List Gain),(es.foldl gainStepI s).2.length ≤ s.2.length + es.length
 | [],_ => by simp
 | e :: es,s => by
  rw [List.foldl_cons]
  have h1:=zwa es (gainStepI s e)
  have h2 : (gainStepI s e).2.length ≤ s.2.length + 1:=by
   unfold gainStepI
   split
   ·
    exact zpk _ _ _
   ·
    omega
  rw [List.length_cons]
  omega
theorem gainsI_len (es : List Event) : (gainsI es).length ≤ es.length:=by
 have:=zwa es (bk1,[])
 simpa [gainsI] using this
theorem settled {b : Bk} {e : Event} (hk : e.Kind = 6 ∨ e.Kind = 7) (hc : (applyS b e).code = 0) : ∃ i : Nat,∃ h : i < b.hs.length,hAt b.hs e.Key = (i : Int)∧htlcF b.hs e.Key = some b.hs[i]:=by
 have hok : (b.ok && evB e) = true:=by
  cases h : b.ok && evB e with
  | true => rfl
  | false => rw [zww h] at hc;cases hc
 have hb : b.ok = true:=((Bool.and_eq_true _ _).mp hok).1
 have hF:=zxw hb
 have hn : b.n ≠ 1125899906842624:=fun h => by rw [zth hok h] at hc;cases hc
 rw [zwx hok hn] at hc
 have hl : stepS b e = settleS b e.Key true ∨ stepS b e = settleS b e.Key false:=by
  unfold stepS
  rcases hk with hk | hk
  ·
   rw [if_neg (by omega),if_neg (by omega),if_neg (by omega),if_neg (by omega),if_neg (by omega),if_pos hk];exact .inl rfl
  ·
   rw [if_neg (by omega),if_neg (by omega),if_neg (by omega),if_neg (by omega),if_neg (by omega),if_neg (by omega),if_pos hk];exact .inr rfl
 have h0 : ¬ hAt b.hs e.Key < 0:=fun h => by
  have:=zmt h
  rcases hl with hl | hl
  ·
   rw [hl,zvm this] at hc;cases hc
  ·
   rw [hl,zvm this] at hc;cases hc
 obtain ⟨i,hi⟩:=Int.eq_ofNat_of_zero_le (show 0 ≤ hAt b.hs e.Key by omega)
 obtain ⟨hlt,hkey⟩:=zto hi
 refine ⟨i,hlt,hi,?_⟩
 cases hf : htlcF b.hs e.Key with
 | none =>
  unfold htlcF at hf
  rw [List.find?_eq_none] at hf
  exact absurd (by simpa using hkey) (hf _ (List.getElem_mem hlt))
 | some x =>
  have hm:=zhn hf
  have hx : x.Key = e.Key:=by
   unfold htlcF at hf
   simpa using List.find?_some hf
  obtain ⟨j,hj,rfl⟩:=List.mem_iff_getElem.1 hm
  rcases Nat.lt_trichotomy i j with h' | h' | h'
  ·
   exact absurd (hkey.trans hx.symm) (hs_ne hF h' hj)
  ·
   subst h';rfl
  ·
   exact absurd (hx.trans hkey.symm) (hs_ne hF h' hlt)
end Go.Proofs.YtdbmkfmenfcbiaaGreat
namespace Go.Proofs.YtdbmkfmenfcbiaaGreat
open Go.RowKit Go.Deep
end Go.Proofs.YtdbmkfmenfcbiaaGreat
namespace Go.Proofs.YtdbmkfmenfcbiaaGreat
open Go.RowKit Go.Deep
theorem OwB.pastL {w w' : World} {B g : Nat} {b : Bk} {C1 C2 C3 : Option Addr} {q1 q2 q3 : Nat} (h : OwB w B b C1 C2 C3 q1 q2 q3) (hg : w.grownBy w' (some g)) (hB : g < B) : OwB w' B b C1 C2 C3 q1 q2 q3:=⟨h.c.pastL hg hB,h.h.pastL hg hB,h.o.pastL hg hB⟩
theorem s_BookNew (w : World) : Calls Tryz.prog 28 #[] w fun e w' => e = .returned (.agg #[.int .i64 0,.int .i64 1,.int .i64 0,.slice none 0 0,.slice none 0 0,.slice none 0 0])∧Below w.heap.size w w':=by
  go_enter Tryz.func28,Tryz.ntmps28
  go_wp2_with fail
  refine zsf (fun wz hw => ?_)
  have hz : wz.heap[w.heap.size]? = some (.cells #[.int .i64 0,.int .i64 1,.int .i64 0,.slice none 0 0,.slice none 0 0,.slice none 0 0] 39 (0,0)):=by rw [hw];first | exact zqk rfl | exact zqa (zqa (zqa (zqa (zqa (zqa (zqk rfl))))))
  have hB : Below w.heap.size w wz:=by rw [hw];exact bl_
  clear hw
  have r0 : wz.cell? ⟨w.heap.size,0,none⟩ = some (.int .i64 0):=zqd hz 0
  have r1 : wz.cell? ⟨w.heap.size,1,none⟩ = some (.int .i64 1):=zqd hz 1
  have r2 : wz.cell? ⟨w.heap.size,2,none⟩ = some (.int .i64 0):=zqd hz 2
  have r3 : wz.cell? ⟨w.heap.size,3,none⟩ = some (.slice none 0 0):=zqd hz 3
  have r4 : wz.cell? ⟨w.heap.size,4,none⟩ = some (.slice none 0 0):=zqd hz 4
  have r5 : wz.cell? ⟨w.heap.size,5,none⟩ = some (.slice none 0 0):=zqd hz 5
  exact bodyPost_ret (v:=.agg #[.int .i64 0,.int .i64 1,.int .i64 0,.slice none 0 0,.slice none 0 0,.slice none 0 0]) (by simp [results,Tryz.results28,go_sem,r0,r1,r2,r3,r4,r5]) rfl ⟨rfl,hB⟩
end Go.Proofs.YtdbmkfmenfcbiaaGreat
namespace Go.Proofs.YtdbmkfmenfcbiaaGreat
open Go.RowKit Go.Deep
structure Two (B G1 G2 : Nat) (w w' : World) : Prop where
  b : Below B w w'
  o : ∀ k x,k ≠ G1 → k ≠ G2 → w.heap[k]? = some x → w'.heap[k]? = some x
section
variable {B G1 G2 : Nat} {w w' w'' : World}
theorem Two.refl (B G1 G2 : Nat) (w : World) : Two B G1 G2 w w:=⟨Below.refl _ _,fun _ _ _ _ h => h⟩
theorem Two.trans (h : Two B G1 G2 w w') (h' : Two B G1 G2 w' w'') : Two B G1 G2 w w'':=⟨h.b.trans h'.b,fun k x h1 h2 hk => h'.o k x h1 h2 (h.o k x h1 h2 hk)⟩
theorem Two.below (hb : Below w.heap.size w w') (hB : B ≤ w.heap.size) : Two B G1 G2 w w':=⟨hb.mono hB,fun k _ _ _ hk => (hb.block k (gz_ hk).1).trans hk⟩
theorem Two.drew (h : Two B G1 G2 w w') : Two B G1 G2 w w'.drew:=⟨h.b.drew,h.o⟩
end
end Go.Proofs.YtdbmkfmenfcbiaaGreat
