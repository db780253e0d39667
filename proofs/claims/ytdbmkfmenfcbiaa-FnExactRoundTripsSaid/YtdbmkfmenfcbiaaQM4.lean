/- IAl · IEr · IOv · ISl: each text proves what its theorems say, with no conditions but theirs. -/
import Derived.Test.YtdbmkfmenfcbiaaRows
import Derived.Test.YtdbmkfmenfcbiaaQISm
import Derived.Test.YtdbmkfmenfcbiaaQM1
import Derived.Deep.Cut
import Derived.Test.YtdbmkfmenfcbiaaQM3
import Derived.RegionTactic
namespace Go.Proofs.Ytdbmkfmenfcbiaa
open Go.RowKit Go.Deep
set_option maxRecDepth 100000 in
set_option maxHeartbeats 4000000 in
theorem i_allowed (w0 w : World) (B X : Nat) (b : Bk) (L : List Line) (code : Int) (A1 A2 A3 A4 : Option Addr) (p1 p2 p3 p4 : Nat) (ci co : Chan) (e : Event) (hsm : Small b.hs b.os) (h : Wk 88 w0 w B X b L code A1 A2 A3 A4 p1 p2 p3 p4) :
  Calls Try.prog 82 #[.pointer (some ⟨X,0,none⟩),.agg #[.int .i64 ci.Id,.int .i64 ci.Size,.int .i64 ci.Local,.int .i64 ci.Remote,.int .i64 ci.Base,.int .i64 ci.Ppm,.int .i64 ci.Score],.agg #[.int .i64 co.Id,.int .i64 co.Size,.int .i64 co.Local,.int .i64 co.Remote,.int .i64 co.Base,.int .i64 co.Ppm,.int .i64 co.Score],.agg #[.int .i64 e.Kind,.int .i64 e.Key,.int .i64 e.Ch,.int .i64 e.To,.int .i64 e.Amt,.int .i64 e.Fee,.bool e.Yes]] w fun e' w' => e' = .returned (.int .i64 (roomF b.hs co e.To e.Amt ci.Score e.Yes))∧Below w.heap.size w w':=by
 have HH:=hd_ h.o.h.rd
 have HS:=hd_ hsm
 have h60:=hsm.hl
 have H:=hd_ h
 clear h hsm
 obtain ⟨ch,hch⟩ : ∃ ch,e.To = ch:=⟨_,rfl⟩
 rw [hch]
 have HCH:=hd_ hch
 clear hch
 go_enter Try.func82,Try.ntmps82
 go_upto_region 1 with fail
 refine nm_ ?_
 intro v hw
 have HVW : Hid (Wk 88 w0 v B X b L code A1 A2 A3 A4 p1 p2 p3 p4):=hd_ (by rw [hw];exact ((H.out.alloc _).alloc _).alloc _)
 have hb0 : v.heap[w.heap.size]? = some (.cells #[.int .i64 ci.Id,.int .i64 ci.Size,.int .i64 ci.Local,.int .i64 ci.Remote,.int .i64 ci.Base,.int .i64 ci.Ppm,.int .i64 ci.Score] 63 (0,0)):=by rw [hw];exact zqc (by simp;omega) (zqc (by simp) (zqm rfl))
 have hb1 : v.heap[w.heap.size + 1]? = some (.cells #[.int .i64 co.Id,.int .i64 co.Size,.int .i64 co.Local,.int .i64 co.Remote,.int .i64 co.Base,.int .i64 co.Ppm,.int .i64 co.Score] 63 (0,0)):=by rw [hw];exact zqc (by simp) (zqm (by simp))
 have hb2 : v.heap[w.heap.size + 1 + 1]? = some (.cells #[.int .i64 e.Kind,.int .i64 e.Key,.int .i64 e.Ch,.int .i64 ch,.int .i64 e.Amt,.int .i64 e.Fee,.bool e.Yes] 37 (0,0)):=by rw [hw];exact zqm (by simp)
 have hbv : Below w.heap.size w v:=by rw [hw];exact (((Below.refl _ _).alloc (Nat.le_refl _) _).alloc (by simp) _).alloc (by simp;omega) _
 have HB0:=hd_ hb0
 have HB1:=hd_ hb1
 have HB2:=hd_ hb2
 have HBV:=hd_ hbv
 clear hw hb0 hb1 hb2 hbv
 obtain ⟨a0,a1,a2,a3,a4,a5,a6,a7,af,az⟩:=HVW.out.open_
 go_wp2_with fail
 clear a0 a1 a2 a3 a4 a5 a6 a7 af az
 go_loopw [9,10,11,12,21] (fun v1 v2 v3 v4 i wr => ∃ (k : Nat) (x1 x2 x3 x4 : Int),k ≤ b.hs.length∧i = .int .i64 k∧v1 = .int .i64 x1∧v2 = .int .i64 x2∧v3 = .int .i64 x3∧v4 = .int .i64 x4∧Hid ((b.hs.take k).foldl (fewH ch) 0 = x1)∧Hid ((b.hs.take k).foldl (outH ch) 0 = x2)∧Hid ((b.hs.take k).foldl (slotFewH ch) 0 = x3)∧Hid ((b.hs.take k).foldl (slotH ch) 0 = x4)
   ∧ wr.heap[w.heap.size]? = some (.cells #[.int .i64 ci.Id,.int .i64 ci.Size,.int .i64 ci.Local,.int .i64 ci.Remote,.int .i64 ci.Base,.int .i64 ci.Ppm,.int .i64 ci.Score] 63 (0,0))
   ∧ wr.heap[w.heap.size + 1]? = some (.cells #[.int .i64 co.Id,.int .i64 co.Size,.int .i64 co.Local,.int .i64 co.Remote,.int .i64 co.Base,.int .i64 co.Ppm,.int .i64 co.Score] 63 (0,0))
   ∧ wr.heap[w.heap.size + 1 + 1]? = some (.cells #[.int .i64 e.Kind,.int .i64 e.Key,.int .i64 e.Ch,.int .i64 ch,.int .i64 e.Amt,.int .i64 e.Fee,.bool e.Yes] 37 (0,0))∧Below w.heap.size w wr) (fun _ _ _ _ i _ => b.hs.length - (intOf i).toNat)
 case atStart => exact ⟨0,_,_,_,_,Nat.zero_le _,rfl,rfl,rfl,rfl,rfl,hd_ rfl,hd_ rfl,hd_ rfl,hd_ rfl,HB0.out,HB1.out,HB2.out,HBV.out⟩
 case round =>
  obtain ⟨k,x1,x2,x3,x4,hk,rfl,rfl,rfl,rfl,rfl,H1,H2,H3,H4,hbox,hbi,hbo,hbw⟩:=hrel
  have hbz:=hbw.size
  have s6 : wr.cell? ⟨w.heap.size,6,none⟩ = some (.int .i64 ci.Score):=zqa hbox 6
  have o1 : wr.cell? ⟨w.heap.size + 1,1,none⟩ = some (.int .i64 co.Size):=zqa hbi 1
  have o0 : wr.cell? ⟨w.heap.size + 1 + 1,3,none⟩ = some (.int .i64 ch):=zqa hbo 3
  have o4 : wr.cell? ⟨w.heap.size + 1 + 1,4,none⟩ = some (.int .i64 e.Amt):=zqa hbo 4
  have o6 : wr.cell? ⟨w.heap.size + 1 + 1,6,none⟩ = some (.bool e.Yes):=zqa hbo 6
  have oz:=(gz_ hbo).1
  have iz:=(gz_ hbi).1
  have ezz:=(gz_ hbox).1
  have EH:=hd_ hbox
  have EI:=hd_ hbi
  have EO:=hd_ hbo
  clear hbox hbi hbo
  have bd1:=HS.out.few_bd ch k hk
  have bd2:=HS.out.outH_bd ch k hk
  have bd3:=slotFew_bd (hs:=b.hs) ch k hk
  have bd4:=slot_bd (hs:=b.hs) ch k hk
  rw [H1.out] at bd1
  rw [H2.out] at bd2
  rw [H3.out] at bd3
  rw [H4.out] at bd4
  obtain ⟨l1,u1⟩:=bd1
  obtain ⟨l2,u2⟩:=bd2
  obtain ⟨l3,u3⟩:=bd3
  obtain ⟨l4,u4⟩:=bd4
  by_cases hlt : k < b.hs.length
  ·
   obtain ⟨bb,off,rfl,hbB,c0,c1,c2,c3,c4,c5,c6⟩:=Htlc.rd (HH.out.below hbw) hlt
   obtain ⟨⟨m1,m2⟩,m3,m4⟩:=HS.out.h k hlt
   clear s6 o1 o4 o6
   have F1:=hd_ (zxc b.hs (fewH ch) 0 hlt)
   have F2:=hd_ (zxc b.hs (outH ch) 0 hlt)
   have F3:=hd_ (zxc b.hs (slotFewH ch) 0 hlt)
   have F4:=hd_ (zxc b.hs (slotH ch) 0 hlt)
   cases tx : (b.hs[k].Out == ch)
   ·
    have tn : (b.hs[k].Out != ch) = true:=by simp [bne,tx]
    have K1:=hd_ (show fewH ch x1 b.hs[k] = x1 by simp [fewH,tx])
    have K2:=hd_ (show outH ch x2 b.hs[k] = x2 by simp [outH,tx])
    have K3:=hd_ (show slotFewH ch x3 b.hs[k] = x3 by simp [slotFewH,tx])
    have K4:=hd_ (show slotH ch x4 b.hs[k] = x4 by simp [slotH,tx])
    clear tx
    go_wp2_with fail
    go_roundw
    case rel => exact ⟨k + 1,_,_,_,_,by omega,by go_num,rfl,rfl,rfl,rfl,hd_ (by rw [F1.out,H1.out,K1.out]),hd_ (by rw [F2.out,H2.out,K2.out]),hd_ (by rw [F3.out,H3.out,K3.out]),hd_ (by rw [F4.out,H4.out,K4.out]),zqc ezz EH.out,zqc iz EI.out,zqc oz EO.out,bl_⟩
    case measure => simp [intOf];omega
   ·
    have tn : (b.hs[k].Out != ch) = false:=by simp [bne,tx]
    cases ty : b.hs[k].Kept
    ·
     have K1:=hd_ (show fewH ch x1 b.hs[k] = x1 + b.hs[k].AmtOut by simp [fewH,tx,ty])
     have K2:=hd_ (show outH ch x2 b.hs[k] = x2 + b.hs[k].AmtOut by simp [outH,tx])
     have K3:=hd_ (show slotFewH ch x3 b.hs[k] = x3 + 1 by simp [slotFewH,tx,ty])
     have K4:=hd_ (show slotH ch x4 b.hs[k] = x4 + 1 by simp [slotH,tx])
     clear tx
     go_wp2_with fail
     go_roundw
     case rel => exact ⟨k + 1,_,_,_,_,by omega,by go_num,by first | rfl | go_num,by first | rfl | go_num,by first | rfl | go_num,by first | rfl | go_num,hd_ (by rw [F1.out,H1.out,K1.out]),hd_ (by rw [F2.out,H2.out,K2.out]),hd_ (by rw [F3.out,H3.out,K3.out]),hd_ (by rw [F4.out,H4.out,K4.out]),zqc ezz EH.out,zqc iz EI.out,zqc oz EO.out,bl_⟩
     case measure => simp [intOf];omega
    ·
     have K1:=hd_ (show fewH ch x1 b.hs[k] = x1 by simp [fewH,tx,ty])
     have K2:=hd_ (show outH ch x2 b.hs[k] = x2 + b.hs[k].AmtOut by simp [outH,tx])
     have K3:=hd_ (show slotFewH ch x3 b.hs[k] = x3 by simp [slotFewH,tx,ty])
     have K4:=hd_ (show slotH ch x4 b.hs[k] = x4 + 1 by simp [slotH,tx])
     clear tx
     go_wp2_with fail
     go_roundw
     case rel => exact ⟨k + 1,_,_,_,_,by omega,by go_num,by first | rfl | go_num,by first | rfl | go_num,by first | rfl | go_num,by first | rfl | go_num,hd_ (by rw [F1.out,H1.out,K1.out]),hd_ (by rw [F2.out,H2.out,K2.out]),hd_ (by rw [F3.out,H3.out,K3.out]),hd_ (by rw [F4.out,H4.out,K4.out]),zqc ezz EH.out,zqc iz EI.out,zqc oz EO.out,bl_⟩
     case measure => simp [intOf];omega
  ·
   obtain rfl : k = b.hs.length:=by omega
   have q1:=H1.out
   have q2:=H2.out
   have q3:=H3.out
   have q4:=H4.out
   rw [List.take_length] at q1 q2 q3 q4
   have HE:=hd_ (show roomF b.hs co ch e.Amt ci.Score e.Yes = allowF co.Size x1 x2 x3 x4 e.Amt (standB ci.Score e.Yes) by unfold roomF;rw [q1,q2,q3,q4])
   clear q1 q2 q3 q4 H1 H2 H3 H4
   go_wp2_with fail
   go_quiet (first | (go_at_call 94;exact zqi (i_Standing _ _ _)) | (go_at_call 93;exact zqi (i_Allow _ _ _ _ _ _ _ _ (by omega) (by omega))))
   go_wp2_with fail
   go_ret
   exact ⟨zxm HE.out.symm,bl_⟩
end Go.Proofs.Ytdbmkfmenfcbiaa
namespace Go.Proofs.Ytdbmkfmenfcbiaa
open Go.RowKit Go.Deep
def tailA (A : Option Addr) (cap k size : Nat) : Option Addr:=if cap = k then A else A.map (·.add (k * size))
theorem Rd.from_ {w : World} {B size : Nat} {A : Option Addr} {rows : List (List Value)} (h : Rd w B size A rows) {cap : Nat} (hc : rows.length ≤ cap) (k : Nat) : Rd w B size (tailA A cap k size) (rows.drop k):=by
  refine ⟨fun r hr => h.1 r (List.mem_of_mem_drop hr),fun hn => ?_⟩
  rw [List.length_drop] at hn
  obtain ⟨b,off,rfl,hb,hcell⟩:=h.2 (by omega)
  refine ⟨b,off + k * size,?_,hb,fun i r j v h1 h2 => ?_⟩
  · unfold tailA
    rw [if_neg (by omega)]
    simp [Addr.add]
  · rw [List.getElem?_drop] at h1
    have:=hcell (k + i) r j v h1 h2
    rw [Nat.add_mul] at this
    rw [show off + k * size + i * size + j = off + (k * size + i * size) + j by omega]
    exact this
theorem zmc {P : Program} {t : TypeId} {size n cap k : Nat} {A : Option Addr} {x : Int} (ht : P.underlying t = some (.slice (P.elem t))) (hsz : ∀ W : World,(sizeOf (P.elem t)).run P W = .ok size W) (hx : x = (k : Int)) (h1 : k ≤ n) (W : World) :
    (Instr.slice t (.slice A n cap) (some (.int .i64 x)) none none).run P W = .ok (.slice (tailA A cap k size) (n - k) (cap - k)) W:=by
  subst hx
  rw [run_slice_l (P:=P) W t A n cap ht .i64 (k : Int) (by omega) (by omega),hsz]
  simp [Result.andThen,sliced,tailA]
theorem sl_to {P : Program} {t : TypeId} {size n cap k : Nat} {A : Option Addr} {x : Int} (ht : P.underlying t = some (.slice (P.elem t))) (hsz : ∀ W : World,(sizeOf (P.elem t)).run P W = .ok size W) (hx : x = (k : Int)) (h1 : k ≤ cap) (W : World) :
    (Instr.slice t (.slice A n cap) none (some (.int .i64 x)) none).run P W = .ok (.slice A k cap) W:=by
  subst hx
  rw [run_slice_h (P:=P) W t A n cap ht .i64 (k : Int) (by omega) (by omega),hsz]
  have : A.map (fun a => a.add (0 * size)) = A:=by
    cases A with
    | none => rfl
    | some a => simp [Addr.add]
  simp only [Result.andThen,sliced,Int.toNat_natCast,Nat.sub_zero,this,ite_self]
theorem zhf {α : Type} (l : List α) (i : Nat) : l.take i ++ l.drop (i + 1) = l.eraseIdx i:=(List.eraseIdx_eq_take_drop_succ l i).symm
theorem map_erase {α β : Type} (f : α → β) (l : List α) (i : Nat) : (l.eraseIdx i).map f = (l.map f).eraseIdx i:=by
  rw [List.eraseIdx_eq_take_drop_succ,List.eraseIdx_eq_take_drop_succ,List.map_append,List.map_take,List.map_drop]
end Go.Proofs.Ytdbmkfmenfcbiaa
namespace Go.Proofs.Ytdbmkfmenfcbiaa
open Go.RowKit Go.Deep
def ovB (b : Bk) (e : Event) : Bool :=
 if b.n = 1125899906842624 then true
 else if e.Kind = 1 then decide (1125899906842624 < b.w + e.Amt)
 else if e.Kind = 2 then decide (1125899906842624 < e.Amt + e.Fee)
 else if e.Kind = 3∧0 ≤ chanIx b.cs e.Ch then decide (1125899906842624 < b.w + (chanOf b.cs e.Ch).Local - e.Fee)
 else if e.Kind = 8 then b.t == 1125899906842624
 else false
theorem ov_yes {b : Bk} {e : Event} (h : (b.ok && evB e) = true) (ho : ovB b e = true) : applyS b e = bad 2:=by
 by_cases hn : b.n = 1125899906842624
 ·
  exact applyS_2 h hn
 rw [applyS_3 h hn]
 unfold ovB at ho
 rw [if_neg hn] at ho
 unfold stepS
 split
 ·
  rename_i h1
  rw [if_pos h1] at ho
  unfold depB
  rw [if_pos (of_decide_eq_true ho)]
 rename_i h1
 rw [if_neg h1] at ho
 split
 ·
  rename_i h2
  rw [if_pos h2] at ho
  unfold openB
  rw [if_pos (of_decide_eq_true ho)]
 rename_i h2
 rw [if_neg h2] at ho
 by_cases h3 : e.Kind = 3∧0 ≤ chanIx b.cs e.Ch
 ·
  rw [if_pos h3] at ho
  rw [if_pos h3.1]
  unfold closeA
  rw [if_pos ⟨h3.2,of_decide_eq_true ho⟩]
 rw [if_neg h3] at ho
 by_cases h8 : e.Kind = 8
 ·
  rw [if_pos h8] at ho
  rw [if_neg (by omega),if_neg (by omega),if_neg (by omega),if_neg (by omega),if_neg (by omega),if_pos h8]
  unfold tickB
  rw [if_pos (eq_of_beq ho)]
 ·
  rw [if_neg h8] at ho
  cases ho
theorem ov_no {b : Bk} {e : Event} (ho : ovB b e = false) : b.n ≠ 1125899906842624∧(e.Kind = 1 → b.w + e.Amt ≤ 1125899906842624)∧(e.Kind = 2 → e.Amt + e.Fee ≤ 1125899906842624)∧(e.Kind = 3 → closeA b e = closeB b e)∧(e.Kind = 8 → b.t ≠ 1125899906842624):=by
 unfold ovB at ho
 by_cases hn : b.n = 1125899906842624
 ·
  rw [if_pos hn] at ho
  cases ho
 rw [if_neg hn] at ho
 refine ⟨hn,fun h1 => ?_,fun h2 => ?_,fun h3 => ?_,fun h8 => ?_⟩
 ·
  rw [if_pos h1] at ho
  have:=of_decide_eq_false ho
  omega
 ·
  rw [if_neg (by omega),if_pos h2] at ho
  have:=of_decide_eq_false ho
  omega
 ·
  rw [if_neg (by omega),if_neg (by omega)] at ho
  unfold closeA
  by_cases hx : 0 ≤ chanIx b.cs e.Ch
  ·
   rw [if_pos ⟨h3,hx⟩] at ho
   rw [if_neg (fun h => absurd h.2 (of_decide_eq_false ho))]
  ·
   rw [if_neg (fun h => hx h.1)]
 ·
  rw [if_neg (by omega),if_neg (by omega),if_neg (by omega),if_pos h8] at ho
  exact beq_eq_false_iff_ne.1 ho
set_option maxRecDepth 100000 in
set_option maxHeartbeats 4000000 in
theorem i_overflows (b : Bk) (e : Event) (A1 A2 A3 : Option Addr) (p1 p2 p3 : Nat) (w : World) (hF : BookFacts b.t b.n b.w b.cs b.hs b.os) (ha : amtB e.Amt = true) (hf : amtB e.Fee = true) (hr : RdBook w w.heap.size A1 b.cs A2 b.hs A3 b.os) :
  Calls Try.prog 52 #[.agg #[.int .i64 b.t,.int .i64 b.n,.int .i64 b.w,.slice A1 b.cs.length p1,.slice A2 b.hs.length p2,.slice A3 b.os.length p3],.agg #[.int .i64 e.Kind,.int .i64 e.Key,.int .i64 e.Ch,.int .i64 e.To,.int .i64 e.Amt,.int .i64 e.Fee,.bool e.Yes]] w fun e' w' => e' = .returned (.bool (ovB b e))∧Below w.heap.size w w':=by
 obtain ⟨k,key,ch,ot,amt,fee,yes⟩:=e
 dsimp only at ha hf ⊢
 obtain ⟨a1,a2⟩:=zkg.1 ha
 obtain ⟨f1,f2⟩:=zkg.1 hf
 obtain ⟨w1,w2⟩:=hF.w
 have hcl:=hF.cl
 have HF:=hd_ hF
 have HR:=hd_ hr
 clear hF hr ha hf
 obtain ⟨r,hr⟩ : ∃ r,ovB b ⟨k,key,ch,ot,amt,fee,yes⟩ = r:=⟨_,rfl⟩
 rw [hr]
 have HRS:=hd_ hr
 clear hr
 have HG_w : Hid (Below w.heap.size w w):=hd_ (Below.refl _ _)
 go_enter Try.func52,Try.ntmps52
 go_upto_region 1 with fail
 refine nm_ ?_
 intro w11 hw
 have HG_w11 : Hid (Below w.heap.size w w11):=hd_ (by rw [hw];exact ((HG_w.out).alloc (by have:=HG_w.out.size;first | omega | (simp;done) | (simp;omega)) _).alloc (by have:=HG_w.out.size;first | omega | (simp;done) | (simp;omega)) _)
 obtain ⟨KB,h9K⟩ : ∃ v,v = w.heap.size:=⟨_,rfl⟩
 have HK_w11 : Hid (w11.heap[KB]? = some (.cells #[.int .i64 b.t,.int .i64 b.n,.int .i64 b.w,.slice A1 b.cs.length p1,.slice A2 b.hs.length p2,.slice A3 b.os.length p3] 34 (0,0))):=hd_ (by rw [hw,h9K];first | done | exact zqc (by simp) (zqm (by first | rfl | (simp;done))))
 have HLK : Hid (w.heap.size ≤ KB):=hd_ (by have:=HG_w.out.size;omega)
 obtain ⟨MB,h9M⟩ : ∃ v,v = w.heap.size + 1:=⟨_,rfl⟩
 have HM_w11 : Hid (w11.heap[MB]? = some (.cells #[.int .i64 k,.int .i64 key,.int .i64 ch,.int .i64 ot,.int .i64 amt,.int .i64 fee,.bool yes] 37 (0,0))):=hd_ (by rw [hw,h9M];first | done | exact zqm (by first | rfl | (simp;done)))
 have HLM : Hid (w.heap.size ≤ MB):=hd_ (by have:=HG_w.out.size;omega)
 try rw [← h9M]
 try rw [← h9K]
 have HNMK : Hid (MB ≠ KB):=hd_ (by omega)
 clear hw h9K h9M
 obtain ⟨K0,K1,K2,K3,K4,K5,Kf,Kz⟩:=box6_ HK_w11.out
 obtain ⟨M0,M1,M2,M3,M4,M5,M6,Mf,Mz⟩:=box7_ HM_w11.out
 obtain ⟨ix,hix⟩ : ∃ v,chanIx b.cs ch = v:=⟨_,rfl⟩
 have HIX:=hd_ hix
 clear hix
 go_wp2_with fail
 refine (zwf b.t b.n b.w b.cs b.hs b.os _ _ _ _ _ _ ch _ (by omega) ((HR.out.below HG_w11.out).more HG_w11.out.size)).mono ?_
 rintro e' w12 ⟨rfl,hb⟩
 rw [HIX.out]
 have HG_w12:=hd_ (HG_w11.out.trans (hb.mono HG_w11.out.size))
 have HK_w12:=hd_ (zqb hb (gz_ HK_w11.out).1 HK_w11.out)
 have HM_w12:=hd_ (zqb hb (gz_ HM_w11.out).1 HM_w11.out)
 clear hb
 clear K0 K1 K2 K3 K4 K5 M0 M1 M2 M3 M4 M5 M6 Kf Mf Kz Mz
 obtain ⟨K0,K1,K2,K3,K4,K5,Kf,Kz⟩:=box6_ HK_w12.out
 obtain ⟨M0,M1,M2,M3,M4,M5,M6,Mf,Mz⟩:=box7_ HM_w12.out
 cases tn : (b.n == 1125899906842624)
 ·
  have HN:=hd_ (beq_eq_false_iff_ne.1 tn)
  cases tk1 : (k == 1)
  ·
   have h1:=beq_eq_false_iff_ne.1 tk1
   have H1:=hd_ h1
   clear h1
   cases tk2 : (k == 2)
   ·
    have h2:=beq_eq_false_iff_ne.1 tk2
    have H2:=hd_ h2
    clear h2
    cases tk3 : (k == 3)
    ·
     have h3:=beq_eq_false_iff_ne.1 tk3
     have H3:=hd_ h3
     clear h3
     cases tk8 : (k == 8)
     ·
      have H8:=hd_ (beq_eq_false_iff_ne.1 tk8)
      go_wp2_with fail
      go_ret
      exact ⟨zqf (by rw [← HRS.out];unfold ovB;rw [if_neg HN.out,if_neg H1.out,if_neg H2.out,if_neg (fun h => H3.out h.1),if_neg H8.out]),HG_w12.out⟩
     ·
      have H8:=hd_ (eq_of_beq tk8)
      go_wp2_with fail
      go_ret
      exact ⟨zqf (by rw [← HRS.out];unfold ovB;rw [if_neg HN.out,if_neg H1.out,if_neg H2.out,if_neg (fun h => H3.out h.1),if_pos H8.out]),HG_w12.out⟩
    ·
     have H3:=hd_ (eq_of_beq tk3)
     cases tx : decide (ix ≥ 0)
     ·
      have HX:=hd_ (of_decide_eq_false tx)
      have tk8 : (k == 8) = false:=beq_eq_false_iff_ne.2 (by rw [H3.out];decide)
      go_wp2_with fail
      go_ret
      exact ⟨zqf (by rw [← HRS.out];unfold ovB;rw [if_neg HN.out,if_neg H1.out,if_neg H2.out,if_neg (fun h => absurd h.2 (by have:=HX.out;rw [HIX.out];omega)),if_neg (by simp only;rw [H3.out];decide)]),HG_w12.out⟩
     ·
      have hx:=of_decide_eq_true tx
      obtain ⟨i,hi⟩:=Int.eq_ofNat_of_zero_le (show 0 ≤ ix from hx)
      subst hi
      have hlt:=zjh HIX.out
      have hloc:=HF.out.local_ hlt
      have hco : chanOf b.cs ch = b.cs[i]:=by unfold chanOf;rw [HIX.out,Int.toNat_natCast,List.getD_eq_getElem?_getD,List.getElem?_eq_getElem hlt];rfl
      have HCO:=hd_ hco
      have HX:=hd_ hx
      clear hco hx
      obtain ⟨bb,off,hA,hbB,c0,c1,c2,c3,c4,c5,c6⟩:=Chan.rd (HR.out.c.below HG_w12.out) hlt
      subst hA
      clear K0 K1 K2 K3 K4 K5 M0 M1 M2 M3 M4 M5 M6 Kf Mf Kz Mz
      obtain ⟨K0,K1,K2,K3,K4,K5,Kf,Kz⟩:=box6_ HK_w12.out
      obtain ⟨M0,M1,M2,M3,M4,M5,M6,Mf,Mz⟩:=box7_ HM_w12.out
      obtain ⟨l,hl⟩ : ∃ l,b.cs[i].Local = l:=⟨_,rfl⟩
      rw [hl] at c2 hloc
      have HLO:=hd_ hl
      clear hl
      have i1 : (0 : Int) ≤ (i : Int):=by omega
      have i2 : (i : Int) < (b.cs.length : Int):=by omega
      have ws1 : IntKind.i64.wrap (b.w + l) = b.w + l:=IntWalk.i64_in _ ⟨by omega,by omega⟩
      have ws2 : IntKind.i64.wrap (b.w + l - fee) = b.w + l - fee:=IntWalk.i64_in _ ⟨by omega,by omega⟩
      go_wp2_with fail
      go_region
      all_goals go_wp2_with fail
      all_goals go_ret
      all_goals exact ⟨zqf (by rw [← HRS.out];unfold ovB;rw [if_neg HN.out,if_neg H1.out,if_neg H2.out,if_pos ⟨H3.out,by simp only;rw [HIX.out];exact HX.out⟩,HCO.out,HLO.out]),HG_w12.out.drew⟩
   ·
    have H2:=hd_ (eq_of_beq tk2)
    have ws : IntKind.i64.wrap (amt + fee) = amt + fee:=IntWalk.i64_in _ ⟨by omega,by omega⟩
    go_wp2_with fail
    go_ret
    exact ⟨zqf (by rw [← HRS.out];unfold ovB;rw [if_neg HN.out,if_neg H1.out,if_pos H2.out]),HG_w12.out⟩
  ·
   have H1:=hd_ (eq_of_beq tk1)
   have ws : IntKind.i64.wrap (b.w + amt) = b.w + amt:=IntWalk.i64_in _ ⟨by omega,by omega⟩
   go_wp2_with fail
   go_ret
   exact ⟨zqf (by rw [← HRS.out];unfold ovB;rw [if_neg HN.out,if_pos H1.out]),HG_w12.out⟩
 ·
  have HN:=hd_ (eq_of_beq tn)
  go_wp2_with fail
  go_ret
  exact ⟨zqf (by rw [← HRS.out];unfold ovB;rw [if_pos HN.out]),HG_w12.out⟩
end Go.Proofs.Ytdbmkfmenfcbiaa
namespace Go.Proofs.Ytdbmkfmenfcbiaa
open Go.RowKit Go.Deep
theorem keys_ne {ks : List Int} (h : everyTo ks.length (keyAt ks) = true) {i j : Nat} (hij : i < j) (hj : j < ks.length) : ks[i]'(by omega) ≠ ks[j]:=by
 have h1:=everyTo_iff.1 h j hj
 rw [keyAt_eq hj,Bool.and_eq_true] at h1
 intro e
 have h2 : hasB (ks.take j) ks[j] = true:=by
  unfold hasB
  rw [List.any_eq_true]
  refine ⟨ks[i]'(by omega),?_,by rw [e];simp⟩
  rw [List.mem_take_iff_getElem]
  exact ⟨i,by omega,rfl⟩
 rw [h2] at h1
 exact absurd h1.2 (by decide)
theorem hs_ne {bt bn bw : Int} {cs : List Chan} {hs : List Htlc} {os : List Circle} (hF : BookFacts bt bn bw cs hs os) {i j : Nat} (hij : i < j) (hj : j < hs.length) : (hs[i]'(by omega)).Key ≠ hs[j].Key:=by
 have hp:=hF.parts
 simp only [partsB,Bool.and_eq_true] at hp
 have h2:=hp.2
 unfold keysOf at h2
 have hl : j < (hs.map Htlc.Key ++ os.map Circle.Key).length:=by rw [List.length_append,List.length_map];omega
 have:=keys_ne h2 hij hl
 rw [List.getElem_append_left (by rw [List.length_map];omega),List.getElem_append_left (by rw [List.length_map];omega),List.getElem_map,List.getElem_map] at this
 exact this
theorem os_ne {bt bn bw : Int} {cs : List Chan} {hs : List Htlc} {os : List Circle} (hF : BookFacts bt bn bw cs hs os) {i j : Nat} (hij : i < j) (hj : j < os.length) : (os[i]'(by omega)).Key ≠ os[j].Key:=by
 have hp:=hF.parts
 simp only [partsB,Bool.and_eq_true] at hp
 have h2:=hp.2
 unfold keysOf at h2
 have hl : hs.length + j < (hs.map Htlc.Key ++ os.map Circle.Key).length:=by rw [List.length_append,List.length_map,List.length_map];omega
 have:=keys_ne h2 (show hs.length + i < hs.length + j by omega) hl
 rw [List.getElem_append_right (by rw [List.length_map];omega),List.getElem_append_right (by rw [List.length_map];omega),List.getElem_map,List.getElem_map] at this
 simpa using this
theorem hAt_some {hs : List Htlc} {key : Int} {i : Nat} (h : hAt hs key = (i : Int)) : ∃ hl : i < hs.length,hs[i].Key = key:=by
 unfold hAt at h
 split at h
 ·
  rename_i j hj
  obtain ⟨h1,h2,_⟩:=List.findIdx?_eq_some_iff_getElem.1 hj
  have : j = i:=by omega
  subst this
  exact ⟨h1,by simpa [notKeyH] using h2⟩
 ·
  omega
theorem oAt_some {os : List Circle} {key : Int} {i : Nat} (h : oAt os key = (i : Int)) : ∃ hl : i < os.length,os[i].Key = key:=by
 unfold oAt at h
 split at h
 ·
  rename_i j hj
  obtain ⟨h1,h2,_⟩:=List.findIdx?_eq_some_iff_getElem.1 hj
  have : j = i:=by omega
  subst this
  exact ⟨h1,by simpa [notKeyC] using h2⟩
 ·
  omega
theorem ztg (key : Int) : ∀ (l : List Htlc) (r : Htlc),(∀ x ∈ l,x.Key ≠ key) → l.foldl (pickH key) r = r
 | [],_,_ => rfl
 | x :: l,r,h => by
  have e : pickH key r x = r:=by unfold pickH;rw [if_neg (by simpa using h x (by simp))]
  rw [List.foldl_cons,e]
  exact ztg key l r (fun y hy => h y (by simp [hy]))
theorem ztf (key : Int) : ∀ (l : List Circle) (r : Circle),(∀ x ∈ l,x.Key ≠ key) → l.foldl (pickC key) r = r
 | [],_,_ => rfl
 | x :: l,r,h => by
  have e : pickC key r x = r:=by unfold pickC;rw [if_neg (by simpa using h x (by simp))]
  rw [List.foldl_cons,e]
  exact ztf key l r (fun y hy => h y (by simp [hy]))
theorem zth {α : Type} {l : List α} {i : Nat} (h : i < l.length) : l = l.take i ++ l[i] :: l.drop (i + 1):=by rw [List.getElem_cons_drop,List.take_append_drop]
theorem hs_found {bt bn bw : Int} {cs : List Chan} {hs : List Htlc} {os : List Circle} (hF : BookFacts bt bn bw cs hs os) {key : Int} {i : Nat} (h : hAt hs key = (i : Int)) (hl : i < hs.length) : lastH hs key = hs[i]∧hs.filter (notKeyH key) = hs.eraseIdx i:=by
 obtain ⟨_,hk⟩:=hAt_some h
 have hA : ∀ x ∈ hs.take i,x.Key ≠ key:=by
  intro x hx
  obtain ⟨j,hj,rfl⟩:=List.mem_take_iff_getElem.1 hx
  rw [← hk]
  exact hs_ne hF (by omega) hl
 have hB : ∀ x ∈ hs.drop (i + 1),x.Key ≠ key:=by
  intro x hx
  obtain ⟨j,hj,rfl⟩:=List.mem_iff_getElem.1 hx
  rw [List.length_drop] at hj
  rw [List.getElem_drop,← hk]
  exact (hs_ne hF (show i < i + 1 + j by omega) (by omega)).symm
 constructor
 ·
  unfold lastH
  have e1 : hs.foldl (pickH key) htlc0 = (hs.take i ++ hs[i] :: hs.drop (i + 1)).foldl (pickH key) htlc0:=by rw [← zth hl]
  have hk2 : (hs[i].Key == key) = true:=by rw [hk];simp
  have e2 : pickH key htlc0 hs[i] = hs[i]:=by unfold pickH;rw [if_pos hk2]
  rw [e1,List.foldl_append,ztg key _ _ hA,List.foldl_cons,e2,ztg key _ _ hB]
 ·
  rw [List.eraseIdx_eq_take_drop_succ]
  have e1 : hs.filter (notKeyH key) = (hs.take i ++ hs[i] :: hs.drop (i + 1)).filter (notKeyH key):=by rw [← zth hl]
  rw [e1,List.filter_append,List.filter_cons_of_neg (by simp [notKeyH,hk]),List.filter_eq_self.2 (fun x hx => by simpa [notKeyH] using hA x hx),List.filter_eq_self.2 (fun x hx => by simpa [notKeyH] using hB x hx)]
theorem os_found {bt bn bw : Int} {cs : List Chan} {hs : List Htlc} {os : List Circle} (hF : BookFacts bt bn bw cs hs os) {key : Int} {i : Nat} (h : oAt os key = (i : Int)) (hl : i < os.length) : lastC os key = os[i]∧os.filter (notKeyC key) = os.eraseIdx i:=by
 obtain ⟨_,hk⟩:=oAt_some h
 have hA : ∀ x ∈ os.take i,x.Key ≠ key:=by
  intro x hx
  obtain ⟨j,hj,rfl⟩:=List.mem_take_iff_getElem.1 hx
  rw [← hk]
  exact os_ne hF (by omega) hl
 have hB : ∀ x ∈ os.drop (i + 1),x.Key ≠ key:=by
  intro x hx
  obtain ⟨j,hj,rfl⟩:=List.mem_iff_getElem.1 hx
  rw [List.length_drop] at hj
  rw [List.getElem_drop,← hk]
  exact (os_ne hF (show i < i + 1 + j by omega) (by omega)).symm
 constructor
 ·
  unfold lastC
  have e1 : os.foldl (pickC key) circle0 = (os.take i ++ os[i] :: os.drop (i + 1)).foldl (pickC key) circle0:=by rw [← zth hl]
  have hk2 : (os[i].Key == key) = true:=by rw [hk];simp
  have e2 : pickC key circle0 os[i] = os[i]:=by unfold pickC;rw [if_pos hk2]
  rw [e1,List.foldl_append,ztf key _ _ hA,List.foldl_cons,e2,ztf key _ _ hB]
 ·
  rw [List.eraseIdx_eq_take_drop_succ]
  have e1 : os.filter (notKeyC key) = (os.take i ++ os[i] :: os.drop (i + 1)).filter (notKeyC key):=by rw [← zth hl]
  rw [e1,List.filter_append,List.filter_cons_of_neg (by simp [notKeyC,hk]),List.filter_eq_self.2 (fun x hx => by simpa [notKeyC] using hA x hx),List.filter_eq_self.2 (fun x hx => by simpa [notKeyC] using hB x hx)]
theorem hAt_neg {hs : List Htlc} {key : Int} (h : hAt hs key < 0) : ∀ x ∈ hs,x.Key ≠ key:=by
 intro x hx
 unfold hAt at h
 split at h
 ·
  omega
 ·
  rename_i hf
  rw [List.findIdx?_eq_none_iff] at hf
  have:=hf x hx
  simpa [notKeyH] using this
theorem oAt_neg {os : List Circle} {key : Int} (h : oAt os key < 0) : ∀ x ∈ os,x.Key ≠ key:=by
 intro x hx
 unfold oAt at h
 split at h
 ·
  omega
 ·
  rename_i hf
  rw [List.findIdx?_eq_none_iff] at hf
  have:=hf x hx
  simpa [notKeyC] using this
theorem hs_missed {hs : List Htlc} {key : Int} (h : hAt hs key < 0) : (lastH hs key).Key = 0:=by
 unfold lastH
 rw [ztg key hs htlc0 (hAt_neg h)]
 rfl
theorem os_missed {os : List Circle} {key : Int} (h : oAt os key < 0) : (lastC os key).Key = 0:=by
 unfold lastC
 rw [ztf key os circle0 (oAt_neg h)]
 rfl
/-! ### channels put cell by cell -/
theorem zma {cs : List Chan} {ch d : Int} {i : Nat} {y0 y1 y2 y3 y4 y5 y6 : Int} (hi : chanIx cs ch = (i : Int)) (hl : i < cs.length) (hc : cs[i] = ⟨y0,y1,y2,y3,y4,y5,y6⟩) : moveC cs ch d 0 = cs.set i ⟨y0,y1,y2 + d,y3,y4,y5,y6⟩:=by
 unfold moveC
 rw [zhh hi hl,hc]
 simp [moveF]
theorem zmb {cs : List Chan} {ch d : Int} {i : Nat} {y0 y1 y2 y3 y4 y5 y6 : Int} (hi : chanIx cs ch = (i : Int)) (hl : i < cs.length) (hc : cs[i] = ⟨y0,y1,y2,y3,y4,y5,y6⟩) : moveC cs ch 0 d = cs.set i ⟨y0,y1,y2,y3 + d,y4,y5,y6⟩:=by
 unfold moveC
 rw [zhh hi hl,hc]
 simp [moveF]
/-! ### lines -/
theorem addF_mem {x : Line} : ∀ {l : List Line},(∀ z ∈ l,¬(z.Kind = x.Kind∧z.Ch = x.Ch)) → ∀ y ∈ addF x l,y ∈ l ∨ y = x
 | [],_,y,hy => by simpa [addF] using hy
 | z :: l,h,y,hy => by
  rw [addF] at hy
  split at hy
  ·
   rcases List.mem_cons.1 hy with h1 | h1
   ·
    exact .inl (by simp [h1])
   ·
    rcases addF_mem (fun u hu => h u (by simp [hu])) y h1 with h2 | h2
    ·
     exact .inl (by simp [h2])
    ·
     exact .inr h2
  ·
   rw [if_neg (h z (by simp))] at hy
   rcases List.mem_cons.1 hy with h1 | h1
   ·
    exact .inr h1
   ·
    exact .inl h1
theorem zje {L : List Line} {k c a : Int} (h : ∀ z ∈ L,¬(z.Kind = k∧z.Ch = c)) {y : Line} (hy : y ∈ lineTo L k c a) : y ∈ L ∨ y = ⟨k,c,a⟩:=by
 unfold lineTo at hy
 split at hy
 ·
  exact .inl hy
 ·
  exact addF_mem (x:=⟨k,c,a⟩) h y hy
end Go.Proofs.Ytdbmkfmenfcbiaa
