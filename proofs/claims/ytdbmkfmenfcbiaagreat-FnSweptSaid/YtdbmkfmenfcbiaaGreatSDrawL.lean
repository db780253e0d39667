/- Draws of accounts, lines added tq lines. -/
import Derived.Test.YtdbmkfmenfcbiaaGreatRows
import Derived.Test.YtdbmkfmenfcbiaaGreatSM1
import Derived.IntWalk
namespace Go.Proofs.YtdbmkfmenfcbiaaGreat
open Go.RowKit
theorem zmy : (Tryz.prog.info? 99).map (fun i => (i.zero,i.size,i.bytes)) = some (some (.agg #[.int .i64 0,.int .i64 0,.int .i64 0]),3,24):=by kernel_rfl
theorem zqy {a b : Nat} (h : a ≠ b) : some a ≠ some b:=fun e => h (Option.some.inj e)
theorem zxf {a w : World} {r : Option Nat} (h : a.grownBy w r) (o : Obj) : a.grownBy (w.alloc o) r:=zql h (zki ((Below.refl _ _).alloc (Nat.le_refl _) o))
theorem zqc {a w : World} {r : Option Nat} {b : Nat} (h : a.grownBy w r) (hb : a.heap.size ≤ b) (i : Nat) (u : Value) : a.grownBy (w.setCell ⟨b,i,none⟩ u) r :=
 ⟨h.os,h.tape,h.output,by simpa [World.setCell] using h.size,fun k hk hne => (Below.heap_setCell w ⟨b,i,none⟩ u k (fun e => by simp only at e;omega)).trans (h.block k hk hne)⟩
theorem zke {a w w' : World} {r : Option Nat} (h : a.grownBy w r) (hb : Below w.heap.size w w') : a.grownBy w' r:=zql h (zki hb)
theorem Ow.pastL {w w' : World} {B g : Nat} {e : TypeId} {n : Nat} {v : Value} {rows : List (List Value)} (h : Ow w B e n v rows) (hg : w.grownBy w' (some g)) (hB : g < B) : Ow w' B e n v rows :=
 h.grown hg (by
  cases hv : v.ownBlock with
  | none => exact .inl rfl
  | some k => exact .inr (zqy (by have:=(h.block k hv).1;omega)))
def addX (y x : Line) : Line:=⟨y.Kind,y.Ch,wrap64 (y.Amt + x.Amt)⟩
def addF (x : Line) : List Line → List Line
 | [] => [x]
 | y :: l => if lessB y.Kind y.Ch x.Kind x.Ch = true then y :: addF x l else if y.Kind = x.Kind∧y.Ch = x.Ch then (if wrap64 (y.Amt + x.Amt) = 0 then l else addX y x :: l) else x :: y :: l
theorem zmf (x : Line) : ∀ l : List Line,(addF x l).length ≤ l.length + 1
 | [] => Nat.le_refl _
 | y :: l => by
  have:=zmf x l
  rw [addF]
  split
  ·
   simp only [List.length_cons];omega
  ·
   split
   ·
    split
    ·
     simp only [List.length_cons];omega
    ·
     simp only [List.length_cons];omega
   ·
    simp only [List.length_cons];omega
set_option maxRecDepth 100000 in
set_option maxHeartbeats 4000000 in
theorem s_l02Add (l : List Line) (A : Option Addr) (cap : Nat) (xk xc xa : Int) (w : World) (hl : l.length ≤ 1048576) (hr : Rd w w.heap.size 3 A (l.map Line.cells)) :
  Calls Tryz.prog 109 #[.slice A l.length cap,.agg #[.int .i64 xk,.int .i64 xc,.int .i64 xa]] w fun e w' => ∃ A' cap',e = .returned (.slice A' (addF ⟨xk,xc,xa⟩ l).length cap')∧Ow w' w.heap.size 99 3 (.slice A' (addF ⟨xk,xc,xa⟩ l).length cap') ((addF ⟨xk,xc,xa⟩ l).map Line.cells)∧Below w.heap.size w w':=by
 have HR:=hd_ hr
 clear hr
 obtain ⟨i0,hi,hz0,hz1,hz2⟩:=info_parts zmy
 have HI:=hd_ hi
 have HZ0:=hd_ hz0
 have HZ1:=hd_ hz1
 have HZ2:=hd_ hz2
 clear hi hz0 hz1 hz2
 have HE0:=hd_ (Ow.empty_ (w:=w.alloc (.cells #[.int .i64 xk,.int .i64 xc,.int .i64 xa] 99)) (g:=w.heap.size + 1) (e:=99) (size:=3) (B:=w.heap.size + 1) (by simp) (Nat.le_refl _))
 have XH0:=hd_ (show ((w.alloc (.cells #[.int .i64 xk,.int .i64 xc,.int .i64 xa] 99)).alloc (.cells #[] 99)).heap[w.heap.size]? = some (.cells #[.int .i64 xk,.int .i64 xc,.int .i64 xa] 99 (0,0)) from zqg (by simp) (zqm rfl))
 go_enter Tryz.func109,Tryz.ntmps109
 go_wp2_with fail
 go_loopw [5,6,12] (fun vo vd i wr => ∃ (k : Nat) (d : Bool) (o : List Line) (B : Option Addr) (cp : Nat),k ≤ l.length∧i = .int .i64 k∧vd = .bool d∧vo = .slice B o.length cp∧((d = false → o.length ≤ k)∧o.length ≤ k + 1)∧Hid (addF ⟨xk,xc,xa⟩ l = o ++ (if d = true then l.drop k else addF ⟨xk,xc,xa⟩ (l.drop k)))∧Ow wr (w.heap.size + 1) 99 3 (.slice B o.length cp) (o.map Line.cells)∧wr.heap[w.heap.size]? = some (.cells #[.int .i64 xk,.int .i64 xc,.int .i64 xa] 99 (0,0))∧Below w.heap.size w wr) (fun _ _ i _ => l.length - (intOf i).toNat)
 case atStart => exact ⟨0,false,[],some ⟨w.heap.size + 1,0,none⟩,0,Nat.zero_le _,rfl,rfl,rfl,⟨fun _ => Nat.zero_le _,Nat.zero_le _⟩,hd_ rfl,HE0.out,XH0.out,bl_⟩
 case round =>
  obtain ⟨k,d,o,B,cp,hk,rfl,rfl,rfl,⟨hol0,hol⟩,HE,how,hxh,hbw⟩:=hrel
  have hbz:=hbw.size
  have hxz:=(gz_ hxh).1
  obtain ⟨_,e0,e1,e2,ef,_⟩:=own3 (Below.refl wr.heap.size wr) hxz hxh
  have XH:=hd_ hxh
  have OB:=hd_ how.block
  have HW:=hd_ how
  clear how hxh
  by_cases hlt : k < l.length
  ·
   obtain ⟨b,off,rfl,hbB,c0,c1,c2⟩:=Line.rd (HR.out.below hbw) hlt
   have hdr:=List.drop_eq_getElem_cons hlt
   obtain ⟨yk,hyk⟩ : ∃ v,l[k].Kind = v:=⟨_,rfl⟩
   obtain ⟨yc,hyc⟩ : ∃ v,l[k].Ch = v:=⟨_,rfl⟩
   obtain ⟨ya,hya⟩ : ∃ v,l[k].Amt = v:=⟨_,rfl⟩
   have hlk : l[k] = ⟨yk,yc,ya⟩:=by rw [← hyk,← hyc,← hya]
   rw [hyk] at c0
   rw [hyc] at c1
   rw [hya] at c2
   rw [hlk] at hdr
   have HDR:=hd_ hdr
   clear hyk hyc hya hlk hdr
   cases d
   ·
    have hol1:=hol0 rfl
    clear hol0
    obtain ⟨bl,hbl⟩ : ∃ bl,lessB yk yc xk xc = bl:=⟨_,rfl⟩
    have HBL:=hd_ hbl
    have HEA:=hd_ (fun W => eq_acc W yk yc xk xc)
    have HNA:=hd_ (fun W => neq_acc W yk yc xk xc)
    clear hbl
    go_wp2_with fail
    refine (zsc yk yc xk xc _).mono ?_
    rintro e w2 ⟨rfl,hb2⟩
    have z2:=hb2.size
    try simp at z2
    rw [HBL.out]
    have yh2 : w2.heap[wr.heap.size]? = some (.cells #[.int .i64 yk,.int .i64 yc,.int .i64 ya] 99 (0,0)):=zqe hb2 (by simp) (zqm rfl)
    have xh2:=zqe hb2 (by simp;omega) (zqg hxz XH.out)
    have HW2:=hd_ ((HW.out.alloc (.cells #[.int .i64 yk,.int .i64 yc,.int .i64 ya] 99)).below hb2)
    have hbw2 : Below w.heap.size w w2:=bl_
    have hbz2:=hbw2.size
    clear hb2 e0 e1 e2 ef c0 c1 c2 HW XH
    obtain ⟨_,e0,e1,e2,ef,hxz2⟩:=own3 (Below.refl w2.heap.size w2) (gz_ xh2).1 xh2
    obtain ⟨_,c0,c1,c2,cf,hyz2⟩:=own3 (Below.refl w2.heap.size w2) (gz_ yh2).1 yh2
    have XH2:=hd_ xh2
    have YH2:=hd_ yh2
    obtain ⟨Y,hY⟩ : ∃ Y,wr.heap.size = Y:=⟨_,rfl⟩
    have hYw : w.heap.size + 1 ≤ Y:=by omega
    have NX : some w.heap.size ≠ (Value.slice B o.length cp).ownBlock:=fun e => by have:=(OB.out _ e.symm).1;omega
    have NY : some Y ≠ (Value.slice B o.length cp).ownBlock:=fun e => by have:=(OB.out _ e.symm).2;omega
    rw [hY] at c0 c1 c2 cf YH2 hyz2 ⊢
    have KX:=hd_ (fun o1 (w6 : World) (hgr : (w2.alloc o1).grownBy w6 (Value.slice B o.length cp).ownBlock) => zqd hgr NX (zqg hxz2 XH2.out))
    have KY:=hd_ (fun o1 (w6 : World) (hgr : (w2.alloc o1).grownBy w6 (Value.slice B o.length cp).ownBlock) => zqd hgr NY (zqg hyz2 YH2.out))
    have KB:=hd_ (fun o1 (w6 : World) (hgr : (w2.alloc o1).grownBy w6 (Value.slice B o.length cp).ownBlock) => (hbw2.alloc (Nat.le_trans (Nat.le_refl _) hbz2) o1).grown hgr (by simp;omega) (fun k e => by have:=(OB.out k e).1;omega))
    clear NX NY xh2 yh2 z2 hY
    cases bl
    ·
     by_cases he : yk = xk∧yc = xc
     ·
      have hq1 : ∀ W,(binOp .neq 55 (.agg #[.int .i64 yk,.int .i64 yc]) (.agg #[.int .i64 xk,.int .i64 xc])).run Tryz.prog W = .ok (.bool false) W:=fun W => by rw [HNA.out W,zme he];rfl
      have hq2 : ∀ W,(binOp .eql 55 (.agg #[.int .i64 yk,.int .i64 yc]) (.agg #[.int .i64 xk,.int .i64 xc])).run Tryz.prog W = .ok (.bool true) W:=fun W => by rw [HEA.out W,zme he]
      obtain ⟨S,hS⟩ : ∃ S,wrap64 (ya + xa) = S:=⟨_,rfl⟩
      have hS' : IntKind.i64.wrap (ya + xa) = S:=by rw [IntKind.wrap_i64,← hS];unfold wrap64;omega
      have HS:=hd_ hS
      by_cases hs0 : S = 0
      ·
       have ts : (S == 0) = true:=by rw [hs0];rfl
       have HE2:=hd_ (show addF ⟨xk,xc,xa⟩ l = o ++ (if true = true then l.drop (k + 1) else addF ⟨xk,xc,xa⟩ (l.drop (k + 1))) by
        rw [HE.out,if_neg (by simp),HDR.out,addF,if_neg (by simp only;rw [HBL.out];simp),if_pos he,if_pos (by simp only;rw [HS.out,hs0]),if_pos rfl])
       clear he hs0
       go_wp2_with fail
       go_roundw
       case rel => exact ⟨k + 1,true,o,B,cp,by omega,by go_num,rfl,rfl,⟨(fun h => by cases h),by omega⟩,hd_ HE2.out,HW2.out,XH2.out,hbw2⟩
       case measure => simp [intOf];omega
      ·
       have ts : (S == 0) = false:=by simpa using hs0
       have HE2:=hd_ (show addF ⟨xk,xc,xa⟩ l = (o ++ [⟨yk,yc,S⟩]) ++ (if true = true then l.drop (k + 1) else addF ⟨xk,xc,xa⟩ (l.drop (k + 1))) by
        rw [HE.out,if_neg (by simp),HDR.out,addF,if_neg (by simp only;rw [HBL.out];simp),if_pos he,if_neg (by simp only;rw [HS.out];exact hs0),if_pos rfl,addX];simp only;rw [HS.out];simp)
       clear he hs0
       go_wp2_with (at_builtin;refine zqr rfl _ _ _ rfl (w.heap.size + 1) 99 i0 _ 3 24 Tryz.underlying45 HI.out HZ0.out HZ1.out HZ2.out rfl (by decide) (.slice B o.length cp) (o.map Line.cells) rfl (HW2.out.alloc _) (w2.heap.size) 1 [.int .i64 yk,.int .i64 yc,.int .i64 S] 99 rfl (zqm (by first | rfl | (simp;done))) rfl (by simp [Value.oneCell']) (by rw [List.length_map];first | omega | (simp;omega)) (by decide) (by first | omega | (simp;omega) | (simp;done)) ?_;intro g6 cap6 w6 how6 hgr6 hat6 hlt6;rw [List.length_map] at how6;rw [List.length_map];have xh6:=KX.out _ _ hgr6;have yh6:=KY.out _ _ hgr6;have hb6:=KB.out _ _ hgr6;obtain ⟨_,s0,s1,s2,sf,sz⟩:=own3 (Below.refl w6.heap.size w6) (gz_ xh6).1 xh6;obtain ⟨_,t0,t1,t2,tf,tz⟩:=own3 (Below.refl w6.heap.size w6) (gz_ yh6).1 yh6;have XH6:=hd_ xh6;clear xh6 yh6;have O6:=hd_ how6;clear how6 hgr6 hat6)
       go_roundw
       case rel =>
        refine ⟨k + 1,true,o ++ [⟨yk,yc,S⟩],some ⟨g6,0,none⟩,cap6,by omega,by go_num,rfl,by rw [List.length_append];rfl,⟨(fun h => by cases h),by rw [List.length_append,List.length_singleton];omega⟩,hd_ HE2.out,?_,XH6.out,hb6⟩
        rw [List.map_append,List.length_append]
        exact O6.out
       case measure => simp [intOf];omega
     ·
      have hq1 : ∀ W,(binOp .neq 55 (.agg #[.int .i64 yk,.int .i64 yc]) (.agg #[.int .i64 xk,.int .i64 xc])).run Tryz.prog W = .ok (.bool true) W:=fun W => by rw [HNA.out W,zyg he];rfl
      have hq2 : ∀ W,(binOp .eql 55 (.agg #[.int .i64 yk,.int .i64 yc]) (.agg #[.int .i64 xk,.int .i64 xc])).run Tryz.prog W = .ok (.bool false) W:=fun W => by rw [HEA.out W,zyg he]
      have HE2:=hd_ (show addF ⟨xk,xc,xa⟩ l = ((o ++ [⟨xk,xc,xa⟩]) ++ [⟨yk,yc,ya⟩]) ++ (if true = true then l.drop (k + 1) else addF ⟨xk,xc,xa⟩ (l.drop (k + 1))) by
       rw [HE.out,if_neg (by simp),HDR.out,addF,if_neg (by simp only;rw [HBL.out];simp),if_neg he,if_pos rfl];simp)
      clear he
      go_wp2_with (first
       | (at_builtin;refine zqr rfl _ _ _ rfl (w.heap.size + 1) 99 i0 _ 3 24 Tryz.underlying45 HI.out HZ0.out HZ1.out HZ2.out rfl (by decide) (.slice B o.length cp) (o.map Line.cells) rfl (HW2.out.alloc _) (w2.heap.size) 1 [.int .i64 xk,.int .i64 xc,.int .i64 xa] 99 rfl (zqm (by first | rfl | (simp;done))) rfl (by simp [Value.oneCell']) (by rw [List.length_map];first | omega | (simp;omega)) (by decide) (by first | omega | (simp;omega) | (simp;done)) ?_;intro g6 cap6 w6 how6 hgr6 hat6 hlt6;rw [List.length_map] at how6;rw [List.length_map];have xh6:=KX.out _ _ hgr6;have yh6:=KY.out _ _ hgr6;have hb6:=KB.out _ _ hgr6;have hb6z:=hb6.size;obtain ⟨_,s0,s1,s2,sf,sz⟩:=own3 (Below.refl w6.heap.size w6) (gz_ xh6).1 xh6;obtain ⟨_,t0,t1,t2,tf,tz⟩:=own3 (Below.refl w6.heap.size w6) (gz_ yh6).1 yh6;have XH6:=hd_ xh6;have OB6:=hd_ how6.block;have NX : some w.heap.size ≠ (Value.slice (some ⟨g6,0,none⟩) (o.length + 1) cap6).ownBlock:=(fun e => by have:=(OB6.out _ e.symm).1;omega);have KX7:=hd_ (fun o1 (w7 : World) (hgr : (w6.alloc o1).grownBy w7 (Value.slice (some ⟨g6,0,none⟩) (o.length + 1) cap6).ownBlock) => zqd hgr NX (zqg sz XH6.out));have KB7:=hd_ (fun o1 (w7 : World) (hgr : (w6.alloc o1).grownBy w7 (Value.slice (some ⟨g6,0,none⟩) (o.length + 1) cap6).ownBlock) => (hb6.alloc (Nat.le_trans (Nat.le_refl _) hb6z) o1).grown hgr (by simp;omega) (fun k e => by have:=(OB6.out k e).1;omega));clear NX xh6 yh6;have O6:=hd_ how6;clear how6 hgr6 hat6;have hO6:=O6.out;rw [show o.map Line.cells ++ [[.int .i64 xk,.int .i64 xc,.int .i64 xa]] = (o ++ [(⟨xk,xc,xa⟩ : Line)]).map Line.cells by rw [List.map_append];rfl,show o.length + 1 = (o ++ [(⟨xk,xc,xa⟩ : Line)]).length by rw [List.length_append];rfl] at hO6;have hol2 : (o ++ [(⟨xk,xc,xa⟩ : Line)]).length ≤ k + 1:=(by rw [List.length_append,List.length_singleton];omega);have O6':=hd_ hO6;rw [show o.length + 1 = (o ++ [(⟨xk,xc,xa⟩ : Line)]).length by rw [List.length_append];rfl] at KX7 KB7 ⊢;obtain ⟨o2,ho2⟩ : ∃ o2,o ++ [(⟨xk,xc,xa⟩ : Line)] = o2:=⟨_,rfl⟩;rw [ho2] at O6' hol2 HE2 KX7 KB7 ⊢;clear hO6 O6 ho2)
       | (at_builtin;refine zqr rfl _ _ _ rfl (w.heap.size + 1) 99 i0 _ 3 24 Tryz.underlying45 HI.out HZ0.out HZ1.out HZ2.out rfl (by decide) (.slice (some ⟨g6,0,none⟩) o2.length cap6) (o2.map Line.cells) rfl (O6'.out.alloc _) (w6.heap.size) 1 [.int .i64 yk,.int .i64 yc,.int .i64 ya] 99 rfl (zqm (by first | rfl | (simp;done))) rfl (by simp [Value.oneCell']) (by rw [List.length_map];first | omega | (simp;omega)) (by decide) (by first | omega | (simp;omega) | (simp;done)) ?_;intro g7 cap7 w7 how7 hgr7 hat7 hlt7;rw [List.length_map] at how7;rw [List.length_map];have XH7:=hd_ (KX7.out _ _ hgr7);have hb7:=KB7.out _ _ hgr7;have O7:=hd_ how7;clear how7 hgr7 hat7))
      go_roundw
      case rel =>
       refine ⟨k + 1,true,o2 ++ [⟨yk,yc,ya⟩],some ⟨g7,0,none⟩,cap7,by omega,by go_num,rfl,by rw [List.length_append];rfl,⟨(fun h => by cases h),by rw [List.length_append,List.length_singleton];omega⟩,hd_ HE2.out,?_,XH7.out,hb7⟩
       rw [List.map_append,List.length_append]
       exact O7.out
      case measure => simp [intOf];omega
    ·
     have HE2:=hd_ (show addF ⟨xk,xc,xa⟩ l = (o ++ [⟨yk,yc,ya⟩]) ++ (if false = true then l.drop (k + 1) else addF ⟨xk,xc,xa⟩ (l.drop (k + 1))) by
      rw [HE.out,if_neg (by simp),HDR.out,addF,if_pos (by simp only;exact HBL.out),if_neg (by simp)];simp)
     go_wp2_with (at_builtin;refine zqr rfl _ _ _ rfl (w.heap.size + 1) 99 i0 _ 3 24 Tryz.underlying45 HI.out HZ0.out HZ1.out HZ2.out rfl (by decide) (.slice B o.length cp) (o.map Line.cells) rfl (HW2.out.alloc _) (w2.heap.size) 1 [.int .i64 yk,.int .i64 yc,.int .i64 ya] 99 rfl (zqm (by first | rfl | (simp;done))) rfl (by simp [Value.oneCell']) (by rw [List.length_map];first | omega | (simp;omega)) (by decide) (by first | omega | (simp;omega) | (simp;done)) ?_;intro g6 cap6 w6 how6 hgr6 hat6 hlt6;rw [List.length_map] at how6;rw [List.length_map];have XH6:=hd_ (KX.out _ _ hgr6);have hb6:=KB.out _ _ hgr6;have O6:=hd_ how6;clear how6 hgr6 hat6)
     go_roundw
     case rel =>
      refine ⟨k + 1,false,o ++ [⟨yk,yc,ya⟩],some ⟨g6,0,none⟩,cap6,by omega,by go_num,rfl,by rw [List.length_append];rfl,⟨(fun _ => by rw [List.length_append,List.length_singleton];omega),by rw [List.length_append,List.length_singleton];omega⟩,hd_ HE2.out,?_,XH6.out,hb6⟩
      rw [List.map_append,List.length_append]
      exact O6.out
     case measure => simp [intOf];omega
   ·
    clear hol0
    have HE2:=hd_ (show addF ⟨xk,xc,xa⟩ l = (o ++ [⟨yk,yc,ya⟩]) ++ (if true = true then l.drop (k + 1) else addF ⟨xk,xc,xa⟩ (l.drop (k + 1))) by rw [HE.out,HDR.out];simp)
    have NX : some w.heap.size ≠ (Value.slice B o.length cp).ownBlock:=fun e => by have:=(OB.out _ e.symm).1;omega
    have KX:=hd_ (fun o1 o2 (w6 : World) (hgr : ((wr.alloc o1).alloc o2).grownBy w6 (Value.slice B o.length cp).ownBlock) => zqd hgr NX (zqg (by simp;omega) (zqg hxz XH.out)))
    have KB:=hd_ (fun o1 o2 (w6 : World) (hgr : ((wr.alloc o1).alloc o2).grownBy w6 (Value.slice B o.length cp).ownBlock) => ((hbw.alloc (Nat.le_trans (Nat.le_refl _) hbz) o1).alloc (by simp;omega) o2).grown hgr (by simp;omega) (fun k e => by have:=(OB.out k e).1;omega))
    clear NX
    go_wp2_with (at_builtin;refine zqr rfl _ _ _ rfl (w.heap.size + 1) 99 i0 _ 3 24 Tryz.underlying45 HI.out HZ0.out HZ1.out HZ2.out rfl (by decide) (.slice B o.length cp) (o.map Line.cells) rfl ((HW.out.alloc _).alloc _) (wr.heap.size + 1) 1 [.int .i64 yk,.int .i64 yc,.int .i64 ya] 99 rfl (zqm (by first | rfl | (simp;done))) rfl (by simp [Value.oneCell']) (by rw [List.length_map];first | omega | (simp;omega)) (by decide) (by first | omega | (simp;omega) | (simp;done)) ?_;intro g6 cap6 w6 how6 hgr6 hat6 hlt6;rw [List.length_map] at how6;rw [List.length_map];have XH6:=hd_ (KX.out _ _ _ hgr6);have hb6:=KB.out _ _ _ hgr6;have O6:=hd_ how6;clear how6 hgr6 hat6)
    go_roundw
    case rel =>
     refine ⟨k + 1,true,o ++ [⟨yk,yc,ya⟩],some ⟨g6,0,none⟩,cap6,by omega,by go_num,rfl,by rw [List.length_append];rfl,⟨(fun h => by cases h),by rw [List.length_append,List.length_singleton];omega⟩,hd_ HE2.out,?_,XH6.out,hb6⟩
     rw [List.map_append,List.length_append]
     exact O6.out
    case measure => simp [intOf];omega
  ·
   clear hol0
   obtain rfl : k = l.length:=by omega
   cases d
   ·
    have HE2:=hd_ (show addF ⟨xk,xc,xa⟩ l = o ++ [⟨xk,xc,xa⟩] by rw [HE.out,if_neg (by simp),List.drop_length];rfl)
    have KB:=hd_ (fun o1 (w6 : World) (hgr : (wr.alloc o1).grownBy w6 (Value.slice B o.length cp).ownBlock) => (hbw.alloc (Nat.le_trans (Nat.le_refl _) hbz) o1).grown hgr (by simp;omega) (fun k e => by have:=(OB.out k e).1;omega))
    go_wp2_with (at_builtin;refine zqr rfl _ _ _ rfl (w.heap.size + 1) 99 i0 _ 3 24 Tryz.underlying45 HI.out HZ0.out HZ1.out HZ2.out rfl (by decide) (.slice B o.length cp) (o.map Line.cells) rfl (HW.out.alloc _) (wr.heap.size) 1 [.int .i64 xk,.int .i64 xc,.int .i64 xa] 99 rfl (zqm (by first | rfl | (simp;done))) rfl (by simp [Value.oneCell']) (by rw [List.length_map];first | omega | (simp;omega)) (by decide) (by first | omega | (simp;omega) | (simp;done)) ?_;intro g6 cap6 w6 how6 hgr6 hat6 hlt6;rw [List.length_map] at how6;rw [List.length_map];have hb6:=KB.out _ _ hgr6;have O6:=hd_ how6;clear how6 hgr6 hat6)
    go_ret
    have ho:=O6.out.more (B':=w.heap.size) (by omega)
    refine ⟨some ⟨g6,0,none⟩,cap6,by rw [HE2.out,List.length_append];rfl,?_,hb6⟩
    rw [HE2.out,List.map_append,List.length_append]
    exact ho
   ·
    have HE2:=hd_ (show addF ⟨xk,xc,xa⟩ l = o by rw [HE.out,if_pos rfl,List.drop_length,List.append_nil])
    go_wp2_with fail
    go_ret
    exact ⟨B,cp,by rw [HE2.out];rfl,by rw [HE2.out];exact HW.out.more (by omega),hbw⟩
end Go.Proofs.YtdbmkfmenfcbiaaGreat
