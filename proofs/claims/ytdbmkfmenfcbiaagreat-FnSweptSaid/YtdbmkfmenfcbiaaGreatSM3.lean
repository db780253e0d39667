/- ApS · BookGi · BookGs · BookVi · ISm · BookHi · BookHs · IEr · IOv · ISl: each text proves what its theorems say, with no conditions but theirs. -/
import Derived.Test.YtdbmkfmenfcbiaaGreatRows
import Derived.Test.YtdbmkfmenfcbiaaGreatSSOpen
import Derived.Test.YtdbmkfmenfcbiaaGreatSSClose
import Derived.Test.YtdbmkfmenfcbiaaGreatSSAdmit
import Derived.Test.YtdbmkfmenfcbiaaGreatSSSettle
import Derived.Test.YtdbmkfmenfcbiaaGreatSM2
import Derived.Test.YtdbmkfmenfcbiaaGreatSSLaunch
import Derived.Test.YtdbmkfmenfcbiaaGreatSSLand
import Derived.Test.YtdbmkfmenfcbiaaGreatSM1
import Derived.Test.YtdbmkfmenfcbiaaGreatSBookOi
import Derived.Test.YtdbmkfmenfcbiaaGreatSBookOs
import Derived.IntWalk
import Derived.Test.YtdbmkfmenfcbiaaGreatSMrg
import Derived.Deep.Cut
import Derived.RegionTactic
namespace Go.Proofs.YtdbmkfmenfcbiaaGreat
open Go.RowKit Go.Deep
def closeA (b : Bk) (e : Event) : Out:=if 0 ≤ chanIx b.cs e.Ch∧1125899906842624 < b.w + (chanOf b.cs e.Ch).Local - e.Fee then bad 2 else closeB b e
def stepS (b : Bk) (e : Event) : Out :=
 if e.Kind = 1 then depB b e
 else if e.Kind = 2 then openB b e
 else if e.Kind = 3 then closeA b e
 else if e.Kind = 4 then priceB b e
 else if e.Kind = 5 then admitS b e (chanOf b.cs e.Ch) (chanOf b.cs e.To)
 else if e.Kind = 6 then settleS b e.Key true
 else if e.Kind = 7 then settleS b e.Key false
 else if e.Kind = 8 then tickB b
 else if e.Kind = 9 then launchS b e
 else if e.Kind = 10 then landS b e.Key true
 else landS b e.Key false
def applyS (b : Bk) (e : Event) : Out :=
 if (b.ok && evB e) = false then bad 1
 else if b.n = 1125899906842624 then bad 2
 else stepS b e
theorem zmi {b : Bk} {e : Event} (h : (b.ok && evB e) = false) : applyS b e = bad 1:=by unfold applyS;rw [if_pos h]
theorem zmj {b : Bk} {e : Event} (h : (b.ok && evB e) = true) (hn : b.n = 1125899906842624) : applyS b e = bad 2:=by unfold applyS;rw [if_neg (by rw [h];decide),if_pos hn]
theorem zwa {b : Bk} {e : Event} (h : (b.ok && evB e) = true) (hn : b.n ≠ 1125899906842624) : applyS b e = stepS b e:=by unfold applyS;rw [if_neg (by rw [h];decide),if_neg hn]
def Good (n : Int) (o : Out) : Prop:=(o.code ≠ 0∧o = bad o.code) ∨ (o.code = 0∧o.b.n = if o.l = [] then n else n + 1)
theorem Good.bad {n c : Int} (h : c ≠ 0) : Good n (bad c):=.inl ⟨h,rfl⟩
theorem Good.done {n : Int} {b : Bk} {l : List Line} (h : b.n = n) : Good n (done b l):=.inr ⟨rfl,by subst h;rfl⟩
theorem zhv (b : Bk) (e : Event) : Good b.n (stepS b e):=by
 unfold stepS
 split
 ·
  unfold depB;split <;> first | exact Good.bad (by decide) | exact Good.done rfl
 split
 ·
  unfold openB;(repeat' split) <;> first | exact Good.bad (by decide) | exact Good.done rfl
 split
 ·
  unfold closeA closeB;(repeat' split) <;> first | exact Good.bad (by decide) | exact Good.done rfl
 split
 ·
  unfold priceB;(repeat' split) <;> first | exact Good.bad (by decide) | exact Good.done rfl
 split
 ·
  unfold admitS;(repeat' split) <;> first | exact Good.bad (by decide) | exact Good.done rfl
 split
 ·
  unfold settleS;(repeat' split) <;> first | exact Good.bad (by decide) | exact Good.done rfl
 split
 ·
  unfold settleS;(repeat' split) <;> first | exact Good.bad (by decide) | exact Good.done rfl
 split
 ·
  unfold tickB;(repeat' split) <;> first | exact Good.bad (by decide) | exact Good.done rfl
 split
 ·
  unfold launchS;(repeat' split) <;> first | exact Good.bad (by decide) | exact Good.done rfl
 split
 ·
  unfold landS;(repeat' split) <;> first | exact Good.bad (by decide) | exact Good.done rfl
 ·
  unfold landS;(repeat' split) <;> first | exact Good.bad (by decide) | exact Good.done rfl
theorem zyo {e : Event} (h : evB e = true) : amtB e.Amt = true∧amtB e.Fee = true:=by
 obtain ⟨k,key,ch,tq,amt,fee,yes⟩:=e
 unfold evB at h
 simp only at h
 (repeat' split at h) <;> first | (cases h;done) | (simp only [Bool.and_eq_true,beq_iff_eq,zxx,zxy] at h ⊢;omega)
theorem zgd {e : Event} (h : evB e = true) : e.Kind = 1 ∨ e.Kind = 2 ∨ e.Kind = 3 ∨ e.Kind = 4 ∨ e.Kind = 5 ∨ e.Kind = 6 ∨ e.Kind = 7 ∨ e.Kind = 8 ∨ e.Kind = 9 ∨ e.Kind = 10 ∨ e.Kind = 11:=by
 unfold evB at h
 (repeat' split at h) <;> first | (cases h;done) | omega
theorem name_ret {P : Program} {f : Func} {Q : Ending → World → Prop} {e : Exit} {a : Act} {w : World} (h : ∀ wq,wq = w → bodyPost P f Q e a wq) : bodyPost P f Q e a w:=h w rfl
def ApplyP (w : World) (o : Out) (n : Int) (e : Ending) (w' : World) : Prop :=
 ∃ (b' : Bk) (L : List Line) (id : Int) (C1 C2 C3 C4 : Option Addr) (q1 q2 q3 q4 : Nat),e = .returned (.tuple #[.agg #[.int .i64 b'.t,.int .i64 b'.n,.int .i64 b'.w,.slice C1 b'.cs.length q1,.slice C2 b'.hs.length q2,.slice C3 b'.os.length q3],.agg #[.int .i64 id,.slice C4 L.length q4],.int .i64 o.code]) ∧
  OwB w' w.heap.size b' C1 C2 C3 q1 q2 q3∧Ow w' w.heap.size 99 3 (.slice C4 L.length q4) (L.map Line.cells)∧Below w.heap.size w w'∧b' = o.b∧L = o.l∧id = (if o.l = [] then 0 else n)
def AppEnd (T : TypeId) (w : World) (B X RB RP : Nat) (o : Out) (w' : World) : Prop :=
 ((o.code = 0∧∃ (b' : Bk) (C1 C2 C3 C4 : Option Addr) (q1 q2 q3 q4 : Nat),o.b = { b' with n:=if o.l = [] then b'.n else b'.n + 1 }∧Wk T w w' B X b' o.l 0 C1 C2 C3 C4 q1 q2 q3 q4) ∨
  (o.code ≠ 0∧∃ (b' : Bk) (L' : List Line) (C1 C2 C3 C4 : Option Addr) (q1 q2 q3 q4 : Nat),Wk T w w' B X b' L' o.code C1 C2 C3 C4 q1 q2 q3 q4)) ∧
 w'.heap[RB]? = some (.cells #[.int .i64 0,.int .i64 0,.int .i64 0,.slice none 0 0,.slice none 0 0,.slice none 0 0] 39 (0,0))∧w'.heap[RP]? = some (.cells #[.int .i64 0,.slice none 0 0] 66 (0,0))
section
variable {T : TypeId} {w0 w w' : World} {B X RB RP : Nat} {b : Bk} {L : List Line} {code : Int} {A1 A2 A3 A4 : Option Addr} {p1 p2 p3 p4 : Nat}
theorem AppEnd.of_acts {o : Out} {e : Ending} (h0 : Wk T w0 w B X b [] 0 A1 A2 A3 A4 p1 p2 p3 p4) (hb : 39 ∉ wkTs T) (hp : 66 ∉ wkTs T) (hR : w.heap[RB]? = some (.cells #[.int .i64 0,.int .i64 0,.int .i64 0,.slice none 0 0,.slice none 0 0,.slice none 0 0] 39 (0,0))) (hP : w.heap[RP]? = some (.cells #[.int .i64 0,.slice none 0 0] 66 (0,0)))
  (h : Acts T w B X o e w') : e = .returned (.tuple #[])∧AppEnd T w0 B X RB RP o w':=by
 rcases h with ⟨h1,b',h2,C1,C2,C3,C4,q1,q2,q3,q4,he,hw⟩ | ⟨h1,b',L',C1,C2,C3,C4,q1,q2,q3,q4,he,hw⟩
 ·
  exact ⟨he,.inl ⟨h1,b',C1,C2,C3,C4,q1,q2,q3,q4,h2,h0.trans hw⟩,hw.box hR hb,hw.box hP hp⟩
 ·
  exact ⟨he,.inr ⟨h1,b',L',C1,C2,C3,C4,q1,q2,q3,q4,h0.trans hw⟩,hw.box hR hb,hw.box hP hp⟩
theorem Wk.aside2 {C : Nat} {t : TypeId} {cells : Array Value} (h : Wk T w0 w B X b L code A1 A2 A3 A4 p1 p2 p3 p4) (hC : w.heap[C]? = some (.cells cells t (0,0))) (h0 : w0.heap.size ≤ C) (hB : B ≤ C) (htT : t ≠ T) (h1 : 103 ≠ t) (h2 : 70 ≠ t) (h3 : 93 ≠ t) (h4 : 99 ≠ t) (hgr : w.grownBy w' (some C)) : Wk T w0 w' B X b L code A1 A2 A3 A4 p1 p2 p3 p4:=by
 refine ⟨zqd hgr (fun e => ?_) h.x,⟨h.o.c.grown hgr (Or.inr (h.o.c.ne_ hC h1).symm),h.o.h.grown hgr (Or.inr (h.o.h.ne_ hC h2).symm),h.o.o.grown hgr (Or.inr (h.o.o.ne_ hC h3).symm)⟩,h.l.grown hgr (Or.inr (h.l.ne_ hC h4).symm),h.b.grown hgr h.ble (fun k e => by injection e with e;omega),?_,h.bx⟩
 ·
  injection e with e
  subst e
  rw [h.x] at hC
  injection hC with hC
  injection hC with _ hC
  exact htT hC.symm
 ·
  intro k cs t' h5 h6
  have h7:=h.f k cs t' h5 h6
  exact zqd hgr (fun e => by injection e with e;have:=(gz_ h5).1;omega) h7
end
end Go.Proofs.YtdbmkfmenfcbiaaGreat
namespace Go.Proofs.YtdbmkfmenfcbiaaGreat
open Go.RowKit
set_option maxRecDepth 100000 in
set_option maxHeartbeats 4000000 in
theorem i_Aged (bt bn bw : Int) (cs : List Chan) (hs : List Htlc) (os : List Circle) (A1 A2 A3 : Option Addr) (p1 p2 p3 : Nat) (age : Int) (w : World) (hlc : cs.length ≤ 1048576) (hlh : hs.length ≤ 1048576) (hlo : os.length ≤ 1048576) (hr : RdBook w w.heap.size A1 cs A2 hs A3 os) :
  Calls Tryz.prog 26 #[.agg #[.int .i64 bt,.int .i64 bn,.int .i64 bw,.slice A1 cs.length p1,.slice A2 hs.length p2,.slice A3 os.length p3],.int .i64 age] w fun e w' => ∃ A cap,e = .returned (.slice A (agedOf bt bn bw cs hs os age).length cap)∧Ow w' w.heap.size 3 1 (.slice A (agedOf bt bn bw cs hs os age).length cap) ((agedOf bt bn bw cs hs os age).map intCells)∧Below w.heap.size w w':=by
 have HR:=hd_ hr
 have HH:=hd_ hr.h
 clear hr
 obtain ⟨i0,hi,hz0,hz1,hz2⟩:=info_parts zwe
 have HI:=hd_ hi
 have HZ0:=hd_ hz0
 have HZ1:=hd_ hz1
 have HZ2:=hd_ hz2
 clear hi hz0 hz1 hz2
 cases hb : bookB bt bn bw cs hs os
 ·
  have HB:=hd_ hb
  have H1:=hd_ (show agedOf bt bn bw cs hs os age = [] by simp [agedOf,hb])
  clear hb
  go_enter Tryz.func26,Tryz.ntmps26
  go_wp2_with fail
  refine (zjq bt bn bw cs hs os _ _ _ _ _ _ _ hlc hlh hlo ((HR.out.below (bl_)).more (by first | omega | (simp;omega) | (simp;done)))).mono ?_
  rintro e w1 ⟨rfl,hb1⟩
  have z1:=hb1.size
  try simp at z1
  rw [HB.out]
  go_wp2_with fail
  go_ret
  rw [H1.out]
  exact ⟨none,0,rfl,Ow.nil_,bl_⟩
 ·
  have HB:=hd_ hb
  have h60:=(zxp hb).small.hl
  have H1:=hd_ (show agedOf bt bn bw cs hs os age = agedF age hs by simp [agedOf,hb])
  clear hb
  go_enter Tryz.func26,Tryz.ntmps26
  go_wp2_with fail
  refine (zjq bt bn bw cs hs os _ _ _ _ _ _ _ hlc hlh hlo ((HR.out.below (bl_)).more (by first | omega | (simp;omega) | (simp;done)))).mono ?_
  rintro e w1 ⟨rfl,hb1⟩
  have z1:=hb1.size
  try simp at z1
  rw [HB.out]
  obtain ⟨eh,e0,e1,e2,e3,e4,e5,ef,ezz⟩:=own6 (g:=w.heap.size) hb1 (by first | omega | (simp;omega) | (simp;done)) (hp_)
  have EH:=hd_ eh
  have hA1 : Below w.heap.size w w1:=bl_
  clear eh hb1
  go_wp2_with fail
  clear e0 e1 e2 e3 e4 e5 ef
  go_loopw [5,14] (fun vk i wr => ∃ (k : Nat) (B : Option Addr) (cp : Nat),k ≤ hs.length∧i = .int .i64 k∧vk = .slice B (agedF age (hs.take k)).length cp∧Ow wr (w.heap.size + 1) 3 1 (.slice B (agedF age (hs.take k)).length cp) ((agedF age (hs.take k)).map intCells)∧wr.heap[w.heap.size]? = some (.cells #[.int .i64 bt,.int .i64 bn,.int .i64 bw,.slice A1 cs.length p1,.slice A2 hs.length p2,.slice A3 os.length p3] 39)∧Below w.heap.size w wr) (fun _ i _ => hs.length - (intOf i).toNat)
  case atStart => exact ⟨0,none,0,Nat.zero_le _,rfl,rfl,Ow.nil_,EH.out,hA1⟩
  case round =>
   clear hA1
   obtain ⟨k,B,cp,hk,rfl,rfl,how,hbox,hbw⟩:=hrel
   have hbz:=hbw.size
   obtain ⟨eh,e0,e1,e2,e3,e4,e5,ef,ezz⟩:=own6 (Below.refl wr.heap.size wr) (gz_ hbox).1 hbox
   have EH:=hd_ eh
   clear eh hbox
   have hrl : (agedF age (hs.take k)).length ≤ 80:=by have:=zwi age hs k;omega
   have NE:=hd_ (how.ne_ EH.out (by decide))
   have OB:=hd_ how.block
   have HW:=hd_ how
   clear how
   by_cases hlt : k < hs.length
   ·
    obtain ⟨b,off,rfl,hbB,c0,c1,c2,c3,c4,c5,c6⟩:=Htlc.rd (HH.out.below hbw) hlt
    cases ha : decide (age ≤ hs[k].Age)
    ·
     have HK:=hd_ (zyh hlt ha)
     obtain ⟨RS,hRS⟩ : ∃ R,(agedF age (hs.take k)) = R:=⟨_,rfl⟩
     rw [hRS] at hrl NE OB HW HK ⊢
     clear hRS
     go_wp2_with fail
     go_roundw
     case rel => exact ⟨k + 1,B,cp,by omega,by go_num,by rw [HK.out],by rw [HK.out];exact HW.out.alloc _,zqg ezz EH.out,bl_⟩
     case measure => simp [intOf];omega
    ·
     have HK:=hd_ (zmh hlt ha)
     obtain ⟨RS,hRS⟩ : ∃ R,(agedF age (hs.take k)) = R:=⟨_,rfl⟩
     rw [hRS] at hrl NE OB HW HK ⊢
     clear hRS
     have KE:=hd_ (fun o1 o2 (w6 : World) (hgr : ((wr.alloc o1).alloc o2).grownBy w6 (Value.slice B RS.length cp).ownBlock) => ownG6 hgr NE.out (zqg (by simp;omega) (zqg ezz EH.out)))
     have KB:=hd_ (fun o1 o2 (w6 : World) (hgr : ((wr.alloc o1).alloc o2).grownBy w6 (Value.slice B RS.length cp).ownBlock) => ((hbw.alloc (Nat.le_trans (Nat.le_refl _) hbz) o1).alloc (by simp;omega) o2).grown hgr (by simp;omega) (fun k e => by have:=(OB.out k e).1;omega))
     go_wp2_with (at_builtin;refine zqr rfl _ _ _ rfl (w.heap.size + 1) 3 i0 _ 1 8 Tryz.underlying41 HI.out HZ0.out HZ1.out HZ2.out rfl (by decide) (.slice B RS.length cp) (RS.map intCells) rfl ((HW.out.alloc _).alloc _) (wr.heap.size + 1) 1 [.int .i64 hs[k].Key] 3 rfl (zqm (by first | rfl | (simp;done))) rfl (by simp [Value.oneCell']) (by rw [List.length_map];omega) (by decide) (by first | omega | (simp;omega) | (simp;done)) ?_;intro g cap' w6 how6 hgr6 hat6 hlt6;rw [List.length_map] at how6;rw [List.length_map];obtain ⟨xh,x0,x1,x2,x3,x4,x5,xf,xz⟩:=KE.out _ _ _ hgr6;have hb6:=KB.out _ _ _ hgr6;have XH:=hd_ xh;have O6:=hd_ how6;clear xh how6 hgr6 hat6)
     go_roundw
     case rel =>
      refine ⟨k + 1,some ⟨g,0,none⟩,cap',by omega,by go_num,by rw [HK.out,List.length_append];rfl,?_,XH.out,hb6⟩
      rw [HK.out,List.map_append,List.length_append]
      exact O6.out
     case measure => simp [intOf];omega
   ·
    obtain rfl : k = hs.length:=by omega
    rw [List.take_length] at HW ⊢
    go_wp2_with fail
    go_ret
    rw [H1.out]
    exact ⟨_,_,rfl,HW.out.more (by omega),bl_⟩
end Go.Proofs.YtdbmkfmenfcbiaaGreat
namespace Go.Proofs.YtdbmkfmenfcbiaaGreat
open Go.RowKit
set_option maxRecDepth 100000 in
set_option maxHeartbeats 4000000 in
theorem s_Aged (bt bn bw : Int) (cs : List Chan) (hs : List Htlc) (os : List Circle) (A1 A2 A3 : Option Addr) (p1 p2 p3 : Nat) (age : Int) (w : World) (hlc : cs.length ≤ 1048576) (hlh : hs.length ≤ 1048576) (hlo : os.length ≤ 1048576) (hr : RdBook w w.heap.size A1 cs A2 hs A3 os) :
  Calls Tryz.prog 55 #[.agg #[.int .i64 bt,.int .i64 bn,.int .i64 bw,.slice A1 cs.length p1,.slice A2 hs.length p2,.slice A3 os.length p3],.int .i64 age] w fun e w' => ∃ A cap,e = .returned (.slice A (agedOf bt bn bw cs hs os age).length cap)∧Ow w' w.heap.size 3 1 (.slice A (agedOf bt bn bw cs hs os age).length cap) ((agedOf bt bn bw cs hs os age).map intCells)∧Below w.heap.size w w':=by
 have HR:=hd_ hr
 have HH:=hd_ hr.h
 clear hr
 obtain ⟨i0,hi,hz0,hz1,hz2⟩:=info_parts zwe
 have HI:=hd_ hi
 have HZ0:=hd_ hz0
 have HZ1:=hd_ hz1
 have HZ2:=hd_ hz2
 clear hi hz0 hz1 hz2
 cases hb : bookB bt bn bw cs hs os
 ·
  have HB:=hd_ hb
  have H1:=hd_ (show agedOf bt bn bw cs hs os age = [] by simp [agedOf,hb])
  clear hb
  go_enter Tryz.func55,Tryz.ntmps55
  go_wp2_with fail
  refine (zjm bt bn bw cs hs os _ _ _ _ _ _ _ hlc hlh hlo ((HR.out.below (bl_)).more (by first | omega | (simp;omega) | (simp;done)))).mono ?_
  rintro e w1 ⟨rfl,hb1⟩
  have z1:=hb1.size
  try simp at z1
  rw [HB.out]
  go_wp2_with fail
  go_ret
  rw [H1.out]
  have HE:=hd_ ((Ow.empty_ (w:=w.alloc (.cells #[.int .i64 bt,.int .i64 bn,.int .i64 bw,.slice A1 cs.length p1,.slice A2 hs.length p2,.slice A3 os.length p3] 39)) (g:=w.heap.size + 1) (e:=3) (size:=1) (B:=w.heap.size + 1) (by simp) (Nat.le_refl _)).below (by simpa using hb1))
  exact ⟨_,_,rfl,HE.out.more (by omega),bl_⟩
 ·
  have HB:=hd_ hb
  have h60:=(zxp hb).small.hl
  have H1:=hd_ (show agedOf bt bn bw cs hs os age = agedF age hs by simp [agedOf,hb])
  clear hb
  go_enter Tryz.func55,Tryz.ntmps55
  go_wp2_with fail
  refine (zjm bt bn bw cs hs os _ _ _ _ _ _ _ hlc hlh hlo ((HR.out.below (bl_)).more (by first | omega | (simp;omega) | (simp;done)))).mono ?_
  rintro e w1 ⟨rfl,hb1⟩
  have z1:=hb1.size
  try simp at z1
  rw [HB.out]
  obtain ⟨eh,e0,e1,e2,e3,e4,e5,ef,ezz⟩:=own6 (g:=w.heap.size) hb1 (by first | omega | (simp;omega) | (simp;done)) (hp_)
  have EH:=hd_ eh
  have hA1 : Below w.heap.size w w1:=bl_
  have HE:=hd_ ((Ow.empty_ (w:=w.alloc (.cells #[.int .i64 bt,.int .i64 bn,.int .i64 bw,.slice A1 cs.length p1,.slice A2 hs.length p2,.slice A3 os.length p3] 39)) (g:=w.heap.size + 1) (e:=3) (size:=1) (B:=w.heap.size + 1) (by simp) (Nat.le_refl _)).below (by simpa using hb1))
  clear eh hb1
  go_wp2_with fail
  clear e0 e1 e2 e3 e4 e5 ef
  go_loopw [5,16] (fun vk i wr => ∃ (k : Nat) (B : Option Addr) (cp : Nat),k ≤ hs.length∧i = .int .i64 k∧vk = .slice B (agedF age (hs.take k)).length cp∧Ow wr (w.heap.size + 1) 3 1 (.slice B (agedF age (hs.take k)).length cp) ((agedF age (hs.take k)).map intCells)∧wr.heap[w.heap.size]? = some (.cells #[.int .i64 bt,.int .i64 bn,.int .i64 bw,.slice A1 cs.length p1,.slice A2 hs.length p2,.slice A3 os.length p3] 39)∧Below w.heap.size w wr) (fun _ i _ => hs.length - (intOf i).toNat)
  case atStart => exact ⟨0,_,_,Nat.zero_le _,rfl,rfl,HE.out,EH.out,hA1⟩
  case round =>
   clear hA1
   obtain ⟨k,B,cp,hk,rfl,rfl,how,hbox,hbw⟩:=hrel
   have hbz:=hbw.size
   obtain ⟨eh,e0,e1,e2,e3,e4,e5,ef,ezz⟩:=own6 (Below.refl wr.heap.size wr) (gz_ hbox).1 hbox
   have EH:=hd_ eh
   clear eh hbox
   have hrl : (agedF age (hs.take k)).length ≤ 80:=by have:=zwi age hs k;omega
   have NE:=hd_ (how.ne_ EH.out (by decide))
   have OB:=hd_ how.block
   have HW:=hd_ how
   clear how
   by_cases hlt : k < hs.length
   ·
    obtain ⟨b,off,rfl,hbB,c0,c1,c2,c3,c4,c5,c6⟩:=Htlc.rd (HH.out.below hbw) hlt
    cases ha : decide (age ≤ hs[k].Age)
    ·
     have HK:=hd_ (zyh hlt ha)
     obtain ⟨RS,hRS⟩ : ∃ R,(agedF age (hs.take k)) = R:=⟨_,rfl⟩
     rw [hRS] at hrl NE OB HW HK ⊢
     clear hRS
     go_wp2_with fail
     go_roundw
     case rel => exact ⟨k + 1,B,cp,by omega,by go_num,by rw [HK.out],by rw [HK.out];exact HW.out.alloc _,zqg ezz EH.out,bl_⟩
     case measure => simp [intOf];omega
    ·
     have HK:=hd_ (zmh hlt ha)
     obtain ⟨RS,hRS⟩ : ∃ R,(agedF age (hs.take k)) = R:=⟨_,rfl⟩
     rw [hRS] at hrl NE OB HW HK ⊢
     clear hRS
     have KE:=hd_ (fun o1 o2 (w6 : World) (hgr : ((wr.alloc o1).alloc o2).grownBy w6 (Value.slice B RS.length cp).ownBlock) => ownG6 hgr NE.out (zqg (by simp;omega) (zqg ezz EH.out)))
     have KB:=hd_ (fun o1 o2 (w6 : World) (hgr : ((wr.alloc o1).alloc o2).grownBy w6 (Value.slice B RS.length cp).ownBlock) => ((hbw.alloc (Nat.le_trans (Nat.le_refl _) hbz) o1).alloc (by simp;omega) o2).grown hgr (by simp;omega) (fun k e => by have:=(OB.out k e).1;omega))
     go_wp2_with (at_builtin;refine zqr rfl _ _ _ rfl (w.heap.size + 1) 3 i0 _ 1 8 Tryz.underlying41 HI.out HZ0.out HZ1.out HZ2.out rfl (by decide) (.slice B RS.length cp) (RS.map intCells) rfl ((HW.out.alloc _).alloc _) (wr.heap.size + 1) 1 [.int .i64 hs[k].Key] 3 rfl (zqm (by first | rfl | (simp;done))) rfl (by simp [Value.oneCell']) (by rw [List.length_map];omega) (by decide) (by first | omega | (simp;omega) | (simp;done)) ?_;intro g cap' w6 how6 hgr6 hat6 hlt6;rw [List.length_map] at how6;rw [List.length_map];obtain ⟨xh,x0,x1,x2,x3,x4,x5,xf,xz⟩:=KE.out _ _ _ hgr6;have hb6:=KB.out _ _ _ hgr6;have XH:=hd_ xh;have O6:=hd_ how6;clear xh how6 hgr6 hat6)
     go_roundw
     case rel =>
      refine ⟨k + 1,some ⟨g,0,none⟩,cap',by omega,by go_num,by rw [HK.out,List.length_append];rfl,?_,XH.out,hb6⟩
      rw [HK.out,List.map_append,List.length_append]
      exact O6.out
     case measure => simp [intOf];omega
   ·
    obtain rfl : k = hs.length:=by omega
    rw [List.take_length] at HW ⊢
    go_wp2_with fail
    go_ret
    rw [H1.out]
    exact ⟨_,_,rfl,HW.out.more (by omega),bl_⟩
end Go.Proofs.YtdbmkfmenfcbiaaGreat
namespace Go.Proofs.YtdbmkfmenfcbiaaGreat
open Go.RowKit
set_option maxRecDepth 100000 in
set_option maxHeartbeats 4000000 in
theorem zgl (bt bn bw : Int) (cs : List Chan) (hs : List Htlc) (os : List Circle) (A1 A2 A3 : Option Addr) (p1 p2 p3 : Nat) (w : World) (hlc : cs.length ≤ 1048576) (hlh : hs.length ≤ 1048576) (hlo : os.length ≤ 1048576) (hr : RdBook w w.heap.size A1 cs A2 hs A3 os) :
  Calls Tryz.prog 27 #[.agg #[.int .i64 bt,.int .i64 bn,.int .i64 bw,.slice A1 cs.length p1,.slice A2 hs.length p2,.slice A3 os.length p3]] w fun e w' => e = .returned (.int .i64 (totalOf bt bn bw cs hs os))∧Below w.heap.size w w':=by
 have HR:=hd_ hr
 have HCH:=hd_ hr.c
 clear hr
 cases hb : bookB bt bn bw cs hs os
 ·
  have HB:=hd_ hb
  have H1:=hd_ (show totalOf bt bn bw cs hs os = 0 by simp [totalOf,hb])
  clear hb
  go_enter Tryz.func27,Tryz.ntmps27
  go_wp2_with fail
  refine (zjq bt bn bw cs hs os _ _ _ _ _ _ _ hlc hlh hlo ((HR.out.below (bl_)).more (by first | omega | (simp;omega) | (simp;done)))).mono ?_
  rintro e w1 ⟨rfl,hb1⟩
  have z1:=hb1.size
  try simp at z1
  rw [HB.out]
  go_wp2_with fail
  go_ret
  exact ⟨by first | (rw [H1.out];done) | (rw [H1.out];rfl),bl_⟩
 ·
  have HB:=hd_ hb
  have HF:=hd_ (zxp hb)
  have H1:=hd_ (show totalOf bt bn bw cs hs os = cs.foldl (totF hs os) bw by simp [totalOf,hb])
  clear hb
  go_enter Tryz.func27,Tryz.ntmps27
  go_wp2_with fail
  refine (zjq bt bn bw cs hs os _ _ _ _ _ _ _ hlc hlh hlo ((HR.out.below (bl_)).more (by first | omega | (simp;omega) | (simp;done)))).mono ?_
  rintro e w1 ⟨rfl,hb1⟩
  have z1:=hb1.size
  try simp at z1
  rw [HB.out]
  obtain ⟨eh,e0,e1,e2,e3,e4,e5,ef,ezz⟩:=own6 (g:=w.heap.size) hb1 (by first | omega | (simp;omega) | (simp;done)) (hp_)
  have EH:=hd_ eh
  have hA1 : Below w.heap.size w w1:=bl_
  clear eh hb1
  go_wp2_with fail
  clear e0 e1 e2 e3 e4 e5 ef
  go_loopw [3,16] (fun n i wr => ∃ k : Nat,k ≤ cs.length∧i = .int .i64 k∧n = .int .i64 ((cs.take k).foldl (totF hs os) bw)∧wr.heap[w.heap.size]? = some (.cells #[.int .i64 bt,.int .i64 bn,.int .i64 bw,.slice A1 cs.length p1,.slice A2 hs.length p2,.slice A3 os.length p3] 39)∧Below w.heap.size w wr) (fun _ i _ => cs.length - (intOf i).toNat)
  case atStart => exact ⟨0,Nat.zero_le _,rfl,rfl,EH.out,hA1⟩
  case round =>
   clear hA1
   obtain ⟨k,hk,rfl,rfl,hbox,hbw⟩:=hrel
   have hbz:=hbw.size
   obtain ⟨eh,e0,e1,e2,e3,e4,e5,ef,ezz2⟩:=own6 (Below.refl wr.heap.size wr) (gz_ hbox).1 hbox
   have EB:=hd_ eh
   clear eh hbox
   by_cases hlt : k < cs.length
   ·
    obtain ⟨b,off,rfl,hbB,c0,c1,c2,c3,c4,c5,c6⟩:=Chan.rd (HCH.out.below hbw) hlt
    have hbr : b < wr.heap.size:=by omega
    have hcl:=HF.out.cl
    obtain ⟨n1,n2⟩:=HF.out.tot k hk
    obtain ⟨l1,l2⟩:=HF.out.local_ hlt
    obtain ⟨o1,o2⟩:=HF.out.small.out_bd cs[k].Id
    have TR:=fun W q => zyt bt bn bw cs hs os (some ⟨b,off,none⟩) A2 A3 p1 p2 p3 cs[k].Id W HF.out.small q
    have hst : (cs.take (k + 1)).foldl (totF hs os) bw = (cs.take k).foldl (totF hs os) bw + (cs[k].Local + outOf hs os cs[k].Id):=zqq cs (totF hs os) bw hlt
    obtain ⟨OUT,hOUT⟩ : ∃ x,outOf hs os cs[k].Id = x:=⟨_,rfl⟩
    obtain ⟨N,hN⟩ : ∃ x,(cs.take k).foldl (totF hs os) bw = x:=⟨_,rfl⟩
    rw [hN] at hst n1 n2 ⊢
    rw [hOUT] at hst o1 o2 TR
    have HST:=hd_ hst
    have HTR:=hd_ TR
    have s1 : IntKind.i64.wrap (cs[k].Local + OUT) = cs[k].Local + OUT:=IntWalk.i64_in _ ⟨by omega,by omega⟩
    have s2 : IntKind.i64.wrap (N + (cs[k].Local + OUT)) = N + (cs[k].Local + OUT):=IntWalk.i64_in _ ⟨by omega,by omega⟩
    clear hst TR hOUT hN n1 n2 l1 l2 o1 o2 hcl
    go_wp2_with fail
    refine (HTR.out _ ((HR.out.below (bl_)).more (by first | omega | (simp;omega) | (simp;done)))).mono ?_
    rintro e w10 ⟨rfl,hb10⟩
    have z10:=hb10.size
    obtain ⟨lh,l0,l1,l2,l3,l4,l5,l6,lf,lz⟩:=own7 (g:=wr.heap.size) hb10 (by first | omega | (simp;omega) | (simp;done)) (hp_)
    obtain ⟨mh,m0,m1,m2,m3,m4,m5,mf,mz⟩:=own6 (g:=w.heap.size) hb10 (by first | omega | (simp;omega) | (simp;done)) (by have hq:=zqg (o:=.cells #[.int .i64 cs[k].Id,.int .i64 cs[k].Size,.int .i64 cs[k].Local,.int .i64 cs[k].Remote,.int .i64 cs[k].Base,.int .i64 cs[k].Ppm,.int .i64 cs[k].Score] 103) ezz2 EB.out;exact hp_)
    have MH:=hd_ mh
    have hbw10 : Below w.heap.size w w10:=bl_
    clear lh mh hb10
    go_wp2_with fail
    go_roundw
    case rel => exact ⟨k + 1,by omega,by go_num,by rw [HST.out],MH.out,bl_⟩
    case measure => simp [intOf];omega
   ·
    obtain rfl : k = cs.length:=by omega
    rw [List.take_length] at *
    go_wp2_with fail
    go_ret
    exact ⟨by first | (rw [H1.out];done) | (rw [H1.out];rfl),bl_⟩
end Go.Proofs.YtdbmkfmenfcbiaaGreat
namespace Go.Proofs.YtdbmkfmenfcbiaaGreat
open Go.RowKit Go.Deep
def hAt (hs : List Htlc) (key : Int) : Int:=match hs.findIdx? (fun c => !notKeyH key c) with | some i => (i : Int) | none => -1
theorem hAt_none {hs : List Htlc} {key : Int} (h : (hs.take hs.length).all (notKeyH key) = true) : hAt hs key = -1:=by
 rw [List.take_length] at h
 have : hs.findIdx? (fun c => !notKeyH key c) = none:=by
  rw [List.findIdx?_eq_none_iff]
  intro x hx
  simp [List.all_eq_true.1 h x hx]
 unfold hAt
 rw [this]
theorem hAt_at {hs : List Htlc} {key : Int} {k : Nat} (hk : k < hs.length) (h : (hs.take k).all (notKeyH key) = true) (hc : notKeyH key hs[k] = false) : hAt hs key = (k : Int):=by
 have : hs.findIdx? (fun c => !notKeyH key c) = some k:=by
  rw [List.findIdx?_eq_some_iff_getElem]
  refine ⟨hk,by simp [hc],fun j hj => ?_⟩
  have hm : hs[j] ∈ hs.take k:=by
   rw [List.mem_take_iff_getElem]
   exact ⟨j,by omega,rfl⟩
  simp [List.all_eq_true.1 h _ hm]
 unfold hAt
 rw [this]
def failF (code : Int) (is : Bool) (c : Int) : Int:=if is = true∧code = 0 then c else code
theorem failF_ne {code c : Int} {is : Bool} (h : code ≠ 0) : failF code is c = code:=by unfold failF;rw [if_neg (fun h9 => h h9.2)]
theorem zwc {code c : Int} : failF code false c = code:=by unfold failF;rw [if_neg (fun h9 => by cases h9.1)]
structure ChAt (w : World) (g o : Nat) (c : Chan) : Prop where
 c0 : w.cell? ⟨g,o,none⟩ = some (.int .i64 c.Id)
 c1 : w.cell? ⟨g,o + 1,none⟩ = some (.int .i64 c.Size)
 c2 : w.cell? ⟨g,o + 2,none⟩ = some (.int .i64 c.Local)
 c3 : w.cell? ⟨g,o + 3,none⟩ = some (.int .i64 c.Remote)
 c4 : w.cell? ⟨g,o + 4,none⟩ = some (.int .i64 c.Base)
 c5 : w.cell? ⟨g,o + 5,none⟩ = some (.int .i64 c.Ppm)
 c6 : w.cell? ⟨g,o + 6,none⟩ = some (.int .i64 c.Score)
theorem OnlyX.cell {X k o : Nat} {w w' : World} {v : Value} (h : OnlyX X w w') (hk : k ≠ X) (hc : w.cell? ⟨k,o,none⟩ = some v) : w'.cell? ⟨k,o,none⟩ = some v:=by
 cases hb : w.heap[k]? with
 | none => simp [World.cell?,hb] at hc
 | some x =>
  have:=h k x hk hb
  simp only [World.cell?,hb,this] at hc ⊢
  exact hc
theorem ChAt.only {X g o : Nat} {w w' : World} {c : Chan} (h : ChAt w g o c) (ho : OnlyX X w w') (hg : g ≠ X) : ChAt w' g o c :=
 ⟨ho.cell hg h.c0,ho.cell hg h.c1,ho.cell hg h.c2,ho.cell hg h.c3,ho.cell hg h.c4,ho.cell hg h.c5,ho.cell hg h.c6⟩
theorem ChAt.block {w : World} {g o : Nat} {c : Chan} (h : ChAt w g o c) : g < w.heap.size:=by
 cases hb : w.heap[g]? with
 | none => have h0:=h.c0;simp [World.cell?,hb] at h0
 | some x => exact (gz_ hb).1
theorem ChAt.below {g o : Nat} {w w' : World} {c : Chan} (h : ChAt w g o c) (hb : Below w.heap.size w w') : ChAt w' g o c:=by
 have hg:=h.block
 have e : ∀ i,w'.cell? ⟨g,i,none⟩ = w.cell? ⟨g,i,none⟩:=fun i => hb.cell hg
 exact ⟨(e _).trans h.c0,(e _).trans h.c1,(e _).trans h.c2,(e _).trans h.c3,(e _).trans h.c4,(e _).trans h.c5,(e _).trans h.c6⟩
theorem rd_row {w : World} {g n : Nat} {t : TypeId} {row : List Value} (h : w.heap[g]? = some (.cells row.toArray t (0,0))) (hu : row.length = n) : Rd w w.heap.size n (some ⟨g,0,none⟩) [row]:=by
 refine ⟨fun r hr => by rw [List.mem_singleton.1 hr];exact hu,fun _ => ⟨g,0,rfl,(gz_ h).1,fun i r j v h1 h2 => ?_⟩⟩
 cases i with
 | succ i => simp at h1
 | zero =>
  simp only [List.getElem?_cons_zero,Option.some.injEq] at h1
  subst h1
  simp only [Nat.zero_mul,Nat.zero_add]
  rw [zqf h j]
  simpa using h2
set_option maxRecDepth 100000 in
set_option maxHeartbeats 1000000 in
theorem i_htlcAt (bt bn bw : Int) (cs : List Chan) (hs : List Htlc) (os : List Circle) (A1 A2 A3 : Option Addr) (p1 p2 p3 : Nat) (key : Int) (w : World) (hl : hs.length ≤ 1048576) (hr : RdBook w w.heap.size A1 cs A2 hs A3 os) :
  Calls Tryz.prog 35 #[.agg #[.int .i64 bt,.int .i64 bn,.int .i64 bw,.slice A1 cs.length p1,.slice A2 hs.length p2,.slice A3 os.length p3],.int .i64 key] w fun e w' => e = .returned (.int .i64 (hAt hs key))∧Below w.heap.size w w':=by
 have HR:=hd_ hr.h
 clear hr
 go_enter Tryz.func35,Tryz.ntmps35
 go_wp2_with fail
 go_loopw [10] (fun i wr => ∃ k : Nat,k ≤ hs.length∧i = .int .i64 k∧Hid ((hs.take k).all (notKeyH key) = true)∧Below w.heap.size w wr) (fun i _ => hs.length - (intOf i).toNat)
 case atStart => exact ⟨0,Nat.zero_le _,rfl,hd_ rfl,bl_⟩
 case round =>
  obtain ⟨k,hk,rfl,HA,hbw⟩:=hrel
  have hbz:=hbw.size
  by_cases hlt : k < hs.length
  ·
   obtain ⟨b,off,rfl,hbB,c0,c1,c2,c3,c4,c5,c6⟩:=Htlc.rd (HR.out.below hbw) hlt
   cases hch : (hs[k].Key == key)
   ·
    have HC:=hd_ (show notKeyH key hs[k] = true by simp [notKeyH,bne,hch])
    go_wp2_with fail
    go_roundw
    case rel => exact ⟨k + 1,by omega,by go_num,hd_ (by rw [zjb hs _ hlt,HA.out,HC.out];rfl),bl_⟩
    case measure => simp [intOf];omega
   ·
    have HC:=hd_ (show notKeyH key hs[k] = false by simp [notKeyH,bne,hch])
    go_wp2_with fail
    go_ret
    exact ⟨zxk (hAt_at hlt HA.out HC.out).symm,bl_⟩
  ·
   obtain rfl : k = hs.length:=by omega
   go_wp2_with fail
   go_ret
   exact ⟨zxk (hAt_none HA.out).symm,bl_⟩
theorem i_fail (w0 w : World) (B X : Nat) (b : Bk) (L : List Line) (code : Int) (A1 A2 A3 A4 : Option Addr) (p1 p2 p3 p4 : Nat) (is : Bool) (c : Int) (h : Wk 136 w0 w B X b L code A1 A2 A3 A4 p1 p2 p3 p4) :
  Calls Tryz.prog 142 #[.pointer (some ⟨X,0,none⟩),.bool is,.int .i64 c] w fun e w' => e = .returned (.tuple #[])∧Wk 136 w w' B X b L (failF code is c) A1 A2 A3 A4 p1 p2 p3 p4∧OnlyX X w w':=by
 have H:=hd_ h.here
 obtain ⟨a0,a1,a2,a3,a4,a5,a6,a7,af,az⟩:=h.open_
 clear h
 cases is
 ·
  rw [zwc]
  go_enter Tryz.func142,Tryz.ntmps142
  go_wp2_with fail
  go_end0
  exact ⟨rfl,H.out,OnlyX.refl _ _⟩
 ·
  by_cases h0 : code = 0
  ·
   have HE:=hd_ (show failF code true c = c by unfold failF;rw [if_pos ⟨rfl,h0⟩])
   have t0 : (code == 0) = true:=by rw [h0];rfl
   clear h0
   go_enter Tryz.func142,Tryz.ntmps142
   go_wp2_with fail
   go_end0
   rw [HE.out]
   exact ⟨rfl,H.out.setCode (by decide) (by decide) (by decide) (by decide) c,OnlyX.set _ _ _ _⟩
  ·
   have HE:=hd_ (show failF code true c = code from failF_ne h0)
   have t0 : (code == 0) = false:=by rw [beq_eq_false_iff_ne];exact h0
   clear h0
   go_enter Tryz.func142,Tryz.ntmps142
   go_wp2_with fail
   go_end0
   rw [HE.out]
   exact ⟨rfl,H.out,OnlyX.refl _ _⟩
theorem zyq (w0 w : World) (B X : Nat) (b : Bk) (L : List Line) (code : Int) (A1 A2 A3 A4 : Option Addr) (p1 p2 p3 p4 : Nat) (k c a : Int) (hl : L.length ≤ 1000) (ha : -1125899906842624 ≤ a∧a ≤ 1125899906842624) (hb : ∀ y ∈ L,-1125899906842624 ≤ y.Amt∧y.Amt ≤ 1125899906842624) (hn : ∀ y ∈ L,¬(y.Kind = k∧y.Ch = c)) (h : Wk 136 w0 w B X b L code A1 A2 A3 A4 p1 p2 p3 p4) :
  Calls Tryz.prog 88 #[.pointer (some ⟨X,0,none⟩),.int .i64 k,.int .i64 c,.int .i64 a] w (fun e w' => Done 136 w B X b (lineTo L k c a) code e w'∧OnlyX X w w'):=by
 have H:=hd_ h.here
 obtain ⟨a0,a1,a2,a3,a4,a5,a6,a7,af,az⟩:=h.open_
 clear h
 by_cases h0 : a = 0
 ·
  have HE:=hd_ (show lineTo L k c a = L by unfold lineTo;rw [if_pos h0])
  have ta : (a != 0) = false:=by rw [h0];rfl
  clear h0 ha
  go_enter Tryz.func88,Tryz.ntmps88
  go_wp2_with fail
  go_end0
  rw [HE.out]
  exact ⟨⟨_,_,_,_,_,_,_,_,rfl,H.out⟩,OnlyX.refl _ _⟩
 ·
  have HE:=hd_ (show lineTo L k c a = addF ⟨k,c,a⟩ L by unfold lineTo;rw [if_neg h0])
  have ta : (a != 0) = true:=by rw [bne_iff_ne];exact h0
  have HM:=hd_ (zho ⟨k,c,a⟩ L hn)
  have HB:=hd_ hb
  have HA:=hd_ ha
  clear h0 hn hb ha
  go_enter Tryz.func88,Tryz.ntmps88
  go_wp2_with fail
  refine nm_ ?_
  intro v hw
  have HV : Hid (Wk 136 w v B X b L code A1 A2 A3 A4 p1 p2 p3 p4):=hd_ (by rw [hw];exact H.out.alloc _)
  have HR : Hid (Rd v v.heap.size 3 (some ⟨w.heap.size,0,none⟩) [[.int .i64 k,.int .i64 c,.int .i64 a]]):=hd_ (by rw [hw];exact rd_row (t:=99) (zqm (by first | rfl | (simp;done))) rfl)
  have HO:=hd_ (show OnlyX X w v by rw [hw];exact OnlyX.of_below ((Below.refl _ _).alloc (Nat.le_refl _) _))
  clear hw a0 a1 a2 a3 a4 a5 a6 a7 af az
  refine (i_merged L [⟨k,c,a⟩] A4 (some ⟨w.heap.size,0,none⟩) p4 1 v (by simp only [List.length_cons,List.length_nil];omega) (by obtain ⟨_,_,e9,_,h9,_⟩:=HV.out.l.form;injection e9 with _ _ e9;rw [e9];simpa using h9) (Nat.le_refl 1) HB.out (fun x hx => by rw [List.mem_singleton.1 hx];exact HA.out) HV.out.l.rd HR.out).mono ?_
  rintro e w1 ⟨o,C,q,rfl,ho,how,hb1⟩
  have hoe:=ho _ HM.out
  subst hoe
  have H1:=hd_ (HV.out.below hb1)
  have HL:=hd_ (how.more HV.out.ble)
  have HO1:=hd_ (HO.out.trans (OnlyX.of_below (X:=X) hb1))
  clear hb1 how ho
  obtain ⟨a0,a1,a2,a3,a4,a5,a6,a7,af,az⟩:=H1.out.open_
  go_wp2_with fail
  go_end0
  rw [HE.out]
  exact ⟨⟨_,_,_,_,_,_,_,_,rfl,H1.out.setL (by decide) (by decide) (by decide) (by decide) HL.out⟩,HO1.out.trans (OnlyX.set _ _ _ _)⟩
set_option maxRecDepth 100000 in
set_option maxHeartbeats 2000000 in
theorem i_ch (w0 w : World) (B X : Nat) (b : Bk) (L : List Line) (code : Int) (A1 A2 A3 A4 : Option Addr) (p1 p2 p3 p4 : Nat) (id : Int) (hcl : b.cs.length ≤ 1048576) (h : Wk 136 w0 w B X b L code A1 A2 A3 A4 p1 p2 p3 p4) :
  Calls Tryz.prog 91 #[.pointer (some ⟨X,0,none⟩),.int .i64 id] w fun e w' => ∃ (g o : Nat) (c : Chan),e = .returned (.pointer (some ⟨g,o,none⟩))∧ChAt w' g o c∧g ≠ X∧Wk 136 w w' B X b L (failF code (decide (chanIx b.cs id < 0)) 6) A1 A2 A3 A4 p1 p2 p3 p4∧OnlyX X w w'∧(0 ≤ chanIx b.cs id → A1 = some ⟨g,0,none⟩∧o = (chanIx b.cs id).toNat * 7∧c = chanOf b.cs id):=by
 have H:=hd_ h.here
 obtain ⟨a0,a1,a2,a3,a4,a5,a6,a7,af,az⟩:=h.open_
 clear h
 obtain ⟨x,hx⟩ : ∃ x,chanIx b.cs id = x:=⟨_,rfl⟩
 rw [hx]
 have HX:=hd_ hx
 by_cases h0 : x < 0
 ·
  have HD : Hid (decide (x < 0) = true):=hd_ (decide_eq_true h0)
  clear hx
  rw [HD.out]
  go_enter Tryz.func91,Tryz.ntmps91
  go_wp2_with fail
  refine (zkw b.t b.n b.w b.cs b.hs b.os _ _ _ _ _ _ id _ hcl ⟨H.out.o.c.rd,H.out.o.h.rd,H.out.o.o.rd⟩).mono ?_
  rintro e w1 ⟨rfl,hb1⟩
  rw [HX.out]
  have H1:=hd_ (H.out.below hb1)
  have HO1:=hd_ (OnlyX.of_below (X:=X) hb1)
  clear hb1 a0 a1 a2 a3 a4 a5 a6 a7 af az
  go_wp2_with fail
  refine (i_fail _ _ B X b L code A1 A2 A3 A4 p1 p2 p3 p4 true 6 H1.out).mono ?_
  rintro e w2 ⟨rfl,h2,ho2⟩
  have H2:=hd_ (H1.out.trans h2)
  have HO2:=hd_ (HO1.out.trans ho2)
  have hlt2:=h2.lt
  clear h2 ho2
  go_wp2_with fail
  go_ret
  refine ⟨w2.heap.size,0,chan0,rfl,?_,by omega,H2.out.alloc _,HO2.out.trans (OnlyX.of_below ((Below.refl _ _).alloc (Nat.le_refl _) _)),fun h9 => by omega⟩
  have hb:=zqm (w:=w2) (o:=.cells #[.int .i64 0,.int .i64 0,.int .i64 0,.int .i64 0,.int .i64 0,.int .i64 0,.int .i64 0] 103 (0,0)) rfl
  exact ⟨zqf hb 0,zqf hb 1,zqf hb 2,zqf hb 3,zqf hb 4,zqf hb 5,zqf hb 6⟩
 ·
  have HD : Hid (decide (x < 0) = false):=hd_ (decide_eq_false h0)
  obtain ⟨i,hi⟩:=Int.eq_ofNat_of_zero_le (show 0 ≤ x by omega)
  subst hi
  have hlt:=zxv hx
  have HO0:=hd_ (show chanOf b.cs id = b.cs[i] by unfold chanOf;rw [hx,Int.toNat_natCast,List.getD_eq_getElem?_getD,List.getElem?_eq_getElem hlt];rfl)
  clear hx h0
  rw [HD.out,zwc]
  obtain ⟨g,hA,hBg⟩:=H.out.o.c.headW (by rw [List.length_map];omega)
  subst hA
  have ix0 : (0 : Int) ≤ (i : Int):=by omega
  have ix1 : (i : Int) < (b.cs.length : Int):=by omega
  go_enter Tryz.func91,Tryz.ntmps91
  go_wp2_with fail
  refine (zkw b.t b.n b.w b.cs b.hs b.os _ _ _ _ _ _ id _ hcl ⟨H.out.o.c.rd,H.out.o.h.rd,H.out.o.o.rd⟩).mono ?_
  rintro e w1 ⟨rfl,hb1⟩
  rw [HX.out]
  have H1:=hd_ (H.out.below hb1)
  have HO1:=hd_ (OnlyX.of_below (X:=X) hb1)
  clear hb1 a0 a1 a2 a3 a4 a5 a6 a7 af az
  obtain ⟨a0,a1,a2,a3,a4,a5,a6,a7,af,az⟩:=H1.out.open_
  go_wp2_with fail
  go_ret
  obtain ⟨cur,hh⟩:=H1.out.o.c.heapW
  have hr : (b.cs.map Chan.cells)[i]? = some b.cs[i].cells:=by rw [List.getElem?_map,List.getElem?_eq_getElem hlt];rfl
  have hc : ∀ j,j < 7 → w1.cell? ⟨g,i * 7 + j,none⟩ = b.cs[i].cells[j]?:=fun j hj => H1.out.o.c.cellAt hr hj
  refine ⟨g,i * 7,b.cs[i],rfl,⟨hc 0 (by decide),hc 1 (by decide),hc 2 (by decide),hc 3 (by decide),hc 4 (by decide),hc 5 (by decide),hc 6 (by decide)⟩,fun e => ?_,H1.out,HO1.out,fun _ => ⟨rfl,by rw [Int.toNat_natCast],HO0.out.symm⟩⟩
  subst e
  rw [H1.out.x] at hh
  injection hh with hh
  injection hh with _ hh
  exact absurd hh (by decide)
end Go.Proofs.YtdbmkfmenfcbiaaGreat
namespace Go.Proofs.YtdbmkfmenfcbiaaGreat
open Go.RowKit
theorem info_evi : (Tryz.prog.info? 64).map (fun i => (i.zero,i.size,i.bytes)) = some (some (.agg #[.int .i64 0,.int .i64 0,.int .i64 0,.int .i64 0,.int .i64 0,.int .i64 0,.bool false]),7,56):=by kernel_rfl
set_option maxRecDepth 100000 in
set_option maxHeartbeats 2000000 in
theorem i_Sweep (bt bn bw : Int) (cs : List Chan) (hs : List Htlc) (os : List Circle) (A1 A2 A3 : Option Addr) (p1 p2 p3 : Nat) (age : Int) (w : World) (hlc : cs.length ≤ 1048576) (hlh : hs.length ≤ 1048576) (hlo : os.length ≤ 1048576) (hr : RdBook w w.heap.size A1 cs A2 hs A3 os) :
  Calls Tryz.prog 23 #[.agg #[.int .i64 bt,.int .i64 bn,.int .i64 bw,.slice A1 cs.length p1,.slice A2 hs.length p2,.slice A3 os.length p3],.int .i64 age] w fun e w' => ∃ A cap,e = .returned (.slice A (sweepOf bt bn bw cs hs os age).length cap)∧Ow w' w.heap.size 64 7 (.slice A (sweepOf bt bn bw cs hs os age).length cap) ((sweepOf bt bn bw cs hs os age).map Event.cells)∧Below w.heap.size w w':=by
 have HR:=hd_ hr
 clear hr
 obtain ⟨i0,hi,hz0,hz1,hz2⟩:=info_parts info_evi
 have HI:=hd_ hi
 have HZ0:=hd_ hz0
 have HZ1:=hd_ hz1
 have HZ2:=hd_ hz2
 clear hi hz0 hz1 hz2
 have hla:=zvt bt bn bw cs hs os age
 have HC:=fun W q => i_Aged bt bn bw cs hs os A1 A2 A3 p1 p2 p3 age W hlc hlh hlo q
 unfold sweepOf
 obtain ⟨L,hL⟩ : ∃ L,agedOf bt bn bw cs hs os age = L:=⟨_,rfl⟩
 rw [hL] at hla ⊢
 simp only [hL] at HC
 have HCC:=hd_ HC
 clear HC hL
 go_enter Tryz.func23,Tryz.ntmps23
 go_wp2_with fail
 refine (HCC.out _ ((HR.out.below (bl_)).more (by first | omega | (simp;omega) | (simp;done)))).mono ?_
 rintro e w1 ⟨AA,ca,rfl,how1,hb1⟩
 have z1:=hb1.size
 try simp at z1
 have OA:=hd_ (how1.more (B':=w.heap.size + 1) (by first | (simp;done) | (simp;omega)))
 have hA1 : Below w.heap.size w w1:=bl_
 clear how1 hb1
 go_wp2_with fail
 go_loopw [5,12] (fun vk i wr => ∃ (k : Nat) (B : Option Addr) (cp : Nat),k ≤ L.length∧i = .int .i64 k∧vk = .slice B ((L.take k).map evOf).length cp∧Ow wr (w.heap.size + 1) 64 7 (.slice B ((L.take k).map evOf).length cp) (((L.take k).map evOf).map Event.cells)∧Ow wr (w.heap.size + 1) 3 1 (.slice AA L.length ca) (L.map intCells)∧Below w.heap.size w wr) (fun _ i _ => L.length - (intOf i).toNat)
 case atStart => exact ⟨0,none,0,Nat.zero_le _,rfl,rfl,Ow.nil_,OA.out,hA1⟩
 case round =>
  clear hA1
  obtain ⟨k,B,cp,hk,rfl,rfl,how,howA,hbw⟩:=hrel
  have hbz:=hbw.size
  have hrl : ((L.take k).map evOf).length ≤ 1048576:=by rw [List.length_map,List.length_take];omega
  by_cases hlt : k < L.length
  ·
   obtain ⟨b,off,rfl,hbB,c0⟩:=zvu howA.rd hlt
   have DF:=hd_ (howA.differ how (by decide))
   have OB:=hd_ how.block
   have HW:=hd_ how
   have HA:=hd_ howA
   clear how howA
   have HK:=hd_ (show ((L.take (k + 1)).map evOf) = ((L.take k).map evOf) ++ [evOf L[k]] by rw [List.take_succ_eq_append_getElem hlt,List.map_append];rfl)
   obtain ⟨RS,hRS⟩ : ∃ R,((L.take k).map evOf) = R:=⟨_,rfl⟩
   rw [hRS] at hrl DF OB HW HK ⊢
   clear hRS
   have KA:=hd_ (fun o1 (w6 : World) (hgr : (wr.alloc o1).grownBy w6 (Value.slice B RS.length cp).ownBlock) => (HA.out.alloc o1).grown hgr DF.out)
   have KB:=hd_ (fun o1 (w6 : World) (hgr : (wr.alloc o1).grownBy w6 (Value.slice B RS.length cp).ownBlock) => (hbw.alloc (Nat.le_trans (Nat.le_refl _) hbz) o1).grown hgr (by simp;omega) (fun k e => by have:=(OB.out k e).1;omega))
   go_wp2_with (at_builtin;refine zqr rfl _ _ _ rfl (w.heap.size + 1) 64 i0 _ 7 56 Tryz.underlying26 HI.out HZ0.out HZ1.out HZ2.out rfl (by decide) (.slice B RS.length cp) (RS.map Event.cells) rfl (HW.out.alloc _) wr.heap.size 1 (Event.cells (evOf L[k])) 64 rfl (zqm (by first | rfl | (simp;done))) rfl (by simp [Event.cells,Value.oneCell']) (by rw [List.length_map];omega) (by decide) (by first | omega | (simp;omega) | (simp;done)) ?_;intro g cap' w6 how6 hgr6 hat6 hlt6;rw [List.length_map] at how6;rw [List.length_map];have OA6:=hd_ (KA.out _ _ hgr6);have hb6:=KB.out _ _ hgr6;have O6:=hd_ how6;clear how6 hgr6 hat6)
   go_roundw
   case rel =>
    refine ⟨k + 1,some ⟨g,0,none⟩,cap',by omega,by go_num,by rw [HK.out,List.length_append];rfl,?_,OA6.out,hb6⟩
    rw [HK.out,List.map_append,List.length_append]
    exact O6.out
   case measure => simp [intOf];omega
  ·
   obtain rfl : k = L.length:=by omega
   rw [List.take_length] at how ⊢
   have HW:=hd_ how
   clear how howA
   go_wp2_with fail
   go_ret
   exact ⟨_,_,rfl,HW.out.more (by omega),bl_⟩
end Go.Proofs.YtdbmkfmenfcbiaaGreat
namespace Go.Proofs.YtdbmkfmenfcbiaaGreat
open Go.RowKit
theorem info_evs : (Tryz.prog.info? 64).map (fun i => (i.zero,i.size,i.bytes)) = some (some (.agg #[.int .i64 0,.int .i64 0,.int .i64 0,.int .i64 0,.int .i64 0,.int .i64 0,.bool false]),7,56):=by kernel_rfl
set_option maxRecDepth 100000 in
set_option maxHeartbeats 2000000 in
theorem s_Sweep (bt bn bw : Int) (cs : List Chan) (hs : List Htlc) (os : List Circle) (A1 A2 A3 : Option Addr) (p1 p2 p3 : Nat) (age : Int) (w : World) (hlc : cs.length ≤ 1048576) (hlh : hs.length ≤ 1048576) (hlo : os.length ≤ 1048576) (hr : RdBook w w.heap.size A1 cs A2 hs A3 os) :
  Calls Tryz.prog 24 #[.agg #[.int .i64 bt,.int .i64 bn,.int .i64 bw,.slice A1 cs.length p1,.slice A2 hs.length p2,.slice A3 os.length p3],.int .i64 age] w fun e w' => ∃ A cap,e = .returned (.slice A (sweepOf bt bn bw cs hs os age).length cap)∧Ow w' w.heap.size 64 7 (.slice A (sweepOf bt bn bw cs hs os age).length cap) ((sweepOf bt bn bw cs hs os age).map Event.cells)∧Below w.heap.size w w':=by
 have HR:=hd_ hr
 clear hr
 obtain ⟨i0,hi,hz0,hz1,hz2⟩:=info_parts info_evs
 have HI:=hd_ hi
 have HZ0:=hd_ hz0
 have HZ1:=hd_ hz1
 have HZ2:=hd_ hz2
 clear hi hz0 hz1 hz2
 have hla:=zvt bt bn bw cs hs os age
 have HC:=fun W q => s_Aged bt bn bw cs hs os A1 A2 A3 p1 p2 p3 age W hlc hlh hlo q
 unfold sweepOf
 obtain ⟨L,hL⟩ : ∃ L,agedOf bt bn bw cs hs os age = L:=⟨_,rfl⟩
 rw [hL] at hla ⊢
 simp only [hL] at HC
 have HCC:=hd_ HC
 clear HC hL
 go_enter Tryz.func24,Tryz.ntmps24
 go_wp2_with fail
 refine (HCC.out _ ((HR.out.below (bl_)).more (by first | omega | (simp;omega) | (simp;done)))).mono ?_
 rintro e w1 ⟨AA,ca,rfl,how1,hb1⟩
 have z1:=hb1.size
 try simp at z1
 have OA:=hd_ (how1.more (B':=w.heap.size + 1) (by first | (simp;done) | (simp;omega)))
 have hA1 : Below w.heap.size w w1:=bl_
 have HE:=hd_ ((Ow.empty_ (w:=w.alloc (.cells #[.int .i64 bt,.int .i64 bn,.int .i64 bw,.slice A1 cs.length p1,.slice A2 hs.length p2,.slice A3 os.length p3] 39)) (g:=w.heap.size + 1) (e:=64) (size:=7) (B:=w.heap.size + 1) (by simp) (Nat.le_refl _)).below (by simpa using hb1))
 clear how1 hb1
 go_wp2_with fail
 go_loopw [5,13] (fun vk i wr => ∃ (k : Nat) (B : Option Addr) (cp : Nat),k ≤ L.length∧i = .int .i64 k∧vk = .slice B ((L.take k).map evOf).length cp∧Ow wr (w.heap.size + 1) 64 7 (.slice B ((L.take k).map evOf).length cp) (((L.take k).map evOf).map Event.cells)∧Ow wr (w.heap.size + 1) 3 1 (.slice AA L.length ca) (L.map intCells)∧Below w.heap.size w wr) (fun _ i _ => L.length - (intOf i).toNat)
 case atStart => exact ⟨0,_,_,Nat.zero_le _,rfl,rfl,HE.out,OA.out,hA1⟩
 case round =>
  clear hA1
  obtain ⟨k,B,cp,hk,rfl,rfl,how,howA,hbw⟩:=hrel
  have hbz:=hbw.size
  have hrl : ((L.take k).map evOf).length ≤ 1048576:=by rw [List.length_map,List.length_take];omega
  by_cases hlt : k < L.length
  ·
   obtain ⟨b,off,rfl,hbB,c0⟩:=zvu howA.rd hlt
   have DF:=hd_ (howA.differ how (by decide))
   have OB:=hd_ how.block
   have HW:=hd_ how
   have HA:=hd_ howA
   clear how howA
   have HK:=hd_ (show ((L.take (k + 1)).map evOf) = ((L.take k).map evOf) ++ [evOf L[k]] by rw [List.take_succ_eq_append_getElem hlt,List.map_append];rfl)
   obtain ⟨RS,hRS⟩ : ∃ R,((L.take k).map evOf) = R:=⟨_,rfl⟩
   rw [hRS] at hrl DF OB HW HK ⊢
   clear hRS
   have KA:=hd_ (fun o1 (w6 : World) (hgr : (wr.alloc o1).grownBy w6 (Value.slice B RS.length cp).ownBlock) => (HA.out.alloc o1).grown hgr DF.out)
   have KB:=hd_ (fun o1 (w6 : World) (hgr : (wr.alloc o1).grownBy w6 (Value.slice B RS.length cp).ownBlock) => (hbw.alloc (Nat.le_trans (Nat.le_refl _) hbz) o1).grown hgr (by simp;omega) (fun k e => by have:=(OB.out k e).1;omega))
   go_wp2_with (at_builtin;refine zqr rfl _ _ _ rfl (w.heap.size + 1) 64 i0 _ 7 56 Tryz.underlying26 HI.out HZ0.out HZ1.out HZ2.out rfl (by decide) (.slice B RS.length cp) (RS.map Event.cells) rfl (HW.out.alloc _) wr.heap.size 1 (Event.cells (evOf L[k])) 64 rfl (zqm (by first | rfl | (simp;done))) rfl (by simp [Event.cells,Value.oneCell']) (by rw [List.length_map];omega) (by decide) (by first | omega | (simp;omega) | (simp;done)) ?_;intro g cap' w6 how6 hgr6 hat6 hlt6;rw [List.length_map] at how6;rw [List.length_map];have OA6:=hd_ (KA.out _ _ hgr6);have hb6:=KB.out _ _ hgr6;have O6:=hd_ how6;clear how6 hgr6 hat6)
   go_roundw
   case rel =>
    refine ⟨k + 1,some ⟨g,0,none⟩,cap',by omega,by go_num,by rw [HK.out,List.length_append];rfl,?_,OA6.out,hb6⟩
    rw [HK.out,List.map_append,List.length_append]
    exact O6.out
   case measure => simp [intOf];omega
  ·
   obtain rfl : k = L.length:=by omega
   rw [List.take_length] at how ⊢
   have HW:=hd_ how
   clear how howA
   go_wp2_with fail
   go_ret
   exact ⟨_,_,rfl,HW.out.more (by omega),bl_⟩
end Go.Proofs.YtdbmkfmenfcbiaaGreat
namespace Go.Proofs.YtdbmkfmenfcbiaaGreat
open Go.RowKit Go.Deep
def tailA (A : Option Addr) (cap k size : Nat) : Option Addr:=if cap = k then A else A.map (·.add (k * size))
theorem Rd.from_ {w : World} {B size : Nat} {A : Option Addr} {rows : List (List Value)} (h : Rd w B size A rows) {cap : Nat} (hc : rows.length ≤ cap) (k : Nat) : Rd w B size (tailA A cap k size) (rows.drop k):=by
  refine ⟨fun r hr => h.1 r (List.mem_of_mem_drop hr),fun hn => ?_⟩
  rw [List.length_drop] at hn
  obtain ⟨b,off,rfl,hb,hcell⟩:=h.2 (by omega)
  refine ⟨b,off + k * size,?_,hb,fun i r j v h1 h2 => ?_⟩
  · unfold tailA
    rw [if_neg (by omega)]
    simp [Addr.add]
  · rw [List.getElem?_drop] at h1
    have:=hcell (k + i) r j v h1 h2
    rw [Nat.add_mul] at this
    rw [show off + k * size + i * size + j = off + (k * size + i * size) + j by omega]
    exact this
theorem zsh {P : Program} {t : TypeId} {size n cap k : Nat} {A : Option Addr} {x : Int} (ht : P.underlying t = some (.slice (P.elem t))) (hsz : ∀ W : World,(sizeOf (P.elem t)).run P W = .ok size W) (hx : x = (k : Int)) (h1 : k ≤ n) (W : World) :
    (Instr.slice t (.slice A n cap) (some (.int .i64 x)) none none).run P W = .ok (.slice (tailA A cap k size) (n - k) (cap - k)) W:=by
  subst hx
  rw [run_slice_l (P:=P) W t A n cap ht .i64 (k : Int) (by omega) (by omega),hsz]
  simp [Result.andThen,sliced,tailA]
theorem zhe {α : Type} (l : List α) (i : Nat) : l.take i ++ l.drop (i + 1) = l.eraseIdx i:=(List.eraseIdx_eq_take_drop_succ l i).symm
theorem zgu {α β : Type} (f : α → β) (l : List α) (i : Nat) : (l.eraseIdx i).map f = (l.map f).eraseIdx i:=by
  rw [List.eraseIdx_eq_take_drop_succ,List.eraseIdx_eq_take_drop_succ,List.map_append,List.map_take,List.map_drop]
end Go.Proofs.YtdbmkfmenfcbiaaGreat
namespace Go.Proofs.YtdbmkfmenfcbiaaGreat
open Go.RowKit Go.Deep
def ovB (b : Bk) (e : Event) : Bool :=
 if b.n = 1125899906842624 then true
 else if e.Kind = 1 then decide (1125899906842624 < b.w + e.Amt)
 else if e.Kind = 2 then decide (1125899906842624 < e.Amt + e.Fee)
 else if e.Kind = 3∧0 ≤ chanIx b.cs e.Ch then decide (1125899906842624 < b.w + (chanOf b.cs e.Ch).Local - e.Fee)
 else if e.Kind = 8 then b.t == 1125899906842624
 else false
theorem ov_yes {b : Bk} {e : Event} (h : (b.ok && evB e) = true) (ho : ovB b e = true) : applyS b e = bad 2:=by
 by_cases hn : b.n = 1125899906842624
 ·
  exact zmj h hn
 rw [zwa h hn]
 unfold ovB at ho
 rw [if_neg hn] at ho
 unfold stepS
 split
 ·
  rename_i h1
  rw [if_pos h1] at ho
  unfold depB
  rw [if_pos (of_decide_eq_true ho)]
 rename_i h1
 rw [if_neg h1] at ho
 split
 ·
  rename_i h2
  rw [if_pos h2] at ho
  unfold openB
  rw [if_pos (of_decide_eq_true ho)]
 rename_i h2
 rw [if_neg h2] at ho
 by_cases h3 : e.Kind = 3∧0 ≤ chanIx b.cs e.Ch
 ·
  rw [if_pos h3] at ho
  rw [if_pos h3.1]
  unfold closeA
  rw [if_pos ⟨h3.2,of_decide_eq_true ho⟩]
 rw [if_neg h3] at ho
 by_cases h8 : e.Kind = 8
 ·
  rw [if_pos h8] at ho
  rw [if_neg (by omega),if_neg (by omega),if_neg (by omega),if_neg (by omega),if_neg (by omega),if_pos h8]
  unfold tickB
  rw [if_pos (eq_of_beq ho)]
 ·
  rw [if_neg h8] at ho
  cases ho
theorem ov_no {b : Bk} {e : Event} (ho : ovB b e = false) : b.n ≠ 1125899906842624∧(e.Kind = 1 → b.w + e.Amt ≤ 1125899906842624)∧(e.Kind = 2 → e.Amt + e.Fee ≤ 1125899906842624)∧(e.Kind = 3 → closeA b e = closeB b e)∧(e.Kind = 8 → b.t ≠ 1125899906842624):=by
 unfold ovB at ho
 by_cases hn : b.n = 1125899906842624
 ·
  rw [if_pos hn] at ho
  cases ho
 rw [if_neg hn] at ho
 refine ⟨hn,fun h1 => ?_,fun h2 => ?_,fun h3 => ?_,fun h8 => ?_⟩
 ·
  rw [if_pos h1] at ho
  have:=of_decide_eq_false ho
  omega
 ·
  rw [if_neg (by omega),if_pos h2] at ho
  have:=of_decide_eq_false ho
  omega
 ·
  rw [if_neg (by omega),if_neg (by omega)] at ho
  unfold closeA
  by_cases hx : 0 ≤ chanIx b.cs e.Ch
  ·
   rw [if_pos ⟨h3,hx⟩] at ho
   rw [if_neg (fun h => absurd h.2 (of_decide_eq_false ho))]
  ·
   rw [if_neg (fun h => hx h.1)]
 ·
  rw [if_neg (by omega),if_neg (by omega),if_neg (by omega),if_pos h8] at ho
  exact beq_eq_false_iff_ne.1 ho
set_option maxRecDepth 100000 in
set_option maxHeartbeats 4000000 in
theorem zwp (b : Bk) (e : Event) (A1 A2 A3 : Option Addr) (p1 p2 p3 : Nat) (w : World) (hF : BookFacts b.t b.n b.w b.cs b.hs b.os) (ha : amtB e.Amt = true) (hf : amtB e.Fee = true) (hr : RdBook w w.heap.size A1 b.cs A2 b.hs A3 b.os) :
  Calls Tryz.prog 87 #[.agg #[.int .i64 b.t,.int .i64 b.n,.int .i64 b.w,.slice A1 b.cs.length p1,.slice A2 b.hs.length p2,.slice A3 b.os.length p3],.agg #[.int .i64 e.Kind,.int .i64 e.Key,.int .i64 e.Ch,.int .i64 e.To,.int .i64 e.Amt,.int .i64 e.Fee,.bool e.Yes]] w fun e' w' => e' = .returned (.bool (ovB b e))∧Below w.heap.size w w':=by
 obtain ⟨k,key,ch,ot,amt,fee,yes⟩:=e
 dsimp only at ha hf ⊢
 obtain ⟨a1,a2⟩:=zxy.1 ha
 obtain ⟨f1,f2⟩:=zxy.1 hf
 obtain ⟨w1,w2⟩:=hF.w
 have hcl:=hF.cl
 have HF:=hd_ hF
 have HR:=hd_ hr
 clear hF hr ha hf
 obtain ⟨r,hr⟩ : ∃ r,ovB b ⟨k,key,ch,ot,amt,fee,yes⟩ = r:=⟨_,rfl⟩
 rw [hr]
 have HRS:=hd_ hr
 clear hr
 have HG_w : Hid (Below w.heap.size w w):=hd_ (Below.refl _ _)
 go_enter Tryz.func87,Tryz.ntmps87
 go_upto_region 1 with fail
 refine nm_ ?_
 intro w11 hw
 have HG_w11 : Hid (Below w.heap.size w w11):=hd_ (by rw [hw];exact ((HG_w.out).alloc (by have:=HG_w.out.size;first | omega | (simp;done) | (simp;omega)) _).alloc (by have:=HG_w.out.size;first | omega | (simp;done) | (simp;omega)) _)
 obtain ⟨KB,h9K⟩ : ∃ v,v = w.heap.size:=⟨_,rfl⟩
 have HK_w11 : Hid (Hx w11 KB (bkC b A1 p1 A2 p2 A3 p3) 39):=hd_ (by rw [hw,h9K];first | done | exact zqg (by simp) (zqm (by first | rfl | (simp;done))))
 have HLK : Hid (w.heap.size ≤ KB):=hd_ (by have:=HG_w.out.size;omega)
 obtain ⟨MB,h9M⟩ : ∃ v,v = w.heap.size + 1:=⟨_,rfl⟩
 have HM_w11 : Hid (Hx w11 MB #[.int .i64 k,.int .i64 key,.int .i64 ch,.int .i64 ot,.int .i64 amt,.int .i64 fee,.bool yes] 64):=hd_ (by rw [hw,h9M];first | done | exact zqm (by first | rfl | (simp;done)))
 have HLM : Hid (w.heap.size ≤ MB):=hd_ (by have:=HG_w.out.size;omega)
 try rw [← h9M]
 try rw [← h9K]
 have HNMK : Hid (MB ≠ KB):=hd_ (by omega)
 clear hw h9K h9M
 obtain ⟨K0,K1,K2,K3,K4,K5,Kf,Kz⟩:=box6_ HK_w11.out
 obtain ⟨M0,M1,M2,M3,M4,M5,M6,Mf,Mz⟩:=box7_ HM_w11.out
 obtain ⟨ix,hix⟩ : ∃ v,chanIx b.cs ch = v:=⟨_,rfl⟩
 have HIX:=hd_ hix
 clear hix
 go_wp2_with fail
 refine (zkw b.t b.n b.w b.cs b.hs b.os _ _ _ _ _ _ ch _ (by omega) ((HR.out.below HG_w11.out).more HG_w11.out.size)).mono ?_
 rintro e' w12 ⟨rfl,hb⟩
 rw [HIX.out]
 have HG_w12:=hd_ (HG_w11.out.trans (hb.mono HG_w11.out.size))
 have HK_w12:=hd_ (zqe hb (gz_ HK_w11.out).1 HK_w11.out)
 have HM_w12:=hd_ (zqe hb (gz_ HM_w11.out).1 HM_w11.out)
 clear hb
 clear K0 K1 K2 K3 K4 K5 M0 M1 M2 M3 M4 M5 M6 Kf Mf Kz Mz
 obtain ⟨K0,K1,K2,K3,K4,K5,Kf,Kz⟩:=box6_ HK_w12.out
 obtain ⟨M0,M1,M2,M3,M4,M5,M6,Mf,Mz⟩:=box7_ HM_w12.out
 cases tn : (b.n == 1125899906842624)
 ·
  have HN:=hd_ (beq_eq_false_iff_ne.1 tn)
  cases tk1 : (k == 1)
  ·
   have h1:=beq_eq_false_iff_ne.1 tk1
   have H1:=hd_ h1
   clear h1
   cases tk2 : (k == 2)
   ·
    have h2:=beq_eq_false_iff_ne.1 tk2
    have H2:=hd_ h2
    clear h2
    cases tk3 : (k == 3)
    ·
     have h3:=beq_eq_false_iff_ne.1 tk3
     have H3:=hd_ h3
     clear h3
     cases tk8 : (k == 8)
     ·
      have H8:=hd_ (beq_eq_false_iff_ne.1 tk8)
      go_wp2_with fail
      go_ret
      exact ⟨zqj (by rw [← HRS.out];unfold ovB;rw [if_neg HN.out,if_neg H1.out,if_neg H2.out,if_neg (fun h => H3.out h.1),if_neg H8.out]),HG_w12.out⟩
     ·
      have H8:=hd_ (eq_of_beq tk8)
      go_wp2_with fail
      go_ret
      exact ⟨zqj (by rw [← HRS.out];unfold ovB;rw [if_neg HN.out,if_neg H1.out,if_neg H2.out,if_neg (fun h => H3.out h.1),if_pos H8.out]),HG_w12.out⟩
    ·
     have H3:=hd_ (eq_of_beq tk3)
     cases tx : decide (ix ≥ 0)
     ·
      have HX:=hd_ (of_decide_eq_false tx)
      have tk8 : (k == 8) = false:=beq_eq_false_iff_ne.2 (by rw [H3.out];decide)
      go_wp2_with fail
      go_ret
      exact ⟨zqj (by rw [← HRS.out];unfold ovB;rw [if_neg HN.out,if_neg H1.out,if_neg H2.out,if_neg (fun h => absurd h.2 (by have:=HX.out;rw [HIX.out];omega)),if_neg (by simp only;rw [H3.out];decide)]),HG_w12.out⟩
     ·
      have hx:=of_decide_eq_true tx
      obtain ⟨i,hi⟩:=Int.eq_ofNat_of_zero_le (show 0 ≤ ix from hx)
      subst hi
      have hlt:=zxv HIX.out
      have hloc:=HF.out.local_ hlt
      have hco : chanOf b.cs ch = b.cs[i]:=by unfold chanOf;rw [HIX.out,Int.toNat_natCast,List.getD_eq_getElem?_getD,List.getElem?_eq_getElem hlt];rfl
      have HCO:=hd_ hco
      have HX:=hd_ hx
      clear hco hx
      obtain ⟨bb,off,hA,hbB,c0,c1,c2,c3,c4,c5,c6⟩:=Chan.rd (HR.out.c.below HG_w12.out) hlt
      subst hA
      clear K0 K1 K2 K3 K4 K5 M0 M1 M2 M3 M4 M5 M6 Kf Mf Kz Mz
      obtain ⟨K0,K1,K2,K3,K4,K5,Kf,Kz⟩:=box6_ HK_w12.out
      obtain ⟨M0,M1,M2,M3,M4,M5,M6,Mf,Mz⟩:=box7_ HM_w12.out
      obtain ⟨l,hl⟩ : ∃ l,b.cs[i].Local = l:=⟨_,rfl⟩
      rw [hl] at c2 hloc
      have HLO:=hd_ hl
      clear hl
      have i1 : (0 : Int) ≤ (i : Int):=by omega
      have i2 : (i : Int) < (b.cs.length : Int):=by omega
      have ws1 : IntKind.i64.wrap (b.w + l) = b.w + l:=IntWalk.i64_in _ ⟨by omega,by omega⟩
      have ws2 : IntKind.i64.wrap (b.w + l - fee) = b.w + l - fee:=IntWalk.i64_in _ ⟨by omega,by omega⟩
      go_wp2_with fail
      go_region
      all_goals go_wp2_with fail
      all_goals go_ret
      all_goals exact ⟨zqj (by rw [← HRS.out];unfold ovB;rw [if_neg HN.out,if_neg H1.out,if_neg H2.out,if_pos ⟨H3.out,by simp only;rw [HIX.out];exact HX.out⟩,HCO.out,HLO.out]),HG_w12.out.drew⟩
   ·
    have H2:=hd_ (eq_of_beq tk2)
    have ws : IntKind.i64.wrap (amt + fee) = amt + fee:=IntWalk.i64_in _ ⟨by omega,by omega⟩
    go_wp2_with fail
    go_ret
    exact ⟨zqj (by rw [← HRS.out];unfold ovB;rw [if_neg HN.out,if_neg H1.out,if_pos H2.out]),HG_w12.out⟩
  ·
   have H1:=hd_ (eq_of_beq tk1)
   have ws : IntKind.i64.wrap (b.w + amt) = b.w + amt:=IntWalk.i64_in _ ⟨by omega,by omega⟩
   go_wp2_with fail
   go_ret
   exact ⟨zqj (by rw [← HRS.out];unfold ovB;rw [if_neg HN.out,if_pos H1.out]),HG_w12.out⟩
 ·
  have HN:=hd_ (eq_of_beq tn)
  go_wp2_with fail
  go_ret
  exact ⟨zqj (by rw [← HRS.out];unfold ovB;rw [if_pos HN.out]),HG_w12.out⟩
end Go.Proofs.YtdbmkfmenfcbiaaGreat
namespace Go.Proofs.YtdbmkfmenfcbiaaGreat
open Go.RowKit Go.Deep
theorem zgm {ks : List Int} (h : everyTo ks.length (keyAt ks) = true) {i j : Nat} (hij : i < j) (hj : j < ks.length) : ks[i]'(by omega) ≠ ks[j]:=by
 have h1:=everyTo_iff.1 h j hj
 rw [zvj hj,Bool.and_eq_true] at h1
 intro e
 have h2 : hasB (ks.take j) ks[j] = true:=by
  unfold hasB
  rw [List.any_eq_true]
  refine ⟨ks[i]'(by omega),?_,by rw [e];simp⟩
  rw [List.mem_take_iff_getElem]
  exact ⟨i,by omega,rfl⟩
 rw [h2] at h1
 exact absurd h1.2 (by decide)
theorem hs_ne {bt bn bw : Int} {cs : List Chan} {hs : List Htlc} {os : List Circle} (hF : BookFacts bt bn bw cs hs os) {i j : Nat} (hij : i < j) (hj : j < hs.length) : (hs[i]'(by omega)).Key ≠ hs[j].Key:=by
 have hp:=hF.parts
 simp only [partsB,Bool.and_eq_true] at hp
 have h2:=hp.2
 unfold keysOf at h2
 have hl : j < (hs.map Htlc.Key ++ os.map Circle.Key).length:=by rw [List.length_append,List.length_map];omega
 have:=zgm h2 hij hl
 rw [List.getElem_append_left (by rw [List.length_map];omega),List.getElem_append_left (by rw [List.length_map];omega),List.getElem_map,List.getElem_map] at this
 exact this
theorem zhy {hs : List Htlc} {key : Int} {i : Nat} (h : hAt hs key = (i : Int)) : ∃ hl : i < hs.length,hs[i].Key = key:=by
 unfold hAt at h
 split at h
 ·
  rename_i j hj
  obtain ⟨h1,h2,_⟩:=List.findIdx?_eq_some_iff_getElem.1 hj
  have : j = i:=by omega
  subst this
  exact ⟨h1,by simpa [notKeyH] using h2⟩
 ·
  omega
theorem zva (key : Int) : ∀ (l : List Htlc) (r : Htlc),(∀ x ∈ l,x.Key ≠ key) → l.foldl (pickH key) r = r
 | [],_,_ => rfl
 | x :: l,r,h => by
  have e : pickH key r x = r:=by unfold pickH;rw [if_neg (by simpa using h x (by simp))]
  rw [List.foldl_cons,e]
  exact zva key l r (fun y hy => h y (by simp [hy]))
theorem zye {α : Type} {l : List α} {i : Nat} (h : i < l.length) : l = l.take i ++ l[i] :: l.drop (i + 1):=by rw [List.getElem_cons_drop,List.take_append_drop]
theorem zmm {bt bn bw : Int} {cs : List Chan} {hs : List Htlc} {os : List Circle} (hF : BookFacts bt bn bw cs hs os) {key : Int} {i : Nat} (h : hAt hs key = (i : Int)) (hl : i < hs.length) : lastH hs key = hs[i]∧hs.filter (notKeyH key) = hs.eraseIdx i:=by
 obtain ⟨_,hk⟩:=zhy h
 have hA : ∀ x ∈ hs.take i,x.Key ≠ key:=by
  intro x hx
  obtain ⟨j,hj,rfl⟩:=List.mem_take_iff_getElem.1 hx
  rw [← hk]
  exact hs_ne hF (by omega) hl
 have hB : ∀ x ∈ hs.drop (i + 1),x.Key ≠ key:=by
  intro x hx
  obtain ⟨j,hj,rfl⟩:=List.mem_iff_getElem.1 hx
  rw [List.length_drop] at hj
  rw [List.getElem_drop,← hk]
  exact (hs_ne hF (show i < i + 1 + j by omega) (by omega)).symm
 constructor
 ·
  unfold lastH
  have e1 : hs.foldl (pickH key) htlc0 = (hs.take i ++ hs[i] :: hs.drop (i + 1)).foldl (pickH key) htlc0:=by rw [← zye hl]
  have hk2 : (hs[i].Key == key) = true:=by rw [hk];simp
  have e2 : pickH key htlc0 hs[i] = hs[i]:=by unfold pickH;rw [if_pos hk2]
  rw [e1,List.foldl_append,zva key _ _ hA,List.foldl_cons,e2,zva key _ _ hB]
 ·
  rw [List.eraseIdx_eq_take_drop_succ]
  have e1 : hs.filter (notKeyH key) = (hs.take i ++ hs[i] :: hs.drop (i + 1)).filter (notKeyH key):=by rw [← zye hl]
  rw [e1,List.filter_append,List.filter_cons_of_neg (by simp [notKeyH,hk]),List.filter_eq_self.2 (fun x hx => by simpa [notKeyH] using hA x hx),List.filter_eq_self.2 (fun x hx => by simpa [notKeyH] using hB x hx)]
theorem zgh {hs : List Htlc} {key : Int} (h : hAt hs key < 0) : ∀ x ∈ hs,x.Key ≠ key:=by
 intro x hx
 unfold hAt at h
 split at h
 ·
  omega
 ·
  rename_i hf
  rw [List.findIdx?_eq_none_iff] at hf
  have:=hf x hx
  simpa [notKeyH] using this
theorem zgj {hs : List Htlc} {key : Int} (h : hAt hs key < 0) : (lastH hs key).Key = 0:=by
 unfold lastH
 rw [zva key hs htlc0 (zgh h)]
 rfl
/-! ### channels put cell by cell -/
theorem zgv {cs : List Chan} {ch d : Int} {i : Nat} {y0 y1 y2 y3 y4 y5 y6 : Int} (hi : chanIx cs ch = (i : Int)) (hl : i < cs.length) (hc : cs[i] = ⟨y0,y1,y2,y3,y4,y5,y6⟩) : moveC cs ch d 0 = cs.set i ⟨y0,y1,y2 + d,y3,y4,y5,y6⟩:=by
 unfold moveC
 rw [zko hi hl,hc]
 simp [moveF]
theorem zgw {cs : List Chan} {ch d : Int} {i : Nat} {y0 y1 y2 y3 y4 y5 y6 : Int} (hi : chanIx cs ch = (i : Int)) (hl : i < cs.length) (hc : cs[i] = ⟨y0,y1,y2,y3,y4,y5,y6⟩) : moveC cs ch 0 d = cs.set i ⟨y0,y1,y2,y3 + d,y4,y5,y6⟩:=by
 unfold moveC
 rw [zko hi hl,hc]
 simp [moveF]
/-! ### lines -/
theorem zmg {x : Line} : ∀ {l : List Line},(∀ z ∈ l,¬(z.Kind = x.Kind∧z.Ch = x.Ch)) → ∀ y ∈ addF x l,y ∈ l ∨ y = x
 | [],_,y,hy => by simpa [addF] using hy
 | z :: l,h,y,hy => by
  rw [addF] at hy
  split at hy
  ·
   rcases List.mem_cons.1 hy with h1 | h1
   ·
    exact .inl (by simp [h1])
   ·
    rcases zmg (fun u hu => h u (by simp [hu])) y h1 with h2 | h2
    ·
     exact .inl (by simp [h2])
    ·
     exact .inr h2
  ·
   rw [if_neg (h z (by simp))] at hy
   rcases List.mem_cons.1 hy with h1 | h1
   ·
    exact .inr h1
   ·
    exact .inl h1
theorem zkj {L : List Line} {k c a : Int} (h : ∀ z ∈ L,¬(z.Kind = k∧z.Ch = c)) {y : Line} (hy : y ∈ lineTo L k c a) : y ∈ L ∨ y = ⟨k,c,a⟩:=by
 unfold lineTo at hy
 split at hy
 ·
  exact .inl hy
 ·
  exact zmg (x:=⟨k,c,a⟩) h y hy
end Go.Proofs.YtdbmkfmenfcbiaaGreat
