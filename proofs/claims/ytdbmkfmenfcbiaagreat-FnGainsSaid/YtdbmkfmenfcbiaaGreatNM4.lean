/- ApS · Post · GnF · PostAll: each text proves what its theorems say, with no conditions but theirs. -/
import Derived.Test.YtdbmkfmenfcbiaaGreatRows
import Derived.Test.YtdbmkfmenfcbiaaGreatNSOpen
import Derived.Test.YtdbmkfmenfcbiaaGreatNSClose
import Derived.Test.YtdbmkfmenfcbiaaGreatNSAdmit
import Derived.Test.YtdbmkfmenfcbiaaGreatNSSettle
import Derived.Test.YtdbmkfmenfcbiaaGreatNM3
import Derived.Test.YtdbmkfmenfcbiaaGreatNSLaunch
import Derived.Test.YtdbmkfmenfcbiaaGreatNMrg
import Derived.Test.YtdbmkfmenfcbiaaGreatNM2
import Derived.Test.YtdbmkfmenfcbiaaGreatNM1
import Derived.Deep.RegionHeld3
namespace Go.Proofs.YtdbmkfmenfcbiaaGreat
open Go.RowKit Go.Deep
def closeA (b : Bk) (e : Event) : Out:=if 0 ≤ chanIx b.cs e.Ch∧1125899906842624 < b.w + (chanOf b.cs e.Ch).Local - e.Fee then bad 2 else closeB b e
def stepS (b : Bk) (e : Event) : Out :=
 if e.Kind = 1 then depB b e
 else if e.Kind = 2 then openB b e
 else if e.Kind = 3 then closeA b e
 else if e.Kind = 4 then priceB b e
 else if e.Kind = 5 then admitS b e (chanOf b.cs e.Ch) (chanOf b.cs e.To)
 else if e.Kind = 6 then settleS b e.Key true
 else if e.Kind = 7 then settleS b e.Key false
 else if e.Kind = 8 then tickB b
 else if e.Kind = 9 then launchS b e
 else if e.Kind = 10 then landS b e.Key true
 else landS b e.Key false
def applyS (b : Bk) (e : Event) : Out :=
 if (b.ok && evB e) = false then bad 1
 else if b.n = 1125899906842624 then bad 2
 else stepS b e
theorem zvx {b : Bk} {e : Event} (h : (b.ok && evB e) = false) : applyS b e = bad 1:=by unfold applyS;rw [if_pos h]
theorem zww {b : Bk} {e : Event} (h : (b.ok && evB e) = true) (hn : b.n = 1125899906842624) : applyS b e = bad 2:=by unfold applyS;rw [if_neg (by rw [h];decide),if_pos hn]
theorem zvy {b : Bk} {e : Event} (h : (b.ok && evB e) = true) (hn : b.n ≠ 1125899906842624) : applyS b e = stepS b e:=by unfold applyS;rw [if_neg (by rw [h];decide),if_neg hn]
def Good (n : Int) (o : Out) : Prop:=(o.code ≠ 0∧o = bad o.code) ∨ (o.code = 0∧o.b.n = if o.l = [] then n else n + 1)
theorem Good.bad {n c : Int} (h : c ≠ 0) : Good n (bad c):=.inl ⟨h,rfl⟩
theorem Good.done {n : Int} {b : Bk} {l : List Line} (h : b.n = n) : Good n (done b l):=.inr ⟨rfl,by subst h;rfl⟩
theorem zmp (b : Bk) (e : Event) : Good b.n (stepS b e):=by
 unfold stepS
 split
 ·
  unfold depB;split <;> first | exact Good.bad (by decide) | exact Good.done rfl
 split
 ·
  unfold openB;(repeat' split) <;> first | exact Good.bad (by decide) | exact Good.done rfl
 split
 ·
  unfold closeA closeB;(repeat' split) <;> first | exact Good.bad (by decide) | exact Good.done rfl
 split
 ·
  unfold priceB;(repeat' split) <;> first | exact Good.bad (by decide) | exact Good.done rfl
 split
 ·
  unfold admitS;(repeat' split) <;> first | exact Good.bad (by decide) | exact Good.done rfl
 split
 ·
  unfold settleS;(repeat' split) <;> first | exact Good.bad (by decide) | exact Good.done rfl
 split
 ·
  unfold settleS;(repeat' split) <;> first | exact Good.bad (by decide) | exact Good.done rfl
 split
 ·
  unfold tickB;(repeat' split) <;> first | exact Good.bad (by decide) | exact Good.done rfl
 split
 ·
  unfold launchS;(repeat' split) <;> first | exact Good.bad (by decide) | exact Good.done rfl
 split
 ·
  unfold landS;(repeat' split) <;> first | exact Good.bad (by decide) | exact Good.done rfl
 unfold landS;(repeat' split) <;> first | exact Good.bad (by decide) | exact Good.done rfl
theorem zgf {e : Event} (h : evB e = true) : amtB e.Amt = true∧amtB e.Fee = true:=by
 obtain ⟨k,key,ch,tq,amt,fee,yes⟩:=e
 unfold evB at h
 simp only at h
 (repeat' split at h) <;> first | (cases h;done) | (simp only [Bool.and_eq_true,beq_iff_eq,zjj,zja] at h ⊢;omega)
theorem ev_kind {e : Event} (h : evB e = true) : e.Kind = 1 ∨ e.Kind = 2 ∨ e.Kind = 3 ∨ e.Kind = 4 ∨ e.Kind = 5 ∨ e.Kind = 6 ∨ e.Kind = 7 ∨ e.Kind = 8 ∨ e.Kind = 9 ∨ e.Kind = 10 ∨ e.Kind = 11:=by
 unfold evB at h
 (repeat' split at h) <;> first | (cases h;done) | omega
theorem name_ret {P : Program} {f : Func} {Q : Ending → World → Prop} {e : Exit} {a : Act} {w : World} (h : ∀ wq,wq = w → bodyPost P f Q e a wq) : bodyPost P f Q e a w:=h w rfl
def ApplyP (w : World) (o : Out) (n : Int) (e : Ending) (w' : World) : Prop :=
 ∃ (b' : Bk) (L : List Line) (id : Int) (C1 C2 C3 C4 : Option Addr) (q1 q2 q3 q4 : Nat),e = .returned (.tuple #[.agg #[.int .i64 b'.t,.int .i64 b'.n,.int .i64 b'.w,.slice C1 b'.cs.length q1,.slice C2 b'.hs.length q2,.slice C3 b'.os.length q3],.agg #[.int .i64 id,.slice C4 L.length q4],.int .i64 o.code]) ∧
  OwB w' w.heap.size b' C1 C2 C3 q1 q2 q3∧Ow w' w.heap.size 99 3 (.slice C4 L.length q4) (L.map Line.cells)∧Below w.heap.size w w'∧b' = o.b∧L = o.l∧id = (if o.l = [] then 0 else n)
def AppEnd (T : TypeId) (w : World) (B X RB RP : Nat) (o : Out) (w' : World) : Prop :=
 ((o.code = 0∧∃ (b' : Bk) (C1 C2 C3 C4 : Option Addr) (q1 q2 q3 q4 : Nat),o.b = { b' with n:=if o.l = [] then b'.n else b'.n + 1 }∧Wk T w w' B X b' o.l 0 C1 C2 C3 C4 q1 q2 q3 q4) ∨
  (o.code ≠ 0∧∃ (b' : Bk) (L' : List Line) (C1 C2 C3 C4 : Option Addr) (q1 q2 q3 q4 : Nat),Wk T w w' B X b' L' o.code C1 C2 C3 C4 q1 q2 q3 q4)) ∧
 w'.heap[RB]? = some (.cells #[.int .i64 0,.int .i64 0,.int .i64 0,.slice none 0 0,.slice none 0 0,.slice none 0 0] 39 (0,0))∧w'.heap[RP]? = some (.cells #[.int .i64 0,.slice none 0 0] 66 (0,0))
section
variable {T : TypeId} {w0 w w' : World} {B X RB RP : Nat} {b : Bk} {L : List Line} {code : Int} {A1 A2 A3 A4 : Option Addr} {p1 p2 p3 p4 : Nat}
theorem AppEnd.of_acts {o : Out} {e : Ending} (h0 : Wk T w0 w B X b [] 0 A1 A2 A3 A4 p1 p2 p3 p4) (hb : 39 ∉ wkTs T) (hp : 66 ∉ wkTs T) (hR : w.heap[RB]? = some (.cells #[.int .i64 0,.int .i64 0,.int .i64 0,.slice none 0 0,.slice none 0 0,.slice none 0 0] 39 (0,0))) (hP : w.heap[RP]? = some (.cells #[.int .i64 0,.slice none 0 0] 66 (0,0)))
  (h : Acts T w B X o e w') : e = .returned (.tuple #[])∧AppEnd T w0 B X RB RP o w':=by
 rcases h with ⟨h1,b',h2,C1,C2,C3,C4,q1,q2,q3,q4,he,hw⟩ | ⟨h1,b',L',C1,C2,C3,C4,q1,q2,q3,q4,he,hw⟩
 ·
  exact ⟨he,.inl ⟨h1,b',C1,C2,C3,C4,q1,q2,q3,q4,h2,h0.trans hw⟩,hw.box hR hb,hw.box hP hp⟩
 exact ⟨he,.inr ⟨h1,b',L',C1,C2,C3,C4,q1,q2,q3,q4,h0.trans hw⟩,hw.box hR hb,hw.box hP hp⟩
theorem Wk.aside2 {C : Nat} {t : TypeId} {cells : Array Value} (h : Wk T w0 w B X b L code A1 A2 A3 A4 p1 p2 p3 p4) (hC : w.heap[C]? = some (.cells cells t (0,0))) (h0 : w0.heap.size ≤ C) (hB : B ≤ C) (htT : t ≠ T) (h1 : 103 ≠ t) (h2 : 70 ≠ t) (h3 : 93 ≠ t) (h4 : 99 ≠ t) (hgr : w.grownBy w' (some C)) : Wk T w0 w' B X b L code A1 A2 A3 A4 p1 p2 p3 p4:=by
 refine ⟨zqe hgr (fun e => ?_) h.x,⟨h.o.c.grown hgr (Or.inr (h.o.c.ne_ hC h1).symm),h.o.h.grown hgr (Or.inr (h.o.h.ne_ hC h2).symm),h.o.o.grown hgr (Or.inr (h.o.o.ne_ hC h3).symm)⟩,h.l.grown hgr (Or.inr (h.l.ne_ hC h4).symm),h.b.grown hgr h.ble (fun k e => by injection e with e;omega),?_,h.bx⟩
 ·
  injection e with e
  subst e
  rw [h.x] at hC
  injection hC with hC
  injection hC with _ hC
  exact htT hC.symm
 intro k cs t' h5 h6
 have h7:=h.f k cs t' h5 h6
 exact zqe hgr (fun e => by injection e with e;have:=(gz_ h5).1;omega) h7
end
end Go.Proofs.YtdbmkfmenfcbiaaGreat
namespace Go.Proofs.YtdbmkfmenfcbiaaGreat
open Go.RowKit
theorem zmj {z pz : Int} {l pl : List Line} (h : ledgerB z l = false ∨ postingB pz pl = false) : postCode z l pz pl = 1∧postL z l pz pl = []∧postZ z l pz pl = 0:=by
 have h1 : postCode z l pz pl = 1:=by
  unfold postCode
  rw [if_neg]
  rintro ⟨h1,h2⟩
  rcases h with h | h
  ·
   rw [h1] at h;cases h
  rw [h2] at h;cases h
 exact ⟨h1,by unfold postL;rw [if_neg (by rw [h1];decide)],by unfold postZ;rw [if_neg (by rw [h1];decide)]⟩
theorem postCode_2 {z pz : Int} {l pl : List Line} (h1 : ledgerB z l = true) (h2 : postingB pz pl = true) (h3 : pz ≤ z) : postCode z l pz pl = 2∧postL z l pz pl = []∧postZ z l pz pl = 0:=by
 have h : postCode z l pz pl = 2:=by unfold postCode;rw [if_pos ⟨h1,h2⟩,if_pos h3]
 exact ⟨h,by unfold postL;rw [if_neg (by rw [h];decide)],by unfold postZ;rw [if_neg (by rw [h];decide)]⟩
theorem zmk {z pz : Int} {l pl : List Line} (h1 : ledgerB z l = true) (h2 : postingB pz pl = true) (h3 : ¬ pz ≤ z) (h4 : mergeF l pl = none ∨ ∃ r,mergeF l pl = some r∧320 < r.length) : postCode z l pz pl = 3∧postL z l pz pl = []∧postZ z l pz pl = 0:=by
 have h : postCode z l pz pl = 3:=by
  unfold postCode
  rw [if_pos ⟨h1,h2⟩,if_neg h3]
  rcases h4 with h4 | ⟨r,h4,h5⟩
  ·
   rw [h4]
  rw [h4];simp only;rw [if_pos h5]
 exact ⟨h,by unfold postL;rw [if_neg (by rw [h];decide)],by unfold postZ;rw [if_neg (by rw [h];decide)]⟩
theorem postCode_0 {z pz : Int} {l pl r : List Line} (h1 : ledgerB z l = true) (h2 : postingB pz pl = true) (h3 : ¬ pz ≤ z) (h4 : mergeF l pl = some r) (h5 : r.length ≤ 320) : postCode z l pz pl = 0∧postL z l pz pl = r∧postZ z l pz pl = pz:=by
 have h : postCode z l pz pl = 0:=by
  unfold postCode
  rw [if_pos ⟨h1,h2⟩,if_neg h3,h4]
  simp only
  rw [if_neg (by omega)]
 exact ⟨h,by unfold postL;rw [if_pos h,h4];rfl,by unfold postZ;rw [if_pos h]⟩
theorem Ow.cap_ {w : World} {B size cap : Nat} {e : TypeId} {A : Option Addr} {rows : List (List Value)} {n : Nat} (h : Ow w B e size (.slice A n cap) rows) : rows.length ≤ cap:=by
 obtain ⟨_,_,hv,_,hc,_⟩:=h.form
 injection hv with _ _ h3
 rw [h3]
 exact hc
def LedP (w : World) (z : Int) (l : List Line) (c : Int) (e : Ending) (w' : World) : Prop :=
 ∃ A cap,e = .returned (.tuple #[.agg #[.int .i64 z,.slice A l.length cap],.int .i64 c])∧l.length ≤ cap∧Ow w' w.heap.size 99 3 (.slice A l.length cap) (l.map Line.cells)∧Below w.heap.size w w'
theorem zkf {W : World} {R : Nat} {a b x y : Value} {t : TypeId} (hr : W.heap[R]? = some (.cells #[x,y] t (0,0))) :
  (W.setCell ⟨R,0,none⟩ a).cell? ⟨R,0,none⟩ = some a∧((W.setCell ⟨R,0,none⟩ a).setCell ⟨R,1,none⟩ b).cell? ⟨R,1,none⟩ = some b:=by
 have h1 : (W.setCell ⟨R,0,none⟩ a).heap[R]? = some (.cells #[a,y] t (0,0)):=zqa hr
 have h2 : ((W.setCell ⟨R,0,none⟩ a).setCell ⟨R,1,none⟩ b).heap[R]? = some (.cells #[a,b] t (0,0)):=zqa h1
 exact ⟨zqc h1 0,zqc h2 1⟩
set_option maxRecDepth 100000 in
set_option maxHeartbeats 2000000 in
theorem i_Post (z : Int) (l : List Line) (A : Option Addr) (ca : Nat) (pz : Int) (pl : List Line) (B : Option Addr) (cb : Nat) (w : World) (hl : l.length ≤ 1048576) (hpl : pl.length ≤ 1048576) (hca : l.length ≤ ca) (hcb : pl.length ≤ cb)
  (hra : Rd w w.heap.size 3 A (l.map Line.cells)) (hrb : Rd w w.heap.size 3 B (pl.map Line.cells)) :
  Calls Tryz.prog 47 #[.agg #[.int .i64 z,.slice A l.length ca],.agg #[.int .i64 pz,.slice B pl.length cb]] w (LedP w (postZ z l pz pl) (postL z l pz pl) (postCode z l pz pl)):=by
 have HRA:=hd_ hra
 have HRB:=hd_ hrb
 clear hra hrb
 have zero : ∀ (c : Int) (W : World),W.heap[w.heap.size + 2]? = some (.cells #[.int .i64 0,.slice none 0 0] 47 (0,0)) → Below w.heap.size w W →
   LedP w 0 [] c (.returned (.tuple #[.agg #[.int .i64 0,.slice none 0 0],.int .i64 c])) ((W.setCell ⟨w.heap.size + 2,0,none⟩ (.int .i64 0)).setCell ⟨w.heap.size + 2,1,none⟩ (.slice none 0 0)) :=
  fun c W h hb => ⟨none,0,rfl,Nat.le_refl _,Ow.nil_,(hb.setCell (by simp) _).setCell (by simp) _⟩
 have ZERO:=hd_ zero
 clear zero
 cases h1 : ledgerB z l
 ·
  obtain ⟨e1,e2,e3⟩:=zmj (pz:=pz) (pl:=pl) (.inl h1)
  rw [e1,e2,e3]
  have H1:=hd_ h1
  clear h1 e1 e2 e3
  go_enter Tryz.func47,Tryz.ntmps47
  go_wp2_with fail
  refine (zjt z l _ _ _ hl ((HRA.out.below (bl_)).more (by first | omega | (simp;omega) | (simp;done)))).mono ?_
  rintro e w1 ⟨rfl,hb1⟩
  have z1:=hb1.size
  try simp at z1
  rw [H1.out]
  obtain ⟨rh,r0,r1,rf,rz⟩:=own2 (g:=w.heap.size + 2) hb1 (by first | omega | (simp;omega) | (simp;done)) (hp_)
  go_wp2_with fail
  obtain ⟨s0,s1⟩:=zkf (a:=.int .i64 0) (b:=.slice none 0 0) rh
  exact bodyPost_ret (v:=.tuple #[.agg #[.int .i64 0,.slice none 0 0],.int .i64 1]) (by simp [results,Tryz.results47,go_sem,s0,s1]) rfl (ZERO.out 1 _ rh (bl_))
 cases h2 : postingB pz pl
 ·
  obtain ⟨e1,e2,e3⟩:=zmj (z:=z) (l:=l) (.inr h2)
  rw [e1,e2,e3]
  have H1:=hd_ h1
  have H2:=hd_ h2
  clear h1 h2 e1 e2 e3
  go_enter Tryz.func47,Tryz.ntmps47
  go_wp2_with fail
  refine (zjt z l _ _ _ hl ((HRA.out.below (bl_)).more (by first | omega | (simp;omega) | (simp;done)))).mono ?_
  rintro e w1 ⟨rfl,hb1⟩
  have z1:=hb1.size
  try simp at z1
  rw [H1.out]
  obtain ⟨ph,p0,p1,pf,pzz⟩:=own2 (g:=w.heap.size + 1) hb1 (by first | omega | (simp;omega) | (simp;done)) (hp_)
  obtain ⟨rh,r0,r1,rf,rz⟩:=own2 (g:=w.heap.size + 2) hb1 (by first | omega | (simp;omega) | (simp;done)) (hp_)
  go_wp2_with fail
  refine (zwo pz pl _ _ _ hpl ((HRB.out.below (bl_)).more (by first | omega | (simp;omega) | (simp;done)))).mono ?_
  rintro e w2 ⟨rfl,hb2⟩
  have z2:=hb2.size
  try simp at z2
  rw [H2.out]
  obtain ⟨sh,t0,t1,tf,tz⟩:=own2 hb2 rz rh
  go_wp2_with fail
  obtain ⟨s0,s1⟩:=zkf (a:=.int .i64 0) (b:=.slice none 0 0) sh
  exact bodyPost_ret (v:=.tuple #[.agg #[.int .i64 0,.slice none 0 0],.int .i64 1]) (by simp [results,Tryz.results47,go_sem,s0,s1]) rfl (ZERO.out 1 _ sh (bl_))
 obtain ⟨⟨y1,y2⟩,hl320,hlb⟩:=ledgerB_iff.1 h1
 obtain ⟨⟨x1,x2⟩,_,hp8,hpb⟩:=postingB_iff.1 h2
 have HLB:=hd_ hlb
 have HPB:=hd_ hpb
 clear hlb hpb
 by_cases h3 : pz ≤ z
 ·
  obtain ⟨e1,e2,e3⟩:=postCode_2 h1 h2 h3
  rw [e1,e2,e3]
  have H1:=hd_ h1
  have H2:=hd_ h2
  clear h1 h2 e1 e2 e3
  go_enter Tryz.func47,Tryz.ntmps47
  go_wp2_with fail
  refine (zjt z l _ _ _ hl ((HRA.out.below (bl_)).more (by first | omega | (simp;omega) | (simp;done)))).mono ?_
  rintro e w1 ⟨rfl,hb1⟩
  have z1:=hb1.size
  try simp at z1
  rw [H1.out]
  obtain ⟨lh,l0,l1,lf,lz⟩:=own2 (g:=w.heap.size) hb1 (by first | omega | (simp;omega) | (simp;done)) (hp_)
  obtain ⟨ph,p0,p1,pf,pzz⟩:=own2 (g:=w.heap.size + 1) hb1 (by first | omega | (simp;omega) | (simp;done)) (hp_)
  obtain ⟨rh,r0,r1,rf,rz⟩:=own2 (g:=w.heap.size + 2) hb1 (by first | omega | (simp;omega) | (simp;done)) (hp_)
  go_wp2_with fail
  refine (zwo pz pl _ _ _ hpl ((HRB.out.below (bl_)).more (by first | omega | (simp;omega) | (simp;done)))).mono ?_
  rintro e w2 ⟨rfl,hb2⟩
  have z2:=hb2.size
  try simp at z2
  rw [H2.out]
  obtain ⟨_,k0,k1,kf,kz⟩:=own2 hb2 lz lh
  obtain ⟨_,q0,q1,qf,qz⟩:=own2 hb2 pzz ph
  obtain ⟨sh,t0,t1,tf,tz⟩:=own2 hb2 rz rh
  go_wp2_with fail
  obtain ⟨s0,s1⟩:=zkf (a:=.int .i64 0) (b:=.slice none 0 0) sh
  exact bodyPost_ret (v:=.tuple #[.agg #[.int .i64 0,.slice none 0 0],.int .i64 2]) (by simp [results,Tryz.results47,go_sem,s0,s1]) rfl (ZERO.out 2 _ sh (bl_))
 have h3' : decide (pz ≤ z) = false:=decide_eq_false h3
 have H1:=hd_ h1
 have H2:=hd_ h2
 clear h1 h2
 have HML:=hd_ (show ∀ x ∈ l,-1125899906842624 ≤ x.Amt∧x.Amt ≤ 1125899906842624 from fun x hx => by
  obtain ⟨k,hk,rfl⟩:=List.mem_iff_getElem.1 hx
  exact (zgz HLB hk).2.2)
 have HMP:=hd_ (show ∀ x ∈ pl,-1125899906842624 ≤ x.Amt∧x.Amt ≤ 1125899906842624 from fun x hx => by
  obtain ⟨k,hk,rfl⟩:=List.mem_iff_getElem.1 hx
  exact (zgz HPB hk).2.2)
 go_enter Tryz.func47,Tryz.ntmps47
 go_wp2_with fail
 refine (zjt z l _ _ _ hl ((HRA.out.below (bl_)).more (by first | omega | (simp;omega) | (simp;done)))).mono ?_
 rintro e w1 ⟨rfl,hb1⟩
 have z1:=hb1.size
 try simp at z1
 rw [H1.out]
 obtain ⟨lh,l0,l1,lf,lz⟩:=own2 (g:=w.heap.size) hb1 (by first | omega | (simp;omega) | (simp;done)) (hp_)
 obtain ⟨ph,p0,p1,pf,pzz⟩:=own2 (g:=w.heap.size + 1) hb1 (by first | omega | (simp;omega) | (simp;done)) (hp_)
 obtain ⟨rh,r0,r1,rf,rz⟩:=own2 (g:=w.heap.size + 2) hb1 (by first | omega | (simp;omega) | (simp;done)) (hp_)
 go_wp2_with fail
 refine (zwo pz pl _ _ _ hpl ((HRB.out.below (bl_)).more (by first | omega | (simp;omega) | (simp;done)))).mono ?_
 rintro e w2 ⟨rfl,hb2⟩
 have z2:=hb2.size
 try simp at z2
 rw [H2.out]
 obtain ⟨lh2,k0,k1,kf,kz⟩:=own2 hb2 lz lh
 obtain ⟨ph2,q0,q1,qf,qz⟩:=own2 hb2 pzz ph
 obtain ⟨sh,t0,t1,tf,tz⟩:=own2 hb2 rz rh
 have hB2 : Below w.heap.size w w2:=bl_
 clear hb1 hb2 l0 l1 lf p0 p1 pf r0 r1 rf lh ph rh
 go_wp2_with fail
 refine (i_merged l pl A B ca cb _ (by omega) hca hcb HML HMP ((HRA.out.below hB2).more (by omega)) ((HRB.out.below hB2).more (by omega))).mono ?_
 rintro e w3 ⟨o,C,cc,rfl,hr,how,hb3⟩
 have z3:=hb3.size
 have HO3:=hd_ how
 obtain ⟨_,m0,m1,mf,mz⟩:=own2 hb3 qz ph2
 obtain ⟨uh,u0,u1,uf,uz⟩:=own2 hb3 tz sh
 have hB3 : Below w.heap.size w w3:=bl_
 have HRR:=hd_ hr
 clear hb3 k0 k1 kf q0 q1 qf t0 t1 tf sh ph2 lh2 how hr
 cases hm : mergeF l pl with
 | none =>
  obtain ⟨e1,e2,e3⟩:=zmk H1 H2 (by omega) (.inl hm)
  rw [show (none : Option (List Line)).isSome = false from rfl]
  have HEE:=hd_ (And.intro e1 (And.intro e2 e3))
  clear e1 e2 e3
  go_wp2_with fail
  obtain ⟨s0,s1⟩:=zkf (a:=.int .i64 0) (b:=.slice none 0 0) uh
  exact bodyPost_ret (v:=.tuple #[.agg #[.int .i64 0,.slice none 0 0],.int .i64 3]) (by simp [results,Tryz.results47,go_sem,s0,s1]) rfl (by obtain ⟨e1,e2,e3⟩:=HEE.out;rw [e1,e2,e3];exact ZERO.out 3 _ uh hB3)
 | some r =>
  obtain rfl:=HRR.out r hm
  rw [show (some o).isSome = true from rfl]
  by_cases h320 : (320 : Int) < (o.length : Int)
  ·
   obtain ⟨e1,e2,e3⟩:=zmk H1 H2 (by omega) (.inr ⟨o,hm,by omega⟩)
   have HEE:=hd_ (And.intro e1 (And.intro e2 e3))
   clear e1 e2 e3
   go_wp2_with fail
   obtain ⟨s0,s1⟩:=zkf (a:=.int .i64 0) (b:=.slice none 0 0) uh
   exact bodyPost_ret (v:=.tuple #[.agg #[.int .i64 0,.slice none 0 0],.int .i64 3]) (by simp [results,Tryz.results47,go_sem,s0,s1]) rfl (by obtain ⟨e1,e2,e3⟩:=HEE.out;rw [e1,e2,e3];exact ZERO.out 3 _ uh hB3)
  have h320' : decide ((320 : Int) < (o.length : Int)) = false:=decide_eq_false h320
  obtain ⟨e1,e2,e3⟩:=postCode_0 H1 H2 (by omega) hm (by omega)
  have HEE:=hd_ (And.intro e1 (And.intro e2 e3))
  clear e1 e2 e3
  go_wp2_with fail
  obtain ⟨s0,s1⟩:=zkf (a:=.int .i64 pz) (b:=.slice C o.length cc) uh
  refine bodyPost_ret (v:=.tuple #[.agg #[.int .i64 pz,.slice C o.length cc],.int .i64 0]) (by simp [results,Tryz.results47,go_sem,s0,s1]) rfl ?_
  obtain ⟨e1,e2,e3⟩:=HEE.out
  rw [e1,e2,e3]
  refine ⟨C,cc,rfl,by have:=HO3.out.cap_;rwa [List.length_map] at this,?_,(hB3.setCell (by simp only;omega) _).setCell (by simp only;omega) _⟩
  exact ((HO3.out.far (a:=⟨w.heap.size + 2,0,none⟩) (by simp only;omega) _).far (a:=⟨w.heap.size + 2,1,none⟩) (by simp only;omega) _).more (by omega)
end Go.Proofs.YtdbmkfmenfcbiaaGreat
namespace Go.Proofs.YtdbmkfmenfcbiaaGreat
open Go.RowKit Go.Deep
def wr (n : Int) : Int:=wrap64 n
def plusG (x g : Gain) : Gain:=⟨x.Ch,wr (x.Fees + g.Fees),wr (x.Count + g.Count),wr (x.Failed + g.Failed)⟩
def addStep (g : Gain) (s : Bool × List Gain) (x : Gain) : Bool × List Gain :=
  if x.Ch = g.Ch then (true,s.2 ++ [plusG x g]) else if s.1 = false∧g.Ch < x.Ch then (true,s.2 ++ [g] ++ [x]) else (s.1,s.2 ++ [x])
def addEnd (g : Gain) (s : Bool × List Gain) : List Gain:=if s.1 = true then s.2 else s.2 ++ [g]
def addG (l : List Gain) (g : Gain) : List Gain:=addEnd g (l.foldl (addStep g) (false,[]))
def htlcF (hs : List Htlc) (key : Int) : Option Htlc:=hs.find? fun h => h.Key == key
def gainOf (h : Htlc) (good : Bool) : Gain:=if good = true then ⟨h.Out,h.AmtIn - h.AmtOut,1,0⟩ else ⟨h.Out,0,0,1⟩
def gainEv (hs : List Htlc) (e : Event) (l : List Gain) : List Gain :=
  match htlcF hs e.Key with
  | some h => if e.Kind = 6 then addG l (gainOf h true) else if e.Kind = 7 then addG l (gainOf h false) else l
  | none => l
def gainStep (s : Bk × List Gain) (e : Event) : Bk × List Gain:=if (applyS s.1 e).code = 0 then ((applyS s.1 e).b,gainEv s.1.hs e s.2) else s
def bk1 : Bk:=⟨0,1,0,[],[],[]⟩
def gainsF (es : List Event) : List Gain:=(es.foldl gainStep (bk1,[])).2
theorem zye (g : Gain) : ∀ (l : List Gain) (s : Bool × List Gain),(addEnd g (l.foldl (addStep g) s)).length ≤ s.2.length + l.length + (if s.1 = true then 0 else 1)
  | [],(d,o) => by unfold addEnd;cases d <;> simp
  | x :: l,s => by
    rw [List.foldl_cons]
    have h:=zye g l (addStep g s x)
    have h2 : (addStep g s x).2.length + (if (addStep g s x).1 = true then 0 else 1) ≤ s.2.length + 1 + (if s.1 = true then 0 else 1):=by
      unfold addStep
      split
      · simp
      · split
        · rename_i h3
          simp [h3.1]
        · simp
    rw [List.length_cons]
    omega
theorem zhx (l : List Gain) (g : Gain) : (addG l g).length ≤ l.length + 1:=by
  have:=zye g l (false,[])
  simpa [addG] using this
theorem zyr {hs : List Htlc} {key : Int} {h : Htlc} (hh : htlcF hs key = some h) : h ∈ hs:=List.mem_of_find?_eq_some hh
theorem zyj {b : Bk} {e : Event} (h : (applyS b e).code = 0) : b.ok = true:=by
  cases hb : b.ok
  · rw [zvx (by rw [hb];rfl)] at h
    exact absurd h (by decide)
  · rfl
theorem gainEv_len (hs : List Htlc) (e : Event) (l : List Gain) : (gainEv hs e l).length ≤ l.length + 1:=by
  unfold gainEv
  split
  · split
    · exact zhx _ _
    · split
      · exact zhx _ _
      · omega
  · omega
theorem zgi (s : Bk × List Gain) (e : Event) : (gainStep s e).2.length ≤ s.2.length + 1:=by
  unfold gainStep
  split
  · exact gainEv_len _ _ _
  · omega
theorem zhr : ∀ (es : List Event) (s : Bk × List Gain),(es.foldl gainStep s).2.length ≤ s.2.length + es.length
  | [],_ => by simp
  | e :: es,s => by
    rw [List.foldl_cons]
    have h1:=zhr es (gainStep s e)
    have h2:=zgi s e
    rw [List.length_cons]
    omega
theorem ztz (es : List Event) : (gainsF es).length ≤ es.length:=by
  have:=zhr es (bk1,[])
  simpa [gainsF] using this
end Go.Proofs.YtdbmkfmenfcbiaaGreat
namespace Go.Proofs.YtdbmkfmenfcbiaaGreat
open Go.RowKit
theorem pAll_yes {p : Int × List Line} {ps : List (Int × List Line)} {z : Int} {l : List Line} {n : Int} (h : postCode z l p.1 p.2 = 0) : pAll (p :: ps) z l n = pAll ps (postZ z l p.1 p.2) (postL z l p.1 p.2) (n + 1):=by rw [pAll,if_pos h]
theorem pAll_no {p : Int × List Line} {ps : List (Int × List Line)} {z : Int} {l : List Line} {n : Int} (h : ¬ postCode z l p.1 p.2 = 0) : pAll (p :: ps) z l n = pAll ps z l n:=by rw [pAll,if_neg h]
theorem pl_dropP {ps : List Pst} {k : Nat} (hk : k < ps.length) : (ps.drop k).map Pst.pl = (ps[k].Id,ps[k].L) :: (ps.drop (k + 1)).map Pst.pl:=by rw [List.drop_eq_getElem_cons hk];rfl
theorem Ow.asideP {w' : World} {B X n i : Nat} {e t : TypeId} {v u : Value} {cs : Array Value} {rows : List (List Value)} (h : Ow w' B e n v rows) (hx : w'.heap[X]? = some (.cells cs t (0,0))) (hne : e ≠ t) : Ow (w'.setCell ⟨X,i,none⟩ u) B e n v rows :=
 h.grown (zqg (World.grownBy.refl w' (some X)) i u) (.inr (Ne.symm (h.ne_ hx hne)))
theorem cell_asideP {w : World} {p : Addr} {b i : Nat} {u v : Value} (h : p.block ≠ b) (k : w.cell? p = some v) : (w.setCell ⟨b,i,none⟩ u).cell? p = some v:=by
 rw [← k]
 exact World.cell?_of_block (Below.heap_setCell w ⟨b,i,none⟩ u p.block h)
theorem zpz {w : World} {p : Addr} {v : Value} (k : w.cell? p = some v) : w.drew.cell? p = some v:=k
theorem zpp (w : World) (o : Obj) : (w.alloc o).heap.size = w.heap.size + 1:=by simp
set_option maxRecDepth 100000 in
set_option maxHeartbeats 1000000 in
theorem zgr (z : Int) (l : List Line) (A : Option Addr) (ca : Nat) (w : World) (hl : l.length ≤ 1048576) (hr : Rd w w.heap.size 3 A (l.map Line.cells)) :
  Calls Tryz.prog 46 #[.agg #[.int .i64 z,.slice A l.length ca]] w fun e w' => ∃ A' cap',e = .returned (.agg #[.int .i64 z,.slice A' l.length cap'])∧Ow w' w.heap.size 99 3 (.slice A' l.length cap') (l.map Line.cells)∧Below w.heap.size w w':=by
 have HR:=hd_ hr
 clear hr
 go_enter Tryz.func46,Tryz.ntmps46
 go_wp2_with fail
 have ah : ((w.alloc (.cells #[.int .i64 z,.slice A l.length ca] 47)).alloc (.cells #[.int .i64 0,.slice none 0 0] 47)).heap[w.heap.size]? = some (.cells #[.int .i64 z,.slice A l.length ca] 47 (0,0)):=zqd (by simp) (zqi rfl)
 have a0:=zqc ah 0
 have a1:=zqc ah 1
 simp only [List.getElem?_toArray,List.getElem?_cons_zero,List.getElem?_cons_succ] at a0 a1
 go_region_held3 (fun w' => kqis_ w' w.heap.size z A l.length ca)
  (((try dsimp only);(repeat' apply And.intro) <;> (repeat (first | (with_reducible assumption) | (with_reducible refine zpz ?_) | (with_reducible refine cell_asideP (by simp only;omega) ?_)))))
  ((go_at_call 98;refine (i_copyLines l A ca _ hl ((HR.out.below (bl_)).more (by first | omega | (simp;omega) | (simp;done)))).mono ?_;rintro e w1 ⟨A',cap',rfl,how,hb1⟩;have z1:=hb1.size;(try simp at z1);have HO1:=hd_ how;clear how;obtain ⟨bh,b0,b1,bf,bz⟩:=own2 (g:=w.heap.size) hb1 (by first | (simp;done) | (simp;omega)) (zqd (by simp) (zqi rfl));obtain ⟨rh,r0,r1,rf,rz⟩:=own2 (g:=w.heap.size + 1) hb1 (by simp) (zqi (by simp))))
 go_wp2_with fail
 obtain ⟨s0,s1⟩:=zkf (a:=.int .i64 z) (b:=.slice A' l.length cap') rh
 refine bodyPost_ret (v:=.agg #[.int .i64 z,.slice A' l.length cap']) (by simp [results,Tryz.results46,go_sem,s0,s1]) rfl ⟨A',cap',rfl,?_,?_⟩
 ·
  exact ((HO1.out.far (a:=⟨w.heap.size + 1,0,none⟩) (by first | (simp;done) | (simp;omega)) _).far (a:=⟨w.heap.size + 1,1,none⟩) (by first | (simp;done) | (simp;omega)) _).more (by first | (simp;done) | (simp;omega))
 exact bl_
set_option maxRecDepth 100000 in
set_option maxHeartbeats 2000000 in
theorem i_PostAll (z : Int) (l : List Line) (A : Option Addr) (ca : Nat) (ps : List Pst) (PA : Option Addr) (pc : Nat) (w : World) (hl : ledgerB z l = true) (hps : ps.length ≤ 1048576) (hpl : ∀ p ∈ ps,p.L.length ≤ 1048576∧p.L.length ≤ p.cap)
  (hra : Rd w w.heap.size 3 A (l.map Line.cells)) (hrp : RdP w w.heap.size PA ps) :
  Calls Tryz.prog 18 #[.agg #[.int .i64 z,.slice A l.length ca],.slice PA ps.length pc] w (LedP w (pAll (ps.map Pst.pl) z l 0).1 (pAll (ps.map Pst.pl) z l 0).2.1 (pAll (ps.map Pst.pl) z l 0).2.2):=by
 obtain ⟨_,hl320,_⟩:=ledgerB_iff.1 hl
 have HL:=hd_ hl
 have HRA:=hd_ hra
 have HRP:=hd_ hrp
 have HPL:=hd_ hpl
 clear hl hra hrp hpl
 go_enter Tryz.func18,Tryz.ntmps18
 go_wp2_with fail
 refine (zjt z l _ _ _ (by omega) ((HRA.out.below (bl_)).more (by first | omega | (simp;omega) | (simp;done)))).mono ?_
 rintro e w1 ⟨rfl,hb1⟩
 have z1:=hb1.size
 try simp at z1
 rw [HL.out]
 obtain ⟨lh,l0,l1,lf,lz⟩:=own2 (g:=w.heap.size) hb1 (by first | omega | (simp;omega) | (simp;done)) (hp_)
 obtain ⟨rh,r0,r1,rf,rz⟩:=own2 (g:=w.heap.size + 1) hb1 (by first | omega | (simp;omega) | (simp;done)) (hp_)
 have hB1 : Below w.heap.size w w1:=bl_
 clear hb1
 go_wp2_with fail
 refine (zgr z l A ca _ (by omega) ((HRA.out.below hB1).more (by omega))).mono ?_
 rintro e w2 ⟨A2,c2,rfl,how2,hb2⟩
 have z2:=hb2.size
 obtain ⟨rh2,_,_,_,rz2⟩:=own2 hb2 rz rh
 have hB2 : Below w.heap.size w w2:=bl_
 have HO2:=hd_ ((how2.more (B':=w.heap.size + 2) (by omega)).alloc (.cells #[.int .i64 z,.slice A2 l.length c2] 47))
 have hcap2 : l.length ≤ c2:=by have:=how2.cap_;rwa [List.length_map] at this
 have RH2:=hd_ (zqd (o:=.cells #[.int .i64 z,.slice A2 l.length c2] 47) rz2 rh2)
 have OH2:=hd_ (show (w2.alloc (.cells #[.int .i64 z,.slice A2 l.length c2] 47)).heap[w2.heap.size]? = some (.cells #[.int .i64 z,.slice A2 l.length c2] 47 (0,0)) from zqi rfl)
 have hO : w.heap.size + 2 ≤ w2.heap.size:=by omega
 obtain ⟨O,hOe⟩ : ∃ O,w2.heap.size = O:=⟨_,rfl⟩
 clear hb2 how2 rh2 rh l0 l1 lf r0 r1 rf
 go_wp2_with fail
 simp only [hOe] at OH2
 rw [hOe] at hO
 go_loopw [7,20] (fun vn i wr => ∃ (j : Nat) (n y : Int) (m : List Line) (B : Option Addr) (cb : Nat),j ≤ ps.length∧i = .int .i64 j∧vn = .int .i64 n∧(0 ≤ n∧n ≤ j)∧(m.length ≤ 1048576∧m.length ≤ cb)∧Hid (pAll (ps.map Pst.pl) z l 0 = pAll ((ps.drop j).map Pst.pl) y m n)∧Ow wr (w.heap.size + 2) 99 3 (.slice B m.length cb) (m.map Line.cells) ∧
  wr.heap[O]? = some (.cells #[.int .i64 y,.slice B m.length cb] 47 (0,0))∧wr.heap[w.heap.size + 1]? = some (.cells #[.int .i64 0,.slice none 0 0] 47 (0,0))∧Below w.heap.size w wr) (fun _ i _ => ps.length - (intOf i).toNat)
 case atStart => exact ⟨0,0,z,l,A2,c2,Nat.zero_le _,rfl,rfl,by omega,⟨by omega,hcap2⟩,hd_ rfl,HO2.out,OH2.out,RH2.out,bl_⟩
 case round =>
  clear HO2 OH2 RH2 hB2
  obtain ⟨j,n,y,m,B,cb,hj,rfl,rfl,⟨n0,n1⟩,⟨m1,m2⟩,HE,how,hoh,hrh,hbw⟩:=hrel
  have hbz:=hbw.size
  obtain ⟨_,o0,o1,of,oz⟩:=own2 (Below.refl wr.heap.size wr) (gz_ hoh).1 hoh
  obtain ⟨_,r0,r1,rf,rz3⟩:=own2 (Below.refl wr.heap.size wr) (gz_ hrh).1 hrh
  have HW:=hd_ how
  have OH:=hd_ hoh
  have RH:=hd_ hrh
  clear how hoh hrh
  have hRO : w.heap.size + 1 ≠ O:=by omega
  by_cases hlt : j < ps.length
  rotate_left
  ·
   obtain rfl : j = ps.length:=by omega
   have HE2:=hd_ (show pAll (ps.map Pst.pl) z l 0 = (y,m,n) by rw [HE.out,List.drop_length];rfl)
   go_wp2_with fail
   obtain ⟨s0,s1⟩:=zkf (a:=.int .i64 y) (b:=.slice B m.length cb) RH.out
   refine bodyPost_ret (v:=.tuple #[.agg #[.int .i64 y,.slice B m.length cb],.int .i64 n]) (by simp [results,Tryz.results18,go_sem,s0,s1]) rfl ?_
   rw [HE2.out]
   refine ⟨B,cb,rfl,m2,?_,(hbw.setCell (by simp) _).setCell (by simp) _⟩
   exact ((HW.out.far (a:=⟨w.heap.size + 1,0,none⟩) (by simp) _).far (a:=⟨w.heap.size + 1,1,none⟩) (by simp) _).more (by omega)
  obtain ⟨b,off,rfl,hbB,c0,c1⟩:=(HRP.out.below hbw).at_ hlt
  have HLN:=hd_ (((HRP.out.below hbw).lines hlt).more hbw.size)
  obtain ⟨p1,p2⟩:=HPL.out _ (List.getElem_mem hlt)
  have HD:=hd_ (pl_dropP hlt)
  obtain ⟨PI,PP,PC,PL,e⟩ : ∃ PI PA PC PL,ps[j] = ⟨PI,PA,PC,PL⟩:=⟨_,_,_,_,rfl⟩
  rw [e] at c0 c1 HLN p1 p2 HD
  simp only at c0 c1 HLN p1 p2 HD
  clear e
  go_wp2_with fail
  refine (i_Post y m B cb PI PL PP PC _ m1 p1 m2 p2 ((HW.out.alloc _).rd) ((HLN.out.below ((Below.refl _ _).alloc (Nat.le_refl _) _)).more (by simp))).mono ?_
  rintro e w3 ⟨B3,cb3,rfl,hc3,how3,hb3⟩
  have z3:=hb3.size
  rw [zpp] at z3
  have oh3:=zqr hb3 (by rw [zpp];omega) (zqd oz OH.out)
  have rh3:=zqr hb3 (by rw [zpp];omega) (zqd rz3 RH.out)
  have hB3 : Below w.heap.size w w3:=bl_
  have HW3:=hd_ ((HW.out.alloc (.cells #[.int .i64 PI,.slice PP PL.length PC] 66)).below hb3)
  have HN3:=hd_ (how3.more (B':=w.heap.size + 2) (by rw [zpp];omega))
  have hlen3 : (postL y m PI PL).length ≤ 1048576 ∨ ¬ postCode y m PI PL = 0:=by
   by_cases hc : postCode y m PI PL = 0
   ·
    exact .inl (Nat.le_trans (post_ok hc).2.2.2.2.1 (by decide))
   exact .inr hc
  have OH3:=hd_ oh3
  have RH3:=hd_ rh3
  clear hb3 how3 o0 o1 of r0 r1 rf HW OH RH
  obtain ⟨_,o0,o1,of,oz3⟩:=own2 (Below.refl w3.heap.size w3) (gz_ oh3).1 oh3
  clear oh3 rh3
  by_cases hc : postCode y m PI PL = 0
  ·
   have tc : (postCode y m PI PL == 0) = true:=by simpa using hc
   have HE2:=hd_ (show pAll (ps.map Pst.pl) z l 0 = pAll ((ps.drop (j + 1)).map Pst.pl) (postZ y m PI PL) (postL y m PI PL) (n + 1) by rw [HE.out,HD.out,pAll_yes hc])
   have hlen : (postL y m PI PL).length ≤ 1048576:=hlen3.elim id (fun h => absurd hc h)
   obtain ⟨K,hK⟩ : ∃ K,postCode y m PI PL = K:=⟨_,rfl⟩
   obtain ⟨Z,hZ⟩ : ∃ Z,postZ y m PI PL = Z:=⟨_,rfl⟩
   obtain ⟨M,hM⟩ : ∃ M,postL y m PI PL = M:=⟨_,rfl⟩
   rw [hK] at tc
   rw [hZ,hM] at HE2
   rw [hM] at hc3 HN3 hlen
   rw [hK,hZ,hM]
   clear hK hZ hM hc hlen3 HD
   go_wp2_with fail
   go_roundw
   case rel =>
    have h1 : (w3.setCell ⟨O,0,none⟩ (.int .i64 Z)).heap[O]? = some (.cells #[.int .i64 Z,.slice B m.length cb] 47 (0,0)):=zqa OH3.out
    have h2 : ((w3.setCell ⟨O,0,none⟩ (.int .i64 Z)).setCell ⟨O,1,none⟩ (.slice B3 M.length cb3)).heap[O]? = some (.cells #[.int .i64 Z,.slice B3 M.length cb3] 47 (0,0)):=zqa h1
    have h3:=(HN3.out.asideP (i:=0) (u:=.int .i64 Z) OH3.out (by decide)).asideP (i:=1) (u:=.slice B3 M.length cb3) h1 (by decide)
    have h4:=zjp (a:=⟨O,1,none⟩) (u:=.slice B3 M.length cb3) hRO (zjp (a:=⟨O,0,none⟩) (u:=.int .i64 Z) hRO RH3.out)
    exact ⟨j + 1,n + 1,Z,M,B3,cb3,by omega,by go_num,rfl,by omega,⟨hlen,hc3⟩,hd_ HE2.out,h3.alloc _,zqd (by simp [World.setCell];omega) h2,zqd (by simp [World.setCell];omega) h4,bl_⟩
   case measure => simp [intOf];omega
  have tc : (postCode y m PI PL == 0) = false:=by simpa using hc
  have HE2:=hd_ (show pAll (ps.map Pst.pl) z l 0 = pAll ((ps.drop (j + 1)).map Pst.pl) y m n by rw [HE.out,HD.out,pAll_no hc])
  obtain ⟨K,hK⟩ : ∃ K,postCode y m PI PL = K:=⟨_,rfl⟩
  rw [hK] at tc ⊢
  clear hK hc hlen3 HD
  go_wp2_with fail
  go_roundw
  case rel => exact ⟨j + 1,n,y,m,B,cb,by omega,by go_num,rfl,by omega,⟨m1,m2⟩,hd_ HE2.out,HW3.out.alloc _,zqd oz3 OH3.out,zqd (by omega) RH3.out,bl_⟩
  case measure => simp [intOf];omega
set_option maxRecDepth 100000 in
set_option maxHeartbeats 1000000 in
theorem zgm (z : Int) (l : List Line) (A : Option Addr) (ca : Nat) (k c : Int) (w : World) (hl : l.length ≤ 1048576) (hr : Rd w w.heap.size 3 A (l.map Line.cells)) :
  Calls Tryz.prog 21 #[.agg #[.int .i64 z,.slice A l.length ca],.agg #[.int .i64 k,.int .i64 c]] w fun e w' => e = .returned (.int .i64 (balB z l k c))∧Below w.heap.size w w':=by
 have HR:=hd_ hr
 clear hr
 cases h1 : ledgerB z l
 ·
  have HB:=hd_ (show balB z l k c = 0 by unfold balB;rw [if_neg (by rw [h1];simp)])
  have H1:=hd_ h1
  clear h1
  go_enter Tryz.func21,Tryz.ntmps21
  go_wp2_with fail
  refine (zjt z l _ _ _ hl ((HR.out.below (bl_)).more (by first | omega | (simp;omega) | (simp;done)))).mono ?_
  rintro e w1 ⟨rfl,hb1⟩
  have z1:=hb1.size
  try simp at z1
  rw [H1.out]
  go_wp2_with fail
  go_ret
  exact ⟨zxc HB.out.symm,bl_⟩
 cases h2 : accB k c
 ·
  have HB:=hd_ (show balB z l k c = 0 by unfold balB;rw [if_neg (by rw [h2];simp)])
  have H1:=hd_ h1
  have H2:=hd_ h2
  clear h1 h2
  go_enter Tryz.func21,Tryz.ntmps21
  go_wp2_with fail
  refine (zjt z l _ _ _ hl ((HR.out.below (bl_)).more (by first | omega | (simp;omega) | (simp;done)))).mono ?_
  rintro e w1 ⟨rfl,hb1⟩
  have z1:=hb1.size
  try simp at z1
  rw [H1.out]
  obtain ⟨kh,k0,k1,kf,kz⟩:=own2 (g:=w.heap.size + 1) hb1 (by first | omega | (simp;omega) | (simp;done)) (hp_)
  go_wp2_with fail
  refine (zko k c _).mono ?_
  rintro e w2 ⟨rfl,hb2⟩
  have z2:=hb2.size
  try simp at z2
  rw [H2.out]
  go_wp2_with fail
  go_ret
  exact ⟨zxc HB.out.symm,bl_⟩
 have HB:=hd_ (show balB z l k c = findB k c l by unfold balB;rw [if_pos ⟨h1,h2⟩])
 have H1:=hd_ h1
 have H2:=hd_ h2
 clear h1 h2
 go_enter Tryz.func21,Tryz.ntmps21
 go_wp2_with fail
 refine (zjt z l _ _ _ hl ((HR.out.below (bl_)).more (by first | omega | (simp;omega) | (simp;done)))).mono ?_
 rintro e w1 ⟨rfl,hb1⟩
 have z1:=hb1.size
 try simp at z1
 rw [H1.out]
 obtain ⟨lh,l0,l1,lf,lz⟩:=own2 (g:=w.heap.size) hb1 (by first | omega | (simp;omega) | (simp;done)) (hp_)
 obtain ⟨kh,k0,k1,kf,kz⟩:=own2 (g:=w.heap.size + 1) hb1 (by first | omega | (simp;omega) | (simp;done)) (hp_)
 go_wp2_with fail
 refine (zko k c _).mono ?_
 rintro e w2 ⟨rfl,hb2⟩
 have z2:=hb2.size
 try simp at z2
 rw [H2.out]
 obtain ⟨lh2,m0,m1,mf,mz⟩:=own2 hb2 lz lh
 obtain ⟨kh2,q0,q1,qf,qz⟩:=own2 hb2 kz kh
 have hB2 : Below w.heap.size w w2:=bl_
 have KH:=hd_ kh2
 clear hb1 hb2 l0 l1 lf k0 k1 kf lh kh
 go_wp2_with fail
 clear m0 m1 mf q0 q1 qf lh2 kh2
 go_loopw [18] (fun i wr => ∃ j : Nat,j ≤ l.length∧i = .int .i64 j∧Hid (findB k c l = findB k c (l.drop j))∧wr.heap[w.heap.size + 1]? = some (.cells #[.int .i64 k,.int .i64 c] 55 (0,0))∧Below w.heap.size w wr) (fun i _ => l.length - (intOf i).toNat)
 case atStart => exact ⟨0,Nat.zero_le _,rfl,hd_ rfl,KH.out,hB2⟩
 case round =>
  clear hB2 KH
  obtain ⟨j,hj,rfl,HF,hkh,hbw⟩:=hrel
  have hbz:=hbw.size
  obtain ⟨_,q0,q1,qf,qz⟩:=own2 (Below.refl wr.heap.size wr) (gz_ hkh).1 hkh
  have KH:=hd_ hkh
  clear hkh
  by_cases hlt : j < l.length
  ·
   obtain ⟨b,off,rfl,hbB,c0,c1,c2⟩:=Line.rd (HR.out.below hbw) hlt
   have hdr:=List.drop_eq_getElem_cons hlt
   have HQ:=hd_ (fun W => eq_acc W l[j].Kind l[j].Ch k c)
   by_cases he : l[j].Kind = k∧l[j].Ch = c
   ·
    have hq : ∀ W,(binOp .eql 55 (.agg #[.int .i64 l[j].Kind,.int .i64 l[j].Ch]) (.agg #[.int .i64 k,.int .i64 c])).run Tryz.prog W = .ok (.bool true) W:=fun W => by rw [HQ.out W,zmq he]
    have HF2:=hd_ (show balB z l k c = l[j].Amt by rw [HB.out,HF.out,hdr,findB,if_pos he])
    clear he hdr
    go_wp2_with fail
    go_ret
    exact ⟨zxc HF2.out.symm,bl_⟩
   have hq : ∀ W,(binOp .eql 55 (.agg #[.int .i64 l[j].Kind,.int .i64 l[j].Ch]) (.agg #[.int .i64 k,.int .i64 c])).run Tryz.prog W = .ok (.bool false) W:=fun W => by rw [HQ.out W,zyd he]
   have HF2:=hd_ (show findB k c l = findB k c (l.drop (j + 1)) by rw [HF.out,hdr,findB,if_neg he])
   clear he hdr
   go_wp2_with fail
   go_roundw
   case rel => exact ⟨j + 1,by omega,by go_num,hd_ HF2.out,zqd qz KH.out,bl_⟩
   case measure => simp [intOf];omega
  obtain rfl : j = l.length:=by omega
  have HF2:=hd_ (show balB z l k c = 0 by rw [HB.out,HF.out,List.drop_length];rfl)
  go_wp2_with fail
  go_ret
  exact ⟨zxc HF2.out.symm,hbw⟩
end Go.Proofs.YtdbmkfmenfcbiaaGreat
