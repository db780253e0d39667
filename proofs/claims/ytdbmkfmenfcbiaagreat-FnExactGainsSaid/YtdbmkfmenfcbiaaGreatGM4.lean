/- ApS · GnF: each text proves what its theorems say, with no conditions but theirs. -/
import Derived.Test.YtdbmkfmenfcbiaaGreatRows
import Derived.Test.YtdbmkfmenfcbiaaGreatGSOpen
import Derived.Test.YtdbmkfmenfcbiaaGreatGSClose
import Derived.Test.YtdbmkfmenfcbiaaGreatGSAdmit
import Derived.Test.YtdbmkfmenfcbiaaGreatGSSettle
import Derived.Test.YtdbmkfmenfcbiaaGreatGM3
import Derived.Test.YtdbmkfmenfcbiaaGreatGSLaunch
import Derived.Test.YtdbmkfmenfcbiaaGreatGSLand
import Derived.Test.YtdbmkfmenfcbiaaGreatGM1
namespace Go.Proofs.YtdbmkfmenfcbiaaGreat
open Go.RowKit Go.Deep
def closeA (b : Bk) (e : Event) : Out:=if 0 ≤ chanIx b.cs e.Ch∧1125899906842624 < b.w + (chanOf b.cs e.Ch).Local - e.Fee then bad 2 else closeB b e
def stepS (b : Bk) (e : Event) : Out :=
 if e.Kind = 1 then depB b e
 else if e.Kind = 2 then openB b e
 else if e.Kind = 3 then closeA b e
 else if e.Kind = 4 then priceB b e
 else if e.Kind = 5 then admitS b e (chanOf b.cs e.Ch) (chanOf b.cs e.To)
 else if e.Kind = 6 then settleS b e.Key true
 else if e.Kind = 7 then settleS b e.Key false
 else if e.Kind = 8 then tickB b
 else if e.Kind = 9 then launchS b e
 else if e.Kind = 10 then landS b e.Key true
 else landS b e.Key false
def applyS (b : Bk) (e : Event) : Out :=
 if (b.ok && evB e) = false then bad 1
 else if b.n = 1125899906842624 then bad 2
 else stepS b e
theorem zww {b : Bk} {e : Event} (h : (b.ok && evB e) = false) : applyS b e = bad 1:=by unfold applyS;rw [if_pos h]
theorem zth {b : Bk} {e : Event} (h : (b.ok && evB e) = true) (hn : b.n = 1125899906842624) : applyS b e = bad 2:=by unfold applyS;rw [if_neg (by rw [h];decide),if_pos hn]
theorem zwx {b : Bk} {e : Event} (h : (b.ok && evB e) = true) (hn : b.n ≠ 1125899906842624) : applyS b e = stepS b e:=by unfold applyS;rw [if_neg (by rw [h];decide),if_neg hn]
def Good (n : Int) (o : Out) : Prop:=(o.code ≠ 0∧o = bad o.code) ∨ (o.code = 0∧o.b.n = if o.l = [] then n else n + 1)
theorem Good.bad {n c : Int} (h : c ≠ 0) : Good n (bad c):=.inl ⟨h,rfl⟩
theorem Good.done {n : Int} {b : Bk} {l : List Line} (h : b.n = n) : Good n (done b l):=.inr ⟨rfl,by subst h;rfl⟩
theorem zte (b : Bk) (e : Event) : Good b.n (stepS b e):=by
 unfold stepS
 split
 ·
  unfold depB;split <;> first | exact Good.bad (by decide) | exact Good.done rfl
 split
 ·
  unfold openB;(repeat' split) <;> first | exact Good.bad (by decide) | exact Good.done rfl
 split
 ·
  unfold closeA closeB;(repeat' split) <;> first | exact Good.bad (by decide) | exact Good.done rfl
 split
 ·
  unfold priceB;(repeat' split) <;> first | exact Good.bad (by decide) | exact Good.done rfl
 split
 ·
  unfold admitS;(repeat' split) <;> first | exact Good.bad (by decide) | exact Good.done rfl
 split
 ·
  unfold settleS;(repeat' split) <;> first | exact Good.bad (by decide) | exact Good.done rfl
 split
 ·
  unfold settleS;(repeat' split) <;> first | exact Good.bad (by decide) | exact Good.done rfl
 split
 ·
  unfold tickB;(repeat' split) <;> first | exact Good.bad (by decide) | exact Good.done rfl
 split
 ·
  unfold launchS;(repeat' split) <;> first | exact Good.bad (by decide) | exact Good.done rfl
 split
 ·
  unfold landS;(repeat' split) <;> first | exact Good.bad (by decide) | exact Good.done rfl
 ·
  unfold landS;(repeat' split) <;> first | exact Good.bad (by decide) | exact Good.done rfl
theorem zmo {e : Event} (h : evB e = true) : amtB e.Amt = true∧amtB e.Fee = true:=by
 obtain ⟨k,key,ch,tq,amt,fee,yes⟩:=e
 unfold evB at h
 simp only at h
 (repeat' split at h) <;> first | (cases h;done) | (simp only [Bool.and_eq_true,beq_iff_eq,zji,zxu] at h ⊢;omega)
theorem ev_kind {e : Event} (h : evB e = true) : e.Kind = 1 ∨ e.Kind = 2 ∨ e.Kind = 3 ∨ e.Kind = 4 ∨ e.Kind = 5 ∨ e.Kind = 6 ∨ e.Kind = 7 ∨ e.Kind = 8 ∨ e.Kind = 9 ∨ e.Kind = 10 ∨ e.Kind = 11:=by
 unfold evB at h
 (repeat' split at h) <;> first | (cases h;done) | omega
theorem zsf {P : Program} {f : Func} {Q : Ending → World → Prop} {e : Exit} {a : Act} {w : World} (h : ∀ wq,wq = w → bodyPost P f Q e a wq) : bodyPost P f Q e a w:=h w rfl
def ApplyP (w : World) (o : Out) (n : Int) (e : Ending) (w' : World) : Prop :=
 ∃ (b' : Bk) (L : List Line) (id : Int) (C1 C2 C3 C4 : Option Addr) (q1 q2 q3 q4 : Nat),e = .returned (.tuple #[.agg #[.int .i64 b'.t,.int .i64 b'.n,.int .i64 b'.w,.slice C1 b'.cs.length q1,.slice C2 b'.hs.length q2,.slice C3 b'.os.length q3],.agg #[.int .i64 id,.slice C4 L.length q4],.int .i64 o.code]) ∧
  OwB w' w.heap.size b' C1 C2 C3 q1 q2 q3∧Ow w' w.heap.size 99 3 (.slice C4 L.length q4) (L.map Line.cells)∧Below w.heap.size w w'∧b' = o.b∧L = o.l∧id = (if o.l = [] then 0 else n)
def AppEnd (T : TypeId) (w : World) (B X RB RP : Nat) (o : Out) (w' : World) : Prop :=
 ((o.code = 0∧∃ (b' : Bk) (C1 C2 C3 C4 : Option Addr) (q1 q2 q3 q4 : Nat),o.b = { b' with n:=if o.l = [] then b'.n else b'.n + 1 }∧Wk T w w' B X b' o.l 0 C1 C2 C3 C4 q1 q2 q3 q4) ∨
  (o.code ≠ 0∧∃ (b' : Bk) (L' : List Line) (C1 C2 C3 C4 : Option Addr) (q1 q2 q3 q4 : Nat),Wk T w w' B X b' L' o.code C1 C2 C3 C4 q1 q2 q3 q4)) ∧
 w'.heap[RB]? = some (.cells #[.int .i64 0,.int .i64 0,.int .i64 0,.slice none 0 0,.slice none 0 0,.slice none 0 0] 39 (0,0))∧w'.heap[RP]? = some (.cells #[.int .i64 0,.slice none 0 0] 66 (0,0))
section
variable {T : TypeId} {w0 w w' : World} {B X RB RP : Nat} {b : Bk} {L : List Line} {code : Int} {A1 A2 A3 A4 : Option Addr} {p1 p2 p3 p4 : Nat}
theorem AppEnd.of_acts {o : Out} {e : Ending} (h0 : Wk T w0 w B X b [] 0 A1 A2 A3 A4 p1 p2 p3 p4) (hb : 39 ∉ wkTs T) (hp : 66 ∉ wkTs T) (hR : w.heap[RB]? = some (.cells #[.int .i64 0,.int .i64 0,.int .i64 0,.slice none 0 0,.slice none 0 0,.slice none 0 0] 39 (0,0))) (hP : w.heap[RP]? = some (.cells #[.int .i64 0,.slice none 0 0] 66 (0,0)))
  (h : Acts T w B X o e w') : e = .returned (.tuple #[])∧AppEnd T w0 B X RB RP o w':=by
 rcases h with ⟨h1,b',h2,C1,C2,C3,C4,q1,q2,q3,q4,he,hw⟩ | ⟨h1,b',L',C1,C2,C3,C4,q1,q2,q3,q4,he,hw⟩
 ·
  exact ⟨he,.inl ⟨h1,b',C1,C2,C3,C4,q1,q2,q3,q4,h2,h0.trans hw⟩,hw.box hR hb,hw.box hP hp⟩
 ·
  exact ⟨he,.inr ⟨h1,b',L',C1,C2,C3,C4,q1,q2,q3,q4,h0.trans hw⟩,hw.box hR hb,hw.box hP hp⟩
theorem Wk.aside2 {C : Nat} {t : TypeId} {cells : Array Value} (h : Wk T w0 w B X b L code A1 A2 A3 A4 p1 p2 p3 p4) (hC : w.heap[C]? = some (.cells cells t (0,0))) (h0 : w0.heap.size ≤ C) (hB : B ≤ C) (htT : t ≠ T) (h1 : 103 ≠ t) (h2 : 70 ≠ t) (h3 : 93 ≠ t) (h4 : 99 ≠ t) (hgr : w.grownBy w' (some C)) : Wk T w0 w' B X b L code A1 A2 A3 A4 p1 p2 p3 p4:=by
 refine ⟨zqj hgr (fun e => ?_) h.x,⟨h.o.c.grown hgr (Or.inr (h.o.c.ne_ hC h1).symm),h.o.h.grown hgr (Or.inr (h.o.h.ne_ hC h2).symm),h.o.o.grown hgr (Or.inr (h.o.o.ne_ hC h3).symm)⟩,h.l.grown hgr (Or.inr (h.l.ne_ hC h4).symm),h.b.grown hgr h.ble (fun k e => by injection e with e;omega),?_,h.bx⟩
 ·
  injection e with e
  subst e
  rw [h.x] at hC
  injection hC with hC
  injection hC with _ hC
  exact htT hC.symm
 ·
  intro k cs t' h5 h6
  have h7:=h.f k cs t' h5 h6
  exact zqj hgr (fun e => by injection e with e;have:=(gz_ h5).1;omega) h7
end
end Go.Proofs.YtdbmkfmenfcbiaaGreat
namespace Go.Proofs.YtdbmkfmenfcbiaaGreat
open Go.RowKit Go.Deep
def wr (n : Int) : Int:=wrap64 n
def plusG (x g : Gain) : Gain:=⟨x.Ch,wr (x.Fees + g.Fees),wr (x.Count + g.Count),wr (x.Failed + g.Failed)⟩
def addStep (g : Gain) (s : Bool × List Gain) (x : Gain) : Bool × List Gain :=
  if x.Ch = g.Ch then (true,s.2 ++ [plusG x g]) else if s.1 = false∧g.Ch < x.Ch then (true,s.2 ++ [g] ++ [x]) else (s.1,s.2 ++ [x])
def addEnd (g : Gain) (s : Bool × List Gain) : List Gain:=if s.1 = true then s.2 else s.2 ++ [g]
def addG (l : List Gain) (g : Gain) : List Gain:=addEnd g (l.foldl (addStep g) (false,[]))
def htlcF (hs : List Htlc) (key : Int) : Option Htlc:=hs.find? fun h => h.Key == key
def gainOf (h : Htlc) (good : Bool) : Gain:=if good = true then ⟨h.Out,h.AmtIn - h.AmtOut,1,0⟩ else ⟨h.Out,0,0,1⟩
def gainEv (hs : List Htlc) (e : Event) (l : List Gain) : List Gain :=
  match htlcF hs e.Key with
  | some h => if e.Kind = 6 then addG l (gainOf h true) else if e.Kind = 7 then addG l (gainOf h false) else l
  | none => l
def gainStep (s : Bk × List Gain) (e : Event) : Bk × List Gain:=if (applyS s.1 e).code = 0 then ((applyS s.1 e).b,gainEv s.1.hs e s.2) else s
def bk1 : Bk:=⟨0,1,0,[],[],[]⟩
def gainsF (es : List Event) : List Gain:=(es.foldl gainStep (bk1,[])).2
theorem zhc (g : Gain) : ∀ (l : List Gain) (s : Bool × List Gain),(addEnd g (l.foldl (addStep g) s)).length ≤ s.2.length + l.length + (if s.1 = true then 0 else 1)
  | [],(d,o) => by unfold addEnd;cases d <;> simp
  | x :: l,s => by
    rw [List.foldl_cons]
    have h:=zhc g l (addStep g s x)
    have h2 : (addStep g s x).2.length + (if (addStep g s x).1 = true then 0 else 1) ≤ s.2.length + 1 + (if s.1 = true then 0 else 1):=by
      unfold addStep
      split
      · simp
      · split
        · rename_i h3
          simp [h3.1]
        · simp
    rw [List.length_cons]
    omega
theorem zwv (l : List Gain) (g : Gain) : (addG l g).length ≤ l.length + 1:=by
  have:=zhc g l (false,[])
  simpa [addG] using this
theorem zhn {hs : List Htlc} {key : Int} {h : Htlc} (hh : htlcF hs key = some h) : h ∈ hs:=List.mem_of_find?_eq_some hh
theorem zhg {b : Bk} {e : Event} (h : (applyS b e).code = 0) : b.ok = true:=by
  cases hb : b.ok
  · rw [zww (by rw [hb];rfl)] at h
    exact absurd h (by decide)
  · rfl
theorem gainEv_len (hs : List Htlc) (e : Event) (l : List Gain) : (gainEv hs e l).length ≤ l.length + 1:=by
  unfold gainEv
  split
  · split
    · exact zwv _ _
    · split
      · exact zwv _ _
      · omega
  · omega
theorem zmq (s : Bk × List Gain) (e : Event) : (gainStep s e).2.length ≤ s.2.length + 1:=by
  unfold gainStep
  split
  · exact gainEv_len _ _ _
  · omega
theorem zwq : ∀ (es : List Event) (s : Bk × List Gain),(es.foldl gainStep s).2.length ≤ s.2.length + es.length
  | [],_ => by simp
  | e :: es,s => by
    rw [List.foldl_cons]
    have h1:=zwq es (gainStep s e)
    have h2:=zmq s e
    rw [List.length_cons]
    omega
theorem gainsF_len (es : List Event) : (gainsF es).length ≤ es.length:=by
  have:=zwq es (bk1,[])
  simpa [gainsF] using this
end Go.Proofs.YtdbmkfmenfcbiaaGreat
