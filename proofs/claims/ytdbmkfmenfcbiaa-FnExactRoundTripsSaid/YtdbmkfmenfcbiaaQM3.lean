/- ApS · BookO0: each text proves what its theorems say, with no conditions but theirs. -/
import Derived.Test.YtdbmkfmenfcbiaaRows
import Derived.Test.YtdbmkfmenfcbiaaQSOpen
import Derived.Test.YtdbmkfmenfcbiaaQSClose
import Derived.Test.YtdbmkfmenfcbiaaQSAdmit
import Derived.Test.YtdbmkfmenfcbiaaQSSettle
import Derived.Test.YtdbmkfmenfcbiaaQM2
import Derived.Test.YtdbmkfmenfcbiaaQSLaunch
import Derived.Test.YtdbmkfmenfcbiaaQSLand
import Derived.Test.YtdbmkfmenfcbiaaQBookPs
namespace Go.Proofs.Ytdbmkfmenfcbiaa
open Go.RowKit Go.Deep
def closeA (b : Bk) (e : Event) : Out:=if 0 ≤ chanIx b.cs e.Ch∧1125899906842624 < b.w + (chanOf b.cs e.Ch).Local - e.Fee then bad 2 else closeB b e
def stepS (b : Bk) (e : Event) : Out :=
 if e.Kind = 1 then depB b e
 else if e.Kind = 2 then openB b e
 else if e.Kind = 3 then closeA b e
 else if e.Kind = 4 then priceB b e
 else if e.Kind = 5 then admitS b e (chanOf b.cs e.Ch) (chanOf b.cs e.To)
 else if e.Kind = 6 then settleS b e.Key true
 else if e.Kind = 7 then settleS b e.Key false
 else if e.Kind = 8 then tickB b
 else if e.Kind = 9 then launchS b e
 else if e.Kind = 10 then landS b e.Key true
 else landS b e.Key false
def applyS (b : Bk) (e : Event) : Out :=
 if (b.ok && evB e) = false then bad 1
 else if b.n = 1125899906842624 then bad 2
 else stepS b e
theorem applyS_1 {b : Bk} {e : Event} (h : (b.ok && evB e) = false) : applyS b e = bad 1:=by unfold applyS;rw [if_pos h]
theorem applyS_2 {b : Bk} {e : Event} (h : (b.ok && evB e) = true) (hn : b.n = 1125899906842624) : applyS b e = bad 2:=by unfold applyS;rw [if_neg (by rw [h];decide),if_pos hn]
theorem applyS_3 {b : Bk} {e : Event} (h : (b.ok && evB e) = true) (hn : b.n ≠ 1125899906842624) : applyS b e = stepS b e:=by unfold applyS;rw [if_neg (by rw [h];decide),if_neg hn]
def Good (n : Int) (o : Out) : Prop:=(o.code ≠ 0∧o = bad o.code) ∨ (o.code = 0∧o.b.n = if o.l = [] then n else n + 1)
theorem Good.bad {n c : Int} (h : c ≠ 0) : Good n (bad c):=.inl ⟨h,rfl⟩
theorem Good.done {n : Int} {b : Bk} {l : List Line} (h : b.n = n) : Good n (done b l):=.inr ⟨rfl,by subst h;rfl⟩
theorem stepS_good (b : Bk) (e : Event) : Good b.n (stepS b e):=by
 unfold stepS
 split
 ·
  unfold depB;split <;> first | exact Good.bad (by decide) | exact Good.done rfl
 split
 ·
  unfold openB;(repeat' split) <;> first | exact Good.bad (by decide) | exact Good.done rfl
 split
 ·
  unfold closeA closeB;(repeat' split) <;> first | exact Good.bad (by decide) | exact Good.done rfl
 split
 ·
  unfold priceB;(repeat' split) <;> first | exact Good.bad (by decide) | exact Good.done rfl
 split
 ·
  unfold admitS;(repeat' split) <;> first | exact Good.bad (by decide) | exact Good.done rfl
 split
 ·
  unfold settleS;(repeat' split) <;> first | exact Good.bad (by decide) | exact Good.done rfl
 split
 ·
  unfold settleS;(repeat' split) <;> first | exact Good.bad (by decide) | exact Good.done rfl
 split
 ·
  unfold tickB;(repeat' split) <;> first | exact Good.bad (by decide) | exact Good.done rfl
 split
 ·
  unfold launchS;(repeat' split) <;> first | exact Good.bad (by decide) | exact Good.done rfl
 split
 ·
  unfold landS;(repeat' split) <;> first | exact Good.bad (by decide) | exact Good.done rfl
 ·
  unfold landS;(repeat' split) <;> first | exact Good.bad (by decide) | exact Good.done rfl
theorem ev_amt {e : Event} (h : evB e = true) : amtB e.Amt = true∧amtB e.Fee = true:=by
 obtain ⟨k,key,ch,tq,amt,fee,yes⟩:=e
 unfold evB at h
 simp only at h
 (repeat' split at h) <;> first | (cases h;done) | (simp only [Bool.and_eq_true,beq_iff_eq,zvg,zkg] at h ⊢;omega)
theorem ev_kind {e : Event} (h : evB e = true) : e.Kind = 1 ∨ e.Kind = 2 ∨ e.Kind = 3 ∨ e.Kind = 4 ∨ e.Kind = 5 ∨ e.Kind = 6 ∨ e.Kind = 7 ∨ e.Kind = 8 ∨ e.Kind = 9 ∨ e.Kind = 10 ∨ e.Kind = 11:=by
 unfold evB at h
 (repeat' split at h) <;> first | (cases h;done) | omega
theorem name_ret {P : Program} {f : Func} {Q : Ending → World → Prop} {e : Exit} {a : Act} {w : World} (h : ∀ wq,wq = w → bodyPost P f Q e a wq) : bodyPost P f Q e a w:=h w rfl
def ApplyP (w : World) (o : Out) (n : Int) (e : Ending) (w' : World) : Prop :=
 ∃ (b' : Bk) (L : List Line) (id : Int) (C1 C2 C3 C4 : Option Addr) (q1 q2 q3 q4 : Nat),e = .returned (.tuple #[.agg #[.int .i64 b'.t,.int .i64 b'.n,.int .i64 b'.w,.slice C1 b'.cs.length q1,.slice C2 b'.hs.length q2,.slice C3 b'.os.length q3],.agg #[.int .i64 id,.slice C4 L.length q4],.int .i64 o.code]) ∧
  OwB w' w.heap.size b' C1 C2 C3 q1 q2 q3∧Ow w' w.heap.size 74 3 (.slice C4 L.length q4) (L.map Line.cells)∧Below w.heap.size w w'∧b' = o.b∧L = o.l∧id = (if o.l = [] then 0 else n)
def AppEnd (T : TypeId) (w : World) (B X RB RP : Nat) (o : Out) (w' : World) : Prop :=
 ((o.code = 0∧∃ (b' : Bk) (C1 C2 C3 C4 : Option Addr) (q1 q2 q3 q4 : Nat),o.b = { b' with n:=if o.l = [] then b'.n else b'.n + 1 }∧Wk T w w' B X b' o.l 0 C1 C2 C3 C4 q1 q2 q3 q4) ∨
  (o.code ≠ 0∧∃ (b' : Bk) (L' : List Line) (C1 C2 C3 C4 : Option Addr) (q1 q2 q3 q4 : Nat),Wk T w w' B X b' L' o.code C1 C2 C3 C4 q1 q2 q3 q4)) ∧
 w'.heap[RB]? = some (.cells #[.int .i64 0,.int .i64 0,.int .i64 0,.slice none 0 0,.slice none 0 0,.slice none 0 0] 34 (0,0))∧w'.heap[RP]? = some (.cells #[.int .i64 0,.slice none 0 0] 40 (0,0))
section
variable {T : TypeId} {w0 w w' : World} {B X RB RP : Nat} {b : Bk} {L : List Line} {code : Int} {A1 A2 A3 A4 : Option Addr} {p1 p2 p3 p4 : Nat}
theorem AppEnd.of_acts {o : Out} {e : Ending} (h0 : Wk T w0 w B X b [] 0 A1 A2 A3 A4 p1 p2 p3 p4) (hb : 34 ∉ wkTs T) (hp : 40 ∉ wkTs T) (hR : w.heap[RB]? = some (.cells #[.int .i64 0,.int .i64 0,.int .i64 0,.slice none 0 0,.slice none 0 0,.slice none 0 0] 34 (0,0))) (hP : w.heap[RP]? = some (.cells #[.int .i64 0,.slice none 0 0] 40 (0,0)))
  (h : Acts T w B X o e w') : e = .returned (.tuple #[])∧AppEnd T w0 B X RB RP o w':=by
 rcases h with ⟨h1,b',h2,C1,C2,C3,C4,q1,q2,q3,q4,he,hw⟩ | ⟨h1,b',L',C1,C2,C3,C4,q1,q2,q3,q4,he,hw⟩
 ·
  exact ⟨he,.inl ⟨h1,b',C1,C2,C3,C4,q1,q2,q3,q4,h2,h0.trans hw⟩,hw.box hR hb,hw.box hP hp⟩
 ·
  exact ⟨he,.inr ⟨h1,b',L',C1,C2,C3,C4,q1,q2,q3,q4,h0.trans hw⟩,hw.box hR hb,hw.box hP hp⟩
theorem Wk.aside2 {C : Nat} {t : TypeId} {cells : Array Value} (h : Wk T w0 w B X b L code A1 A2 A3 A4 p1 p2 p3 p4) (hC : w.heap[C]? = some (.cells cells t (0,0))) (h0 : w0.heap.size ≤ C) (hB : B ≤ C) (htT : t ≠ T) (h1 : 63 ≠ t) (h2 : 83 ≠ t) (h3 : 44 ≠ t) (h4 : 74 ≠ t) (hgr : w.grownBy w' (some C)) : Wk T w0 w' B X b L code A1 A2 A3 A4 p1 p2 p3 p4:=by
 refine ⟨zqj hgr (fun e => ?_) h.x,⟨h.o.c.grown hgr (Or.inr (h.o.c.ne_ hC h1).symm),h.o.h.grown hgr (Or.inr (h.o.h.ne_ hC h2).symm),h.o.o.grown hgr (Or.inr (h.o.o.ne_ hC h3).symm)⟩,h.l.grown hgr (Or.inr (h.l.ne_ hC h4).symm),h.b.grown hgr h.ble (fun k e => by injection e with e;omega),?_,h.bx⟩
 ·
  injection e with e
  subst e
  rw [h.x] at hC
  injection hC with hC
  injection hC with _ hC
  exact htT hC.symm
 ·
  intro k cs t' h5 h6
  have h7:=h.f k cs t' h5 h6
  exact zqj hgr (fun e => by injection e with e;have:=(gz_ h5).1;omega) h7
end
end Go.Proofs.Ytdbmkfmenfcbiaa
namespace Go.Proofs.Ytdbmkfmenfcbiaa
open Go.RowKit

theorem bookB_i (bt bn bw : Int) (cs : List Chan) (hs : List Htlc) (os : List Circle) :
    bookB bt bn bw cs hs os = (amtB bt && amtB bw && inB bn 1 1125899906842624 && !decide ((20 : Int) < (cs.length : Int)) && partsOkB cs hs os && everyTo cs.length (chanOk cs hs os)):=by
  rw [Bool.eq_iff_iff]
  simp only [bookB,partsOkB,Bool.and_eq_true,decide_eq_true_eq,Bool.not_eq_true',decide_eq_false_iff_not]
  constructor
  · rintro ⟨⟨⟨⟨⟨⟨⟨h1,h2⟩,h3⟩,h4⟩,h5⟩,h6⟩,h7⟩,h8⟩;exact ⟨⟨⟨⟨⟨h1,h2⟩,h3⟩,by omega⟩,⟨h5,h6⟩,h7⟩,h8⟩
  · rintro ⟨⟨⟨⟨⟨h1,h2⟩,h3⟩,h4⟩,⟨h5,h6⟩,h7⟩,h8⟩;exact ⟨⟨⟨⟨⟨⟨⟨h1,h2⟩,h3⟩,by omega⟩,h5⟩,h6⟩,h7⟩,h8⟩
theorem bookB_s (bt bn bw : Int) (cs : List Chan) (hs : List Htlc) (os : List Circle) :
    bookB bt bn bw cs hs os = (amtB bt && amtB bw && !decide (bn < 1) && !decide (1125899906842624 < bn) && !decide ((20 : Int) < (cs.length : Int)) && !decide ((60 : Int) < (hs.length : Int)) && !decide ((20 : Int) < (os.length : Int)) && partsB cs hs os && everyTo cs.length (chanOk cs hs os)):=by
  rw [Bool.eq_iff_iff]
  simp only [bookB,Bool.and_eq_true,zvg,decide_eq_true_eq,Bool.not_eq_true',decide_eq_false_iff_not]
  constructor
  · rintro ⟨⟨⟨⟨⟨⟨⟨h1,h2⟩,h3⟩,h4⟩,h5⟩,h6⟩,h7⟩,h8⟩;exact ⟨⟨⟨⟨⟨⟨⟨⟨h1,h2⟩,by omega⟩,by omega⟩,by omega⟩,by omega⟩,by omega⟩,h7⟩,h8⟩
  · rintro ⟨⟨⟨⟨⟨⟨⟨⟨h1,h2⟩,h3⟩,h3'⟩,h4⟩,h5⟩,h6⟩,h7⟩,h8⟩;exact ⟨⟨⟨⟨⟨⟨⟨h1,h2⟩,by omega⟩,by omega⟩,by omega⟩,by omega⟩,h7⟩,h8⟩
theorem chB_i (hs : List Htlc) (os : List Circle) (c : Chan) : chB hs os c = (isChanB c.Id && amtB c.Local && amtB c.Remote && amtB c.Base && inB c.Ppm 0 1000000 && inB c.Score (-100) 100 && amtB c.Size && !(c.Size != c.Local + c.Remote + outOf hs os c.Id + inOf hs os c.Id)):=by
  simp [chB,bne]
theorem chB_s (hs : List Htlc) (os : List Circle) (c : Chan) : chB hs os c = (!decide (c.Id < 1) && !decide (99 < c.Id) && amtB c.Local && amtB c.Remote && amtB c.Base && !decide (c.Ppm < 0) && !decide (1000000 < c.Ppm) && inB c.Score (-100) 100 && amtB c.Size && !(c.Local + c.Remote + outOf hs os c.Id + inOf hs os c.Id != c.Size)):=by
  rw [Bool.eq_iff_iff]
  simp only [chB,Bool.and_eq_true,isChanB_iff,zvg,Bool.not_eq_true',decide_eq_false_iff_not,beq_iff_eq,bne_eq_false_iff_eq]
  constructor
  · rintro ⟨⟨⟨⟨⟨⟨⟨h1,h2⟩,h3⟩,h4⟩,h5⟩,h6⟩,h7⟩,h8⟩;exact ⟨⟨⟨⟨⟨⟨⟨⟨⟨by omega,by omega⟩,h2⟩,h3⟩,h4⟩,by omega⟩,by omega⟩,h6⟩,h7⟩,h8.symm⟩
  · rintro ⟨⟨⟨⟨⟨⟨⟨⟨⟨h1,h1'⟩,h2⟩,h3⟩,h4⟩,h5⟩,h5'⟩,h6⟩,h7⟩,h8⟩;exact ⟨⟨⟨⟨⟨⟨⟨by omega,h2⟩,h3⟩,h4⟩,by omega⟩,h6⟩,h7⟩,h8.symm⟩
theorem next_le (a b : Int) : decide (a < b) = !decide (b ≤ a):=by
  rw [Bool.eq_iff_iff]
  simp
theorem zxn {bt bn bw : Int} {cs : List Chan} {hs : List Htlc} {os : List Circle} {k : Nat} (hk : k < cs.length) (h : chanOk cs hs os k = false) : bookB bt bn bw cs hs os = false:=by
  unfold bookB
  rw [everyTo_false hk h,Bool.and_false]
end Go.Proofs.Ytdbmkfmenfcbiaa
