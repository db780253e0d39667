/-
 Plain ground for the walks and the rows: no program in sight. The last step of a row whose law leaves all old memory as it was;flat struct types opened tq cells;slices of flat structs as lists of rows.
-/
import Derived.WalkKit
import Derived.WalkSpells
import Derived.WalkLawsBesides
import Derived.ProofKit
import Derived.Below
import Derived.Carry
import Derived.Laws.OwnMore
import Derived.Laws.MakeOwn
import Derived.Deep.AppendLies
import Derived.Deep.Draws
import Derived.Deep.Slices
import Derived.Lib.Hide
import Derived.Lib.SmallJoins
namespace Go.Proofs.YtdbmkfmenfcbiaaGreat
open Go.ChangeShapes Go.WideShapes Go.ChangeAt Go.RowKit Go.Deep
theorem gz_ {α : Type} {a : Array α} {i : Nat} {x : α} (h : a[i]? = some x) : ∃ hl : i < a.size,a[i] = x:=Array.getElem?_eq_some_iff.1 h
abbrev Hx (w : World) (g : Nat) (cs : Array Value) (t : TypeId) : Prop:=w.heap[g]? = some (.cells cs t (0,0))
abbrev kqbbbbbb_ (w : World) (g : Nat) (x0 : Bool) (x1 : Bool) (x2 : Bool) (x3 : Bool) (x4 : Bool) (x5 : Bool) : Prop:=w.cell? ⟨g,0,none⟩ = some (.bool x0)∧w.cell? ⟨g,1,none⟩ = some (.bool x1)∧w.cell? ⟨g,2,none⟩ = some (.bool x2)∧w.cell? ⟨g,3,none⟩ = some (.bool x3)∧w.cell? ⟨g,4,none⟩ = some (.bool x4)∧w.cell? ⟨g,5,none⟩ = some (.bool x5)
abbrev kqi (w : World) (g : Nat) (x0 : Int) (R : Prop) : Prop:=w.cell? ⟨g,0,none⟩ = some (.int .i64 x0)∧R
abbrev kqiiiii (w : World) (g : Nat) (x0 : Int) (x1 : Int) (x2 : Int) (x3 : Int) (x4 : Int) (R : Prop) : Prop:=w.cell? ⟨g,0,none⟩ = some (.int .i64 x0)∧w.cell? ⟨g,1,none⟩ = some (.int .i64 x1)∧w.cell? ⟨g,2,none⟩ = some (.int .i64 x2)∧w.cell? ⟨g,3,none⟩ = some (.int .i64 x3)∧w.cell? ⟨g,4,none⟩ = some (.int .i64 x4)∧R
abbrev kqiiiii_ (w : World) (g : Nat) (x0 : Int) (x1 : Int) (x2 : Int) (x3 : Int) (x4 : Int) : Prop:=w.cell? ⟨g,0,none⟩ = some (.int .i64 x0)∧w.cell? ⟨g,1,none⟩ = some (.int .i64 x1)∧w.cell? ⟨g,2,none⟩ = some (.int .i64 x2)∧w.cell? ⟨g,3,none⟩ = some (.int .i64 x3)∧w.cell? ⟨g,4,none⟩ = some (.int .i64 x4)
abbrev kqiiiiibi (w : World) (g : Nat) (x0 : Int) (x1 : Int) (x2 : Int) (x3 : Int) (x4 : Int) (x5 : Bool) (x6 : Int) (R : Prop) : Prop:=w.cell? ⟨g,0,none⟩ = some (.int .i64 x0)∧w.cell? ⟨g,1,none⟩ = some (.int .i64 x1)∧w.cell? ⟨g,2,none⟩ = some (.int .i64 x2)∧w.cell? ⟨g,3,none⟩ = some (.int .i64 x3)∧w.cell? ⟨g,4,none⟩ = some (.int .i64 x4)∧w.cell? ⟨g,5,none⟩ = some (.bool x5)∧w.cell? ⟨g,6,none⟩ = some (.int .i64 x6)∧R
abbrev kqiiiiibi_ (w : World) (g : Nat) (x0 : Int) (x1 : Int) (x2 : Int) (x3 : Int) (x4 : Int) (x5 : Bool) (x6 : Int) : Prop:=w.cell? ⟨g,0,none⟩ = some (.int .i64 x0)∧w.cell? ⟨g,1,none⟩ = some (.int .i64 x1)∧w.cell? ⟨g,2,none⟩ = some (.int .i64 x2)∧w.cell? ⟨g,3,none⟩ = some (.int .i64 x3)∧w.cell? ⟨g,4,none⟩ = some (.int .i64 x4)∧w.cell? ⟨g,5,none⟩ = some (.bool x5)∧w.cell? ⟨g,6,none⟩ = some (.int .i64 x6)
abbrev kqiiiiibio_ (w : World) (g o : Nat) (x0 : Int) (x1 : Int) (x2 : Int) (x3 : Int) (x4 : Int) (x5 : Bool) (x6 : Int) : Prop:=w.cell? ⟨g,o,none⟩ = some (.int .i64 x0)∧w.cell? ⟨g,o + 1,none⟩ = some (.int .i64 x1)∧w.cell? ⟨g,o + 2,none⟩ = some (.int .i64 x2)∧w.cell? ⟨g,o + 3,none⟩ = some (.int .i64 x3)∧w.cell? ⟨g,o + 4,none⟩ = some (.int .i64 x4)∧w.cell? ⟨g,o + 5,none⟩ = some (.bool x5)∧w.cell? ⟨g,o + 6,none⟩ = some (.int .i64 x6)
abbrev kqiiiiiib (w : World) (g : Nat) (x0 : Int) (x1 : Int) (x2 : Int) (x3 : Int) (x4 : Int) (x5 : Int) (x6 : Bool) (R : Prop) : Prop:=w.cell? ⟨g,0,none⟩ = some (.int .i64 x0)∧w.cell? ⟨g,1,none⟩ = some (.int .i64 x1)∧w.cell? ⟨g,2,none⟩ = some (.int .i64 x2)∧w.cell? ⟨g,3,none⟩ = some (.int .i64 x3)∧w.cell? ⟨g,4,none⟩ = some (.int .i64 x4)∧w.cell? ⟨g,5,none⟩ = some (.int .i64 x5)∧w.cell? ⟨g,6,none⟩ = some (.bool x6)∧R
abbrev kqiiiiiib_ (w : World) (g : Nat) (x0 : Int) (x1 : Int) (x2 : Int) (x3 : Int) (x4 : Int) (x5 : Int) (x6 : Bool) : Prop:=w.cell? ⟨g,0,none⟩ = some (.int .i64 x0)∧w.cell? ⟨g,1,none⟩ = some (.int .i64 x1)∧w.cell? ⟨g,2,none⟩ = some (.int .i64 x2)∧w.cell? ⟨g,3,none⟩ = some (.int .i64 x3)∧w.cell? ⟨g,4,none⟩ = some (.int .i64 x4)∧w.cell? ⟨g,5,none⟩ = some (.int .i64 x5)∧w.cell? ⟨g,6,none⟩ = some (.bool x6)
abbrev kqiiiiiii (w : World) (g : Nat) (x0 : Int) (x1 : Int) (x2 : Int) (x3 : Int) (x4 : Int) (x5 : Int) (x6 : Int) (R : Prop) : Prop:=w.cell? ⟨g,0,none⟩ = some (.int .i64 x0)∧w.cell? ⟨g,1,none⟩ = some (.int .i64 x1)∧w.cell? ⟨g,2,none⟩ = some (.int .i64 x2)∧w.cell? ⟨g,3,none⟩ = some (.int .i64 x3)∧w.cell? ⟨g,4,none⟩ = some (.int .i64 x4)∧w.cell? ⟨g,5,none⟩ = some (.int .i64 x5)∧w.cell? ⟨g,6,none⟩ = some (.int .i64 x6)∧R
abbrev kqiiiiiii_ (w : World) (g : Nat) (x0 : Int) (x1 : Int) (x2 : Int) (x3 : Int) (x4 : Int) (x5 : Int) (x6 : Int) : Prop:=w.cell? ⟨g,0,none⟩ = some (.int .i64 x0)∧w.cell? ⟨g,1,none⟩ = some (.int .i64 x1)∧w.cell? ⟨g,2,none⟩ = some (.int .i64 x2)∧w.cell? ⟨g,3,none⟩ = some (.int .i64 x3)∧w.cell? ⟨g,4,none⟩ = some (.int .i64 x4)∧w.cell? ⟨g,5,none⟩ = some (.int .i64 x5)∧w.cell? ⟨g,6,none⟩ = some (.int .i64 x6)
abbrev kqiiiiiiio (w : World) (g o : Nat) (x0 : Int) (x1 : Int) (x2 : Int) (x3 : Int) (x4 : Int) (x5 : Int) (x6 : Int) (R : Prop) : Prop:=w.cell? ⟨g,o,none⟩ = some (.int .i64 x0)∧w.cell? ⟨g,o + 1,none⟩ = some (.int .i64 x1)∧w.cell? ⟨g,o + 2,none⟩ = some (.int .i64 x2)∧w.cell? ⟨g,o + 3,none⟩ = some (.int .i64 x3)∧w.cell? ⟨g,o + 4,none⟩ = some (.int .i64 x4)∧w.cell? ⟨g,o + 5,none⟩ = some (.int .i64 x5)∧w.cell? ⟨g,o + 6,none⟩ = some (.int .i64 x6)∧R
abbrev kqiiiiiiio_ (w : World) (g o : Nat) (x0 : Int) (x1 : Int) (x2 : Int) (x3 : Int) (x4 : Int) (x5 : Int) (x6 : Int) : Prop:=w.cell? ⟨g,o,none⟩ = some (.int .i64 x0)∧w.cell? ⟨g,o + 1,none⟩ = some (.int .i64 x1)∧w.cell? ⟨g,o + 2,none⟩ = some (.int .i64 x2)∧w.cell? ⟨g,o + 3,none⟩ = some (.int .i64 x3)∧w.cell? ⟨g,o + 4,none⟩ = some (.int .i64 x4)∧w.cell? ⟨g,o + 5,none⟩ = some (.int .i64 x5)∧w.cell? ⟨g,o + 6,none⟩ = some (.int .i64 x6)
abbrev kqiiisss (w : World) (g : Nat) (x0 : Int) (x1 : Int) (x2 : Int) (x3 : Option Addr) (y3 z3 : Nat) (x4 : Option Addr) (y4 z4 : Nat) (x5 : Option Addr) (y5 z5 : Nat) (R : Prop) : Prop:=w.cell? ⟨g,0,none⟩ = some (.int .i64 x0)∧w.cell? ⟨g,1,none⟩ = some (.int .i64 x1)∧w.cell? ⟨g,2,none⟩ = some (.int .i64 x2)∧w.cell? ⟨g,3,none⟩ = some (.slice x3 y3 z3)∧w.cell? ⟨g,4,none⟩ = some (.slice x4 y4 z4)∧w.cell? ⟨g,5,none⟩ = some (.slice x5 y5 z5)∧R
abbrev kqiiissss (w : World) (g : Nat) (x0 : Int) (x1 : Int) (x2 : Int) (x3 : Option Addr) (y3 z3 : Nat) (x4 : Option Addr) (y4 z4 : Nat) (x5 : Option Addr) (y5 z5 : Nat) (x6 : Option Addr) (y6 z6 : Nat) (R : Prop) : Prop:=w.cell? ⟨g,0,none⟩ = some (.int .i64 x0)∧w.cell? ⟨g,1,none⟩ = some (.int .i64 x1)∧w.cell? ⟨g,2,none⟩ = some (.int .i64 x2)∧w.cell? ⟨g,3,none⟩ = some (.slice x3 y3 z3)∧w.cell? ⟨g,4,none⟩ = some (.slice x4 y4 z4)∧w.cell? ⟨g,5,none⟩ = some (.slice x5 y5 z5)∧w.cell? ⟨g,6,none⟩ = some (.slice x6 y6 z6)∧R
abbrev kqiiissssi_ (w : World) (g : Nat) (x0 : Int) (x1 : Int) (x2 : Int) (x3 : Option Addr) (y3 z3 : Nat) (x4 : Option Addr) (y4 z4 : Nat) (x5 : Option Addr) (y5 z5 : Nat) (x6 : Option Addr) (y6 z6 : Nat) (x7 : Int) : Prop:=w.cell? ⟨g,0,none⟩ = some (.int .i64 x0)∧w.cell? ⟨g,1,none⟩ = some (.int .i64 x1)∧w.cell? ⟨g,2,none⟩ = some (.int .i64 x2)∧w.cell? ⟨g,3,none⟩ = some (.slice x3 y3 z3)∧w.cell? ⟨g,4,none⟩ = some (.slice x4 y4 z4)∧w.cell? ⟨g,5,none⟩ = some (.slice x5 y5 z5)∧w.cell? ⟨g,6,none⟩ = some (.slice x6 y6 z6)∧w.cell? ⟨g,7,none⟩ = some (.int .i64 x7)
abbrev kqio (w : World) (g o : Nat) (x0 : Int) (R : Prop) : Prop:=w.cell? ⟨g,o,none⟩ = some (.int .i64 x0)∧R
abbrev kqio_ (w : World) (g o : Nat) (x0 : Int) : Prop:=w.cell? ⟨g,o,none⟩ = some (.int .i64 x0)
abbrev kqis (w : World) (g : Nat) (x0 : Int) (x1 : Option Addr) (y1 z1 : Nat) (R : Prop) : Prop:=w.cell? ⟨g,0,none⟩ = some (.int .i64 x0)∧w.cell? ⟨g,1,none⟩ = some (.slice x1 y1 z1)∧R
abbrev kqis_ (w : World) (g : Nat) (x0 : Int) (x1 : Option Addr) (y1 z1 : Nat) : Prop:=w.cell? ⟨g,0,none⟩ = some (.int .i64 x0)∧w.cell? ⟨g,1,none⟩ = some (.slice x1 y1 z1)
abbrev kqs (w : World) (g : Nat) (x0 : Option Addr) (y0 z0 : Nat) (R : Prop) : Prop:=w.cell? ⟨g,0,none⟩ = some (.slice x0 y0 z0)∧R
abbrev kqso (w : World) (g o : Nat) (x0 : Option Addr) (y0 z0 : Nat) (R : Prop) : Prop:=w.cell? ⟨g,o,none⟩ = some (.slice x0 y0 z0)∧R
abbrev qabbbbbb (x0 : Bool) (x1 : Bool) (x2 : Bool) (x3 : Bool) (x4 : Bool) (x5 : Bool) : Array Value:=#[.bool x0,.bool x1,.bool x2,.bool x3,.bool x4,.bool x5]
abbrev qaiiii (x0 : Int) (x1 : Int) (x2 : Int) (x3 : Int) : Array Value:=#[.int .i64 x0,.int .i64 x1,.int .i64 x2,.int .i64 x3]
abbrev qaiiiii (x0 : Int) (x1 : Int) (x2 : Int) (x3 : Int) (x4 : Int) : Array Value:=#[.int .i64 x0,.int .i64 x1,.int .i64 x2,.int .i64 x3,.int .i64 x4]
abbrev qaiiiiibi (x0 : Int) (x1 : Int) (x2 : Int) (x3 : Int) (x4 : Int) (x5 : Bool) (x6 : Int) : Array Value:=#[.int .i64 x0,.int .i64 x1,.int .i64 x2,.int .i64 x3,.int .i64 x4,.bool x5,.int .i64 x6]
abbrev qaiiiiiib (x0 : Int) (x1 : Int) (x2 : Int) (x3 : Int) (x4 : Int) (x5 : Int) (x6 : Bool) : Array Value:=#[.int .i64 x0,.int .i64 x1,.int .i64 x2,.int .i64 x3,.int .i64 x4,.int .i64 x5,.bool x6]
abbrev qaiiiiiii (x0 : Int) (x1 : Int) (x2 : Int) (x3 : Int) (x4 : Int) (x5 : Int) (x6 : Int) : Array Value:=#[.int .i64 x0,.int .i64 x1,.int .i64 x2,.int .i64 x3,.int .i64 x4,.int .i64 x5,.int .i64 x6]
abbrev qaiiisss (x0 : Int) (x1 : Int) (x2 : Int) (x3 : Option Addr) (y3 z3 : Nat) (x4 : Option Addr) (y4 z4 : Nat) (x5 : Option Addr) (y5 z5 : Nat) : Array Value:=#[.int .i64 x0,.int .i64 x1,.int .i64 x2,.slice x3 y3 z3,.slice x4 y4 z4,.slice x5 y5 z5]
theorem hd_ {a : Prop} (h : a) : Hid a:=Lib.hid h
/-! ### The row's last step -/
section
variable {H : Type} {enc : TypeId × Value → H} {P : Program}
theorem zhj {W W' : World} (hl : laidOutB P = true) (hb : Below W.heap.size W W') : ∀ (ts : List TypeId) (vs : List Value) (ds : List (DataW H)) (ps : List MemPlace),
  (ts.all fun t => P.readableRec t && decide (t < P.types.size)) = true → DataW.TrodAll enc P W 0 (fun _ => true) true ts vs ds ps → (∀ x ∈ ps,x.block < W.heap.size) →
  DataW.TrodAll enc P W' 0 (fun b => decide (b < W.heap.size)) true ts vs ds ps
 | [],[],[],_,_,h,_ => h
 | t :: ts,v :: vs,d :: ds,ps,hr,h,hlt => by
  obtain ⟨p,q,h1,h2,rfl⟩:=h
  simp only [List.all_cons,Bool.and_eq_true,decide_eq_true_eq] at hr
  exact ⟨p,q,Below.trod hl hr.1.1 hr.1.2 h1 hb (fun x hx => hlt x (by simp [hx])),zhj hl hb ts vs ds q hr.2 h2 (fun x hx => hlt x (by simp [hx])),rfl⟩
 | [],[],_ :: _,_,_,h,_ => h.elim
 | [],_ :: _,_,_,_,h,_ => h.elim
 | _ :: _,[],_,_,_,h,_ => h.elim
 | _ :: _,_ :: _,[],_,_,h,_ => h.elim
theorem law_post {f : Func} {s : ChangeSpec} {W W' : World} {args : Array Value} {ds gs : List (DataW H)} {before : List MemPlace} {tb : TypeId}
  (hl : laidOutB P = true) (hr : (f.params.toList.all fun t => P.readableRec t && decide (t < P.types.size)) = true) (hrt : f.resultTypes = #[tb]) (hub : P.underlying tb = some .bool)
  (hsv : s.vars = []) (hsf : ∀ ds' : List (DataW H),ds'.length = f.params.toList.length → s.fn H ds' = { results:=[.lit (.bool true)],args:=ds' })
  (hW : DataW.Whole enc P f.params.toList s.vars false W args.toList ds gs before) (hb : Below W.heap.size W W') :
  s.post enc P f false true false false W args (.bool true) W':=by
 have hlt:=fun p hp => hW.lt p hp
 obtain ⟨p,q,hA,hV,rfl,hfz,hnd⟩:=hW
 rw [hsv] at hV
 obtain ⟨rfl,rfl⟩:=trodVars_none hV
 have hlen : ∀ (ts : List TypeId) (vs : List Value) (xs : List (DataW H)) (ps : List MemPlace),DataW.TrodAll enc P W 0 (fun _ => true) true ts vs xs ps → xs.length = ts.length:=by
  intro ts
  induction ts with
  | nil => intro vs xs ps h;cases vs <;> cases xs <;> first | rfl | exact h.elim
  | cons t ts ih =>
   intro vs xs ps h
   cases vs with
   | nil => exact h.elim
   | cons v vs =>
    cases xs with
    | nil => exact h.elim
    | cons x xs =>
     obtain ⟨_,_,_,h2,_⟩:=h
     simp [ih vs xs _ h2]
 have hs:=hsf (ds ++ []) (by simpa using hlen _ _ _ _ hA)
 refine ⟨ds,[],p ++ [],[],p,[],⟨p,[],hA,by rw [hsv];exact hV,rfl,hfz,hnd⟩,?_,?_,?_,World.keptBut_mono (fun x hx => ⟨hx,Or.inr (Or.inl (by simpa using hx))⟩) (hb.frame (· ∈ p ++ [])),fun h => by cases h⟩
 ·
  rw [hs,hrt]
  exact trodAll_mk1 (shut_bool hub _)
 ·
  rw [hs]
  simp only [List.append_nil]
  exact zhj hl hb _ _ _ _ hr hA (fun x hx => hlt x (by simpa using hx))
 rw [hs,hsv]
 rfl
end
/-! ### Flat types: integers, bools, structs of such. 'kinds': one letter a cell: true: an int; false: a bool -/
def flat : List Bool → List Value → Prop
 | [],[] => True
 | true :: ks,v :: vs => (∃ z : Int,v = .int .i64 z∧(Lit.int .i64 z).wf = true)∧flat ks vs
 | false :: ks,v :: vs => (∃ b : Bool,v = .bool b)∧flat ks vs
 | _,_ => False
section
variable {H : Type} {enc : TypeId × Value → H} {P : Program} {w : World} {base : Nat} {spare : Nat → Bool} {held : Bool}
end
/-! ### Slices whose elements are rows of cells -/
def Rd (w : World) (B size : Nat) (A : Option Addr) (rows : List (List Value)) : Prop :=
 (∀ r ∈ rows,r.length = size)∧(0 < rows.length → ∃ b off,A = some ⟨b,off,none⟩∧b < B∧∀ i r j v,rows[i]? = some r → r[j]? = some v → w.cell? ⟨b,off + i * size + j,none⟩ = some v)
section
variable {w w' : World} {B B' size : Nat} {A : Option Addr} {rows : List (List Value)}
theorem Rd.keep (h : Rd w B size A rows) (hk : ∀ p : Addr,p.block < B → w'.cell? p = w.cell? p) : Rd w' B size A rows :=
 ⟨h.1,fun hn => by
  obtain ⟨b,off,e,hb,hc⟩:=h.2 hn
  exact ⟨b,off,e,hb,fun i r j v h1 h2 => (hk _ hb).trans (hc i r j v h1 h2)⟩⟩
theorem Rd.more (h : Rd w B size A rows) (hB : B ≤ B') : Rd w B' size A rows :=
 ⟨h.1,fun hn => by
  obtain ⟨b,off,e,hb,hc⟩:=h.2 hn
  exact ⟨b,off,e,by omega,hc⟩⟩
theorem Rd.below (h : Rd w B size A rows) (hb : Below B w w') : Rd w' B size A rows:=h.keep fun _ hp => hb.cell hp
theorem Rd.nil_ : Rd w B size A []:=⟨by simp,fun h => absurd h (by simp)⟩
end
theorem zxy {ks : List Bool} {cs : List Value} (h : flat (true :: ks) cs) : ∃ z cs',cs = .int .i64 z :: cs'∧flat ks cs':=by
 cases cs with
 | nil => exact h.elim
 | cons c cs => obtain ⟨⟨z,rfl,_⟩,h2⟩:=h;exact ⟨z,cs,rfl,h2⟩
theorem flat_b {ks : List Bool} {cs : List Value} (h : flat (false :: ks) cs) : ∃ z cs',cs = .bool z :: cs'∧flat ks cs':=by
 cases cs with
 | nil => exact h.elim
 | cons c cs => obtain ⟨⟨z,rfl⟩,h2⟩:=h;exact ⟨z,cs,rfl,h2⟩
theorem zwb {cs : List Value} (h : flat [] cs) : cs = []:=by
 cases cs with
 | nil => rfl
 | cons c cs => exact h.elim
/-! ### Small words -/
theorem zqf {a b : Bool} (h : a = b) : Ending.returned (.bool a) = .returned (.bool b):=by rw [h]
theorem zxc {k : IntKind} {a b : Int} (h : a = b) : Ending.returned (.int k a) = .returned (.int k b):=by rw [h]
theorem zkm {B : Nat} {a w : World} (h : Below B a w) (n : Nat) : Below B a (w.drewN n):=⟨h.os,h.tape,h.output,h.size,h.block⟩
theorem zqc {w : World} {g : Nat} {t : TypeId} {cs : Array Value} (h : w.heap[g]? = some (.cells cs t (0,0))) (i : Nat) : w.cell? ⟨g,i,none⟩ = cs[i]?:=cell_of_row w g i cs t (0,0) h
theorem zqm {w : World} {g : Nat} {t : TypeId} {cs : Array Value} (h : w.heap[g]? = some (.cells cs t (0,0))) (i : Nat) : w.frozen? ⟨g,i,none⟩ = false:=by
 simp [World.frozen?,h]
theorem box2_ {w : World} {g : Nat} {t : TypeId} {x0 x1 : Value} (h : w.heap[g]? = some (.cells #[x0,x1] t (0,0))) : w.cell? ⟨g,0,none⟩ = some x0∧w.cell? ⟨g,1,none⟩ = some x1∧(∀ i : Nat,w.frozen? ⟨g,i,none⟩ = false)∧g < w.heap.size :=
 ⟨zqc h 0,zqc h 1,zqm h,(Array.getElem?_eq_some_iff.1 h).1⟩
theorem box6_ {w : World} {g : Nat} {t : TypeId} {x0 x1 x2 x3 x4 x5 : Value} (h : w.heap[g]? = some (.cells #[x0,x1,x2,x3,x4,x5] t (0,0))) : w.cell? ⟨g,0,none⟩ = some x0∧w.cell? ⟨g,1,none⟩ = some x1∧w.cell? ⟨g,2,none⟩ = some x2∧w.cell? ⟨g,3,none⟩ = some x3∧w.cell? ⟨g,4,none⟩ = some x4∧w.cell? ⟨g,5,none⟩ = some x5∧(∀ i : Nat,w.frozen? ⟨g,i,none⟩ = false)∧g < w.heap.size :=
 ⟨zqc h 0,zqc h 1,zqc h 2,zqc h 3,zqc h 4,zqc h 5,zqm h,(Array.getElem?_eq_some_iff.1 h).1⟩
theorem zma (w : World) (o : Obj) (n : Nat) : (w.alloc o).heap[n]? = if n = w.heap.size then some o else w.heap[n]?:=by
 show (w.heap.push o)[n]? = _
 rw [Array.getElem?_push]
theorem zqi {w : World} {o : Obj} {n : Nat} (h : n = w.heap.size) : (w.alloc o).heap[n]? = some o:=by rw [zma,if_pos h]
theorem zqd {w : World} {o : Obj} {n : Nat} {x : Obj} (h : n < w.heap.size) (k : w.heap[n]? = some x) : (w.alloc o).heap[n]? = some x:=by rw [zma,if_neg (by omega)];exact k
theorem zjp {w : World} {a : Addr} {u : Value} {n : Nat} {x : Obj} (h : n ≠ a.block) (k : w.heap[n]? = some x) : (w.setCell a u).heap[n]? = some x:=(Below.heap_setCell w a u n h).trans k
theorem zqa {w : World} {g i : Nat} {u : Value} {t : TypeId} {cs : Array Value} (k : w.heap[g]? = some (.cells cs t (0,0))) : (w.setCell ⟨g,i,none⟩ u).heap[g]? = some (.cells (cs.setIfInBounds i u) t (0,0)):=by
 simp [World.setCell,Array.getElem?_modify,k]
theorem zxz {w : World} {n : Nat} {x : Obj} (k : w.heap[n]? = some x) : w.drew.heap[n]? = some x:=k
theorem zxs {w : World} {n m : Nat} {x : Obj} (k : w.heap[n]? = some x) : (w.drewN m).heap[n]? = some x:=k
theorem zqr {W w : World} {B n : Nat} {x : Obj} (hb : Below B W w) (h : n < B) (k : W.heap[n]? = some x) : w.heap[n]? = some x:=(hb.block n h).trans k
theorem bl_ {B : Nat} {w w' : World} (h : Below B w w':=by (first | ((repeat' first | (with_reducible (first | exact Below.refl _ _ | assumption | refine Below.setCell ?_ ?_ _ | refine Below.alloc ?_ ?_ _ | refine Below.drew ?_ | refine zkm ?_ _ | refine Below.trans ?_ (Below.mono (by assumption) ?_))) | omega | (simp;omega) | (simp;done));done) | (repeat' first | exact Below.refl _ _ | assumption | refine Below.setCell ?_ (by first | omega | (simp;omega) | (simp;done)) _ | refine Below.alloc ?_ (by first | omega | (simp;omega) | (simp;done)) _ | refine Below.drew ?_ | refine zkm ?_ _ | refine Below.trans ?_ (Below.mono (by assumption) (by first | omega | (simp;omega) | (simp;done)))))) : Below B w w':=h
theorem hp_ {w : World} {n : Nat} {x : Obj} (h : w.heap[n]? = some x:=by (first | ((repeat' first | (with_reducible (first | assumption | (refine zqi ?_;(first | rfl | (simp;done))) | refine zxz ?_ | refine zxs ?_ | refine zqd ?_ ?_ | refine zjp ?_ ?_)) | (simp;done) | (simp;omega));done) | (repeat' first | assumption | (refine zqi ?_;(simp;done)) | refine zxz ?_ | refine zxs ?_ | (refine zqd ?_ ?_ <;> try (simp;done)) | (refine zjp ?_ ?_ <;> try (simp;done))))) : w.heap[n]? = some x:=h
section
variable {W w1 : World} {g : Nat} {t : TypeId} {a b c d e f h : Value}
theorem own2 (hb : Below W.heap.size W w1) (hg : g < W.heap.size) (hk : W.heap[g]? = some (.cells #[a,b] t (0,0))) :
  w1.heap[g]? = some (.cells #[a,b] t (0,0))∧w1.cell? ⟨g,0,none⟩ = some a∧w1.cell? ⟨g,1,none⟩ = some b∧(∀ i,w1.frozen? ⟨g,i,none⟩ = false)∧g < w1.heap.size:=by
 have k:=(hb.block g hg).trans hk
 exact ⟨k,zqc k 0,zqc k 1,zqm k,Nat.lt_of_lt_of_le hg hb.size⟩
theorem own3 (hb : Below W.heap.size W w1) (hg : g < W.heap.size) (hk : W.heap[g]? = some (.cells #[a,b,c] t (0,0))) :
  w1.heap[g]? = some (.cells #[a,b,c] t (0,0))∧w1.cell? ⟨g,0,none⟩ = some a∧w1.cell? ⟨g,1,none⟩ = some b∧w1.cell? ⟨g,2,none⟩ = some c∧(∀ i,w1.frozen? ⟨g,i,none⟩ = false)∧g < w1.heap.size:=by
 have k:=(hb.block g hg).trans hk
 exact ⟨k,zqc k 0,zqc k 1,zqc k 2,zqm k,Nat.lt_of_lt_of_le hg hb.size⟩
theorem own5 (hb : Below W.heap.size W w1) (hg : g < W.heap.size) (hk : W.heap[g]? = some (.cells #[a,b,c,d,e] t (0,0))) :
  w1.heap[g]? = some (.cells #[a,b,c,d,e] t (0,0))∧w1.cell? ⟨g,0,none⟩ = some a∧w1.cell? ⟨g,1,none⟩ = some b∧w1.cell? ⟨g,2,none⟩ = some c∧w1.cell? ⟨g,3,none⟩ = some d∧w1.cell? ⟨g,4,none⟩ = some e∧(∀ i,w1.frozen? ⟨g,i,none⟩ = false)∧g < w1.heap.size:=by
 have k:=(hb.block g hg).trans hk
 exact ⟨k,zqc k 0,zqc k 1,zqc k 2,zqc k 3,zqc k 4,zqm k,Nat.lt_of_lt_of_le hg hb.size⟩
theorem own6 (hb : Below W.heap.size W w1) (hg : g < W.heap.size) (hk : W.heap[g]? = some (.cells #[a,b,c,d,e,f] t (0,0))) :
  w1.heap[g]? = some (.cells #[a,b,c,d,e,f] t (0,0))∧w1.cell? ⟨g,0,none⟩ = some a∧w1.cell? ⟨g,1,none⟩ = some b∧w1.cell? ⟨g,2,none⟩ = some c∧w1.cell? ⟨g,3,none⟩ = some d∧w1.cell? ⟨g,4,none⟩ = some e∧w1.cell? ⟨g,5,none⟩ = some f∧(∀ i,w1.frozen? ⟨g,i,none⟩ = false)∧g < w1.heap.size:=by
 have k:=(hb.block g hg).trans hk
 exact ⟨k,zqc k 0,zqc k 1,zqc k 2,zqc k 3,zqc k 4,zqc k 5,zqm k,Nat.lt_of_lt_of_le hg hb.size⟩
theorem own7 (hb : Below W.heap.size W w1) (hg : g < W.heap.size) (hk : W.heap[g]? = some (.cells #[a,b,c,d,e,f,h] t (0,0))) :
  w1.heap[g]? = some (.cells #[a,b,c,d,e,f,h] t (0,0))∧w1.cell? ⟨g,0,none⟩ = some a∧w1.cell? ⟨g,1,none⟩ = some b∧w1.cell? ⟨g,2,none⟩ = some c∧w1.cell? ⟨g,3,none⟩ = some d∧w1.cell? ⟨g,4,none⟩ = some e∧w1.cell? ⟨g,5,none⟩ = some f∧w1.cell? ⟨g,6,none⟩ = some h∧(∀ i,w1.frozen? ⟨g,i,none⟩ = false)∧g < w1.heap.size:=by
 have k:=(hb.block g hg).trans hk
 exact ⟨k,zqc k 0,zqc k 1,zqc k 2,zqc k 3,zqc k 4,zqc k 5,zqc k 6,zqm k,Nat.lt_of_lt_of_le hg hb.size⟩
theorem ownG6 {row : Option Nat} (hb : W.grownBy w1 row) (hne : some g ≠ row) (hk : W.heap[g]? = some (.cells #[a,b,c,d,e,f] t (0,0))) :
  w1.heap[g]? = some (.cells #[a,b,c,d,e,f] t (0,0))∧w1.cell? ⟨g,0,none⟩ = some a∧w1.cell? ⟨g,1,none⟩ = some b∧w1.cell? ⟨g,2,none⟩ = some c∧w1.cell? ⟨g,3,none⟩ = some d∧w1.cell? ⟨g,4,none⟩ = some e∧w1.cell? ⟨g,5,none⟩ = some f∧(∀ i,w1.frozen? ⟨g,i,none⟩ = false)∧g < w1.heap.size:=by
 have hg:=(gz_ hk).1
 have k:=(hb.block g hg hne).trans hk
 exact ⟨k,zqc k 0,zqc k 1,zqc k 2,zqc k 3,zqc k 4,zqc k 5,zqm k,Nat.lt_of_lt_of_le hg hb.size⟩
end
/-! ### Rows of cells laid flat -/
theorem zqw : ∀ (rows : List (List Value)) (size : Nat),(∀ r ∈ rows,r.length = size) → ∀ (i j : Nat) (r : List Value),rows[i]? = some r → j < size → rows.flatten[i * size + j]? = r[j]?
 | [],_,_,_,_,_,h,_ => by simp at h
 | r0 :: rows,size,hu,0,j,r,h,hj => by
  simp only [List.getElem?_cons_zero,Option.some.injEq] at h
  subst h
  rw [List.flatten_cons,Nat.zero_mul,Nat.zero_add,List.getElem?_append_left (by rw [hu r0 (by simp)];exact hj)]
 | r0 :: rows,size,hu,i + 1,j,r,h,hj => by
  have h0:=hu r0 (by simp)
  rw [List.flatten_cons,List.getElem?_append_right (by rw [h0,Nat.succ_mul];omega),h0,show (i + 1) * size + j - size = i * size + j by rw [Nat.succ_mul];omega]
  exact zqw rows size (fun r hr => hu r (by simp [hr])) i j r (by simpa using h) hj
theorem zxt : ∀ (rows : List (List Value)) (size : Nat),(∀ r ∈ rows,r.length = size) → rows.flatten.length = rows.length * size
 | [],size,_ => by simp
 | r :: rows,size,hu => by
  rw [List.flatten_cons,List.length_append,zxt rows size (fun r hr => hu r (by simp [hr])),hu r (by simp),List.length_cons,Nat.succ_mul];omega
def Ow (w : World) (B : Nat) (e : TypeId) (size : Nat) (v : Value) (rows : List (List Value)) : Prop:=(∀ r ∈ rows,r.length = size)∧w.ownsRow B e size v rows.length rows.flatten
section
variable {w w' : World} {B B' size : Nat} {e : TypeId} {v : Value} {rows : List (List Value)}
theorem Ow.nil_ : Ow w B e size (.slice none 0 0) []:=⟨by simp,World.ownsRow_nil _ _ _ _⟩
theorem Ow.below (h : Ow w B e size v rows) (hb : Below w.heap.size w w') : Ow w' B e size v rows:=by
 refine ⟨h.1,h.2.1,?_⟩
 rcases h.2.2 with hn | ⟨g,cap,cur,rfl,hg,hh,r⟩
 ·
  exact .inl hn
 exact .inr ⟨g,cap,cur,rfl,hg,(hb.block g (gz_ hh).1).trans hh,r⟩
theorem Ow.more (h : Ow w B e size v rows) (hB : B' ≤ B) : Ow w B' e size v rows:=by
 refine ⟨h.1,h.2.1,?_⟩
 rcases h.2.2 with hn | ⟨g,cap,cur,rfl,hg,r⟩
 ·
  exact .inl hn
 exact .inr ⟨g,cap,cur,rfl,by omega,r⟩
theorem Ow.form (h : Ow w B e size v rows) : ∃ A cap,v = .slice A rows.length cap∧Rd w w.heap.size size A rows∧rows.length ≤ cap∧cap ≤ maxLen:=by
 rcases h.2.2 with ⟨rfl,h0⟩ | ⟨g,cap,cur,rfl,hg,hh,hn,hm,hs,ht⟩
 ·
  have : rows = []:=List.eq_nil_of_length_eq_zero h0
  subst this
  exact ⟨none,0,rfl,Rd.nil_,Nat.le_refl _,Nat.zero_le _⟩
 refine ⟨_,cap,rfl,⟨h.1,fun _ => ⟨g,0,rfl,(gz_ hh).1,?_⟩⟩,hn,hm⟩
 intro i r j u hr hu
 have hj : j < size:=by
  have:=(List.getElem?_eq_some_iff.1 hu).1
  rwa [h.1 r (List.mem_of_getElem? hr)] at this
 have hil:=(List.getElem?_eq_some_iff.1 hr).1
 have hf:=zqw rows size h.1 i j r hr hj
 rw [← ht,List.getElem?_take,if_pos (by
  have : (i + 1) * size ≤ rows.length * size:=Nat.mul_le_mul_right _ hil
  rw [Nat.succ_mul] at this
  omega)] at hf
 rw [Nat.zero_add,cell_of_row w g _ cur e (0,0) hh,← hu,← hf]
 simp
end
theorem Ow.rd {w : World} {B size n cap : Nat} {e : TypeId} {A : Option Addr} {rows : List (List Value)} (h : Ow w B e size (.slice A n cap) rows) : Rd w w.heap.size size A rows:=by
 obtain ⟨A',cap',hv,hr,_⟩:=h.form
 injection hv with h1
 rw [h1]
 exact hr
theorem Ow.far {w : World} {B size : Nat} {e : TypeId} {v : Value} {rows : List (List Value)} (h : Ow w B e size v rows) {a : Addr} (ha : a.block < B) (u : Value) : Ow (w.setCell a u) B e size v rows:=⟨h.1,ownsRow_setCell_below h.2 ha u⟩
theorem Ow.alloc {w : World} {B size : Nat} {e : TypeId} {v : Value} {rows : List (List Value)} (h : Ow w B e size v rows) (o : Obj) : Ow (w.alloc o) B e size v rows:=⟨h.1,h.2.alloc o⟩
theorem zqh {P : Program} {f : FuncId} {args : Array Value} {w : World} {n : Nat} {v : Value}
  (h : Calls P f args (w.drewN n) fun e w' => e = .returned v∧w.drewN n = w') : Calls P f args (w.drewN n) fun e w'' => e = .returned v∧∃ m,w'' = w.drewN m :=
 h.mono fun _ _ ⟨he,hw⟩ => ⟨he,n,hw.symm⟩
/-! ### A block that is being filled, cell by cell -/
def Fill (w : World) (g : Nat) (e : TypeId) (N c : Nat) (xs : List Value) : Prop :=
 ∃ cs : Array Value,w.heap[g]? = some (.cells cs e (0,0))∧cs.size = N∧∀ j,j < c → cs[j]? = xs[j]?
section
variable {w w' : World} {g N c : Nat} {e : TypeId} {xs : List Value}
theorem Fill.below {B : Nat} (h : Fill w g e N c xs) (hb : Below B w w') (hg : g < B) : Fill w' g e N c xs:=by
 obtain ⟨cs,hh,r⟩:=h
 exact ⟨cs,(hb.block g hg).trans hh,r⟩
theorem Fill.lt (h : Fill w g e N c xs) : g < w.heap.size:=by
 obtain ⟨cs,hh,_⟩:=h
 exact (gz_ hh).1
theorem Fill.cell (h : Fill w g e N c xs) {j : Nat} (hj : j < N) : ∃ v,w.cell? ⟨g,j,none⟩ = some v:=by
 obtain ⟨cs,hh,hs,_⟩:=h
 exact ⟨cs[j],by rw [zqc hh,Array.getElem?_eq_getElem]⟩
theorem Fill.frozen (h : Fill w g e N c xs) (j : Nat) : w.frozen? ⟨g,j,none⟩ = false:=by
 obtain ⟨cs,hh,_⟩:=h
 exact zqm hh j
theorem Fill.set (h : Fill w g e N c xs) {v : Value} (hv : xs[c]? = some v) (hc : c < N) : Fill (w.setCell ⟨g,c,none⟩ v) g e N (c + 1) xs:=by
 obtain ⟨cs,hh,hs,hx⟩:=h
 refine ⟨_,zqa hh,by simpa using hs,fun j hj => ?_⟩
 by_cases hjc : j = c
 ·
  subst hjc
  rw [Array.getElem?_setIfInBounds_self,if_pos (by omega),hv]
 rw [Array.getElem?_setIfInBounds_ne (by omega)]
 exact hx j (by omega)
theorem Fill.far (h : Fill w g e N c xs) {p : Addr} (hp : g ≠ p.block) (u : Value) : Fill (w.setCell p u) g e N c xs:=by
 obtain ⟨cs,hh,r⟩:=h
 exact ⟨cs,zjp hp hh,r⟩
theorem Fill.alloc (h : Fill w g e N c xs) (o : Obj) : Fill (w.alloc o) g e N c xs:=by
 obtain ⟨cs,hh,r⟩:=h
 exact ⟨cs,zqd (gz_ hh).1 hh,r⟩
theorem Fill.ow {B size : Nat} {rows : List (List Value)} (h : Fill w g e (rows.length * size) (rows.length * size) rows.flatten) (hu : ∀ r ∈ rows,r.length = size) (hB : B ≤ g) (hm : rows.length ≤ maxLen) :
  Ow w B e size (.slice (some ⟨g,0,none⟩) rows.length rows.length) rows:=by
 obtain ⟨cs,hh,hs,hx⟩:=h
 refine ⟨hu,zxt rows size hu,.inr ⟨g,rows.length,cs,rfl,hB,hh,Nat.le_refl _,hm,hs,?_⟩⟩
 apply List.ext_getElem?
 intro j
 rw [List.getElem?_take]
 by_cases hj : j < rows.length * size
 ·
  rw [if_pos hj,← hx j hj]
  simp
 rw [if_neg hj,List.getElem?_eq_none (by rw [zxt rows size hu];omega)]
end
/-! ### Only the block of one slice has turned -/
theorem Ow.block {w : World} {B size : Nat} {e : TypeId} {v : Value} {rows : List (List Value)} (h : Ow w B e size v rows) : ∀ k,v.ownBlock = some k → B ≤ k∧k < w.heap.size:=h.2.lt
theorem Ow.ne_ {w : World} {B size k : Nat} {e t : TypeId} {v : Value} {rows : List (List Value)} {cs : Array Value} (h : Ow w B e size v rows) (hk : w.heap[k]? = some (.cells cs t (0,0))) (hne : e ≠ t) : some k ≠ v.ownBlock:=by
 rcases h.2.2 with ⟨rfl,_⟩ | ⟨g,cap,cur,rfl,_,hh,_⟩
 ·
  simp [Value.ownBlock]
 intro he
 have : k = g:=by simpa [Value.ownBlock] using he
 subst this
 rw [hk] at hh
 injection hh with hh
 injection hh with _ ht
 exact hne ht.symm
theorem Ow.grown {w w' : World} {B size : Nat} {e : TypeId} {v : Value} {rows : List (List Value)} {row : Option Nat} (h : Ow w B e size v rows) (hg : w.grownBy w' row) (hne : v.ownBlock = none ∨ v.ownBlock ≠ row) : Ow w' B e size v rows:=⟨h.1,h.2.kept hg hne⟩
theorem zqe {w w' : World} {row : Option Nat} {n : Nat} {x : Obj} (hg : w.grownBy w' row) (hne : some n ≠ row) (k : w.heap[n]? = some x) : w'.heap[n]? = some x :=
 (hg.block n (gz_ k).1 hne).trans k
theorem zwi {w w' : World} {row : Option Nat} (h : Below w.heap.size w w') : w.grownBy w' row:=⟨h.os,h.tape,h.output,h.size,fun k hk _ => h.block k hk⟩
theorem zqt {a b c : World} {row : Option Nat} (h : a.grownBy b row) (k : b.grownBy c row) : a.grownBy c row :=
 ⟨k.os.trans h.os,k.tape.trans h.tape,k.output.trans h.output,Nat.le_trans h.size k.size,fun i hi hne => (k.block i (Nat.lt_of_lt_of_le hi h.size) hne).trans (h.block i hi hne)⟩
theorem zqg {a w : World} {g : Nat} (h : a.grownBy w (some g)) (i : Nat) (u : Value) : a.grownBy (w.setCell ⟨g,i,none⟩ u) (some g) :=
 ⟨h.os,h.tape,h.output,by simpa [World.setCell] using h.size,fun k hk hne => (Below.heap_setCell w ⟨g,i,none⟩ u k (fun e => hne (by rw [e]))).trans (h.block k hk hne)⟩
def Marked (w : World) (A : Option Addr) (N : Nat) (k : Int) : Prop:=0 < N → ∃ g,A = some ⟨g,0,none⟩∧g < w.heap.size∧∀ j : Nat,j < N → w.cell? ⟨g,j,none⟩ = some (.int .i64 (k + j))
theorem Marked.below {w w' : World} {A : Option Addr} {N : Nat} {k : Int} (h : Marked w A N k) (hb : Below w.heap.size w w') : Marked w' A N k:=fun h0 => by
 obtain ⟨g,e,hg,hc⟩:=h h0
 exact ⟨g,e,Nat.lt_of_lt_of_le hg hb.size,fun j hj => (hb.cell (p:=⟨g,j,none⟩) hg).trans (hc j hj)⟩
theorem Ow.open_ {w : World} {B size : Nat} {e : TypeId} {v : Value} {rows : List (List Value)} (h : Ow w B e size v rows) :
  (rows = []∧v = .slice none 0 0) ∨ ∃ g cap,v = .slice (some ⟨g,0,none⟩) rows.length cap∧B ≤ g∧rows.length ≤ cap∧g < w.heap.size:=by
 rcases h.2.2 with ⟨rfl,h0⟩ | ⟨g,cap,cur,rfl,hb,hh,hn,_⟩
 ·
  exact .inl ⟨List.eq_nil_of_length_eq_zero h0,rfl⟩
 exact .inr ⟨g,cap,rfl,hb,hn,(gz_ hh).1⟩
/-! ### append of one row tq a slice of the call's own -/
theorem zqz {P : Program} {w : World} {ops : Array Oper} {rest : List Oper} {o : Oper} {a : Act} {Q : Exit → Act → World → Prop} (hgd : o.guard = none) (s x : Operand) (t : TypeId)
  (ho : o.op = .call { callee:=.builtin .append,args:=#[s,x],argTypes:=#[t,t] })
  (B : Nat) (e : TypeId) (i : TypeInfo) (z : Value) (size bytes : Nat) (ht : P.underlying t = some (.slice e)) (hi : P.info? e = some i) (hz : i.zero = some z)
  (hsize : i.size = size) (hby : i.bytes = bytes) (hzs : z.cells.size = size) (hsz : 0 < size)
  (v : Value) (rows : List (List Value)) (hs : a.eval s = v) (how : Ow w B e size v rows)
  (g0 c : Nat) (row : List Value) (e' : TypeId) (hx : a.eval x = .slice (some ⟨g0,0,none⟩) 1 c) (hblk : w.heap[g0]? = some (.cells row.toArray e' (0,0))) (hrow : row.length = size) (h1 : ∀ u ∈ row,u.oneCell' = true)
  (hlen : rows.length ≤ 4194304) (hbytes : bytes ≤ 4096) (hbase : B ≤ w.heap.size)
  (h : ∀ g cap w',Ow w' B e size (.slice (some ⟨g,0,none⟩) (rows.length + 1) cap) (rows ++ [row]) → w.grownBy w' v.ownBlock → (v.ownBlock = some g ∨ g = w.heap.size) → g < w'.heap.size →
   wpList P ops Q rest (a.put o.dst (.slice (some ⟨g,0,none⟩) (rows.length + 1) cap)) w') : wpList P ops Q (o :: rest) a w:=by
 refine wpList_append_lies w hgd s x t ho B e i z size bytes ht hi hz hsize hby hzs hsz v rows.length rows.flatten hs how.2 ⟨g0,0,none⟩ 1 c row hx (by rw [Nat.one_mul];exact hrow)
  (by have:=World.news_of_block hblk;simpa using this) h1 (by omega) (by unfold maxLen;omega) (by
   have : (rows.length + 1) * bytes ≤ 4194305 * 4096:=Nat.mul_le_mul (by omega) hbytes
   omega) hbase w.heap.size rfl ?_
 intro g cap w' hown hgr hat hlt
 refine h g cap w' ⟨?_,?_⟩ hgr hat hlt
 ·
  intro r hr
  rcases List.mem_append.1 hr with hr | hr
  ·
   exact how.1 r hr
  rw [List.mem_singleton.1 hr]
  exact hrow
 have e1 : (rows ++ [row]).length = rows.length + 1:=by simp
 have e2 : (rows ++ [row]).flatten = rows.flatten ++ row:=by simp
 rw [e1,e2]
 exact hown
/-! ### make of a slice whose elements are rows -/
theorem bc2_ {w : World} {g : Nat} {t : TypeId} {x0 x1 : Value} (h : w.heap[g]? = some (.cells #[x0,x1] t (0,0))) : (w.cell? ⟨g,0,none⟩ = some x0∧w.cell? ⟨g,1,none⟩ = some x1)∧(∀ i : Nat,w.frozen? ⟨g,i,none⟩ = false)∧g < w.heap.size:=⟨⟨zqc h 0,zqc h 1⟩,zqm h,(Array.getElem?_eq_some_iff.1 h).1⟩
theorem bc4_ {w : World} {g : Nat} {t : TypeId} {x0 x1 x2 x3 : Value} (h : w.heap[g]? = some (.cells #[x0,x1,x2,x3] t (0,0))) : (w.cell? ⟨g,0,none⟩ = some x0∧w.cell? ⟨g,1,none⟩ = some x1∧w.cell? ⟨g,2,none⟩ = some x2∧w.cell? ⟨g,3,none⟩ = some x3)∧(∀ i : Nat,w.frozen? ⟨g,i,none⟩ = false)∧g < w.heap.size:=⟨⟨zqc h 0,zqc h 1,zqc h 2,zqc h 3⟩,zqm h,(Array.getElem?_eq_some_iff.1 h).1⟩
theorem bc6_ {w : World} {g : Nat} {t : TypeId} {x0 x1 x2 x3 x4 x5 : Value} (h : w.heap[g]? = some (.cells #[x0,x1,x2,x3,x4,x5] t (0,0))) : (w.cell? ⟨g,0,none⟩ = some x0∧w.cell? ⟨g,1,none⟩ = some x1∧w.cell? ⟨g,2,none⟩ = some x2∧w.cell? ⟨g,3,none⟩ = some x3∧w.cell? ⟨g,4,none⟩ = some x4∧w.cell? ⟨g,5,none⟩ = some x5)∧(∀ i : Nat,w.frozen? ⟨g,i,none⟩ = false)∧g < w.heap.size:=⟨⟨zqc h 0,zqc h 1,zqc h 2,zqc h 3,zqc h 4,zqc h 5⟩,zqm h,(Array.getElem?_eq_some_iff.1 h).1⟩
theorem bc7_ {w : World} {g : Nat} {t : TypeId} {x0 x1 x2 x3 x4 x5 x6 : Value} (h : w.heap[g]? = some (.cells #[x0,x1,x2,x3,x4,x5,x6] t (0,0))) : (w.cell? ⟨g,0,none⟩ = some x0∧w.cell? ⟨g,1,none⟩ = some x1∧w.cell? ⟨g,2,none⟩ = some x2∧w.cell? ⟨g,3,none⟩ = some x3∧w.cell? ⟨g,4,none⟩ = some x4∧w.cell? ⟨g,5,none⟩ = some x5∧w.cell? ⟨g,6,none⟩ = some x6)∧(∀ i : Nat,w.frozen? ⟨g,i,none⟩ = false)∧g < w.heap.size:=⟨⟨zqc h 0,zqc h 1,zqc h 2,zqc h 3,zqc h 4,zqc h 5,zqc h 6⟩,zqm h,(Array.getElem?_eq_some_iff.1 h).1⟩
theorem bd2_ {w : World} {g : Nat} {t : TypeId} {x0 x1 : Value} (h : w.heap[g]? = some (.cells #[x0,x1] t (0,0))) : w.cell? ⟨g,0,none⟩ = some x0∧w.cell? ⟨g,1,none⟩ = some x1:=⟨zqc h 0,zqc h 1⟩
theorem bd5_ {w : World} {g : Nat} {t : TypeId} {x0 x1 x2 x3 x4 : Value} (h : w.heap[g]? = some (.cells #[x0,x1,x2,x3,x4] t (0,0))) : w.cell? ⟨g,0,none⟩ = some x0∧w.cell? ⟨g,1,none⟩ = some x1∧w.cell? ⟨g,2,none⟩ = some x2∧w.cell? ⟨g,3,none⟩ = some x3∧w.cell? ⟨g,4,none⟩ = some x4:=⟨zqc h 0,zqc h 1,zqc h 2,zqc h 3,zqc h 4⟩
theorem bd6_ {w : World} {g : Nat} {t : TypeId} {x0 x1 x2 x3 x4 x5 : Value} (h : w.heap[g]? = some (.cells #[x0,x1,x2,x3,x4,x5] t (0,0))) : w.cell? ⟨g,0,none⟩ = some x0∧w.cell? ⟨g,1,none⟩ = some x1∧w.cell? ⟨g,2,none⟩ = some x2∧w.cell? ⟨g,3,none⟩ = some x3∧w.cell? ⟨g,4,none⟩ = some x4∧w.cell? ⟨g,5,none⟩ = some x5:=⟨zqc h 0,zqc h 1,zqc h 2,zqc h 3,zqc h 4,zqc h 5⟩
theorem bd7_ {w : World} {g : Nat} {t : TypeId} {x0 x1 x2 x3 x4 x5 x6 : Value} (h : w.heap[g]? = some (.cells #[x0,x1,x2,x3,x4,x5,x6] t (0,0))) : w.cell? ⟨g,0,none⟩ = some x0∧w.cell? ⟨g,1,none⟩ = some x1∧w.cell? ⟨g,2,none⟩ = some x2∧w.cell? ⟨g,3,none⟩ = some x3∧w.cell? ⟨g,4,none⟩ = some x4∧w.cell? ⟨g,5,none⟩ = some x5∧w.cell? ⟨g,6,none⟩ = some x6:=⟨zqc h 0,zqc h 1,zqc h 2,zqc h 3,zqc h 4,zqc h 5,zqc h 6⟩
theorem opc_ {p0 p1 p2 p3 p4 p5 p6 p7 f z : Prop} (h : p0∧p1∧p2∧p3∧p4∧p5∧p6∧p7∧f∧z) : (p0∧p1∧p2∧p3∧p4∧p5∧p6∧p7)∧f∧z:=⟨⟨h.1,h.2.1,h.2.2.1,h.2.2.2.1,h.2.2.2.2.1,h.2.2.2.2.2.1,h.2.2.2.2.2.2.1,h.2.2.2.2.2.2.2.1⟩,h.2.2.2.2.2.2.2.2⟩
theorem opd_ {q p0 p1 p2 p3 p4 p5 p6 p7 f z : Prop} (h : q∧p0∧p1∧p2∧p3∧p4∧p5∧p6∧p7∧f∧z) : q∧(p0∧p1∧p2∧p3∧p4∧p5∧p6∧p7)∧f∧z:=⟨h.1,⟨h.2.1,h.2.2.1,h.2.2.2.1,h.2.2.2.2.1,h.2.2.2.2.2.1,h.2.2.2.2.2.2.1,h.2.2.2.2.2.2.2.1,h.2.2.2.2.2.2.2.2.1⟩,h.2.2.2.2.2.2.2.2.2⟩
theorem p87_ {p0 p1 p2 p3 p4 p5 p6 p7 : Prop} (h : p0∧p1∧p2∧p3∧p4∧p5∧p6∧p7) : p7:=h.2.2.2.2.2.2.2
theorem q5_ {p0 p1 p2 p3 p4 r : Prop} (h : p0∧p1∧p2∧p3∧p4) (k : r) : p0∧p1∧p2∧p3∧p4∧r:=⟨h.1,h.2.1,h.2.2.1,h.2.2.2.1,h.2.2.2.2,k⟩
theorem q6_ {p0 p1 p2 p3 p4 p5 r : Prop} (h : p0∧p1∧p2∧p3∧p4∧p5) (k : r) : p0∧p1∧p2∧p3∧p4∧p5∧r:=⟨h.1,h.2.1,h.2.2.1,h.2.2.2.1,h.2.2.2.2.1,h.2.2.2.2.2,k⟩
theorem q78_ {p0 p1 p2 p3 p4 p5 p6 p7 r : Prop} (h : p0∧p1∧p2∧p3∧p4∧p5∧p6∧p7) (k : r) : p0∧p1∧p2∧p3∧p4∧p5∧p6∧r:=⟨h.1,h.2.1,h.2.2.1,h.2.2.2.1,h.2.2.2.2.1,h.2.2.2.2.2.1,h.2.2.2.2.2.2.1,k⟩
theorem q7_ {p0 p1 p2 p3 p4 p5 p6 r : Prop} (h : p0∧p1∧p2∧p3∧p4∧p5∧p6) (k : r) : p0∧p1∧p2∧p3∧p4∧p5∧p6∧r:=⟨h.1,h.2.1,h.2.2.1,h.2.2.2.1,h.2.2.2.2.1,h.2.2.2.2.2.1,h.2.2.2.2.2.2,k⟩
theorem sn_ {a b : Nat} (h : Hid (a ≠ b)) : some a ≠ some b:=fun e => h.out (Option.some.inj e)
theorem hr_ {w w' : World} {k : Nat} {x : Obj} (hw : w.drew = w') (h : Hid (w.heap[k]? = some x)) : Hid (w'.heap[k]? = some x):=hw ▸ zxz h.out
theorem ha_ {w w' : World} {k : Nat} {x o : Obj} (hw : w' = w.alloc o) (h : Hid (w.heap[k]? = some x)) : Hid (w'.heap[k]? = some x):=hw ▸ zqd (Array.getElem?_eq_some_iff.1 h.out).1 h.out
theorem hb_ {w w' : World} {k : Nat} {x : Obj} (hb : Below w.heap.size w w') (h : Hid (w.heap[k]? = some x)) : Hid (w'.heap[k]? = some x):=zqr hb (Array.getElem?_eq_some_iff.1 h.out).1 h.out
theorem bld_ {B : Nat} {w0 w w' : World} (hw : w.drew = w') (h : Hid (Below B w0 w)) : Hid (Below B w0 w'):=hw ▸ h.out.drew
end Go.Proofs.YtdbmkfmenfcbiaaGreat
