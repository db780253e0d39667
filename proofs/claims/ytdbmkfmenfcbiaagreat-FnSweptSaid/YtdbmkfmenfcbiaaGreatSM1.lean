/- AccEq · Amt · Base2 · Bits · Last · Steady · Tk · App · BookF · Divp · Draw · Fr · Last2 · Line · Mul · Accs · App2 · App3 · Bookp · Div · LedgerF · Sq · Bk · BookA · BookU0 · LedgerM · Linesi · Liness · MulI · BookTi · BookTs · Led · OwB · UnderLaw · BookKs · Merge · Pst · BookG0 · BookH0: each text proves what its theorems say, with no conditions but theirs. -/
import Derived.Test.YtdbmkfmenfcbiaaGreatRows
import Derived.Test.YtdbmkfmenfcbiaaGreatSBase
import Derived.Laws.StructEq
import Derived.Laws.AppendOwnNone
import Derived.Lib.Mul64
import Derived.Laws.Bits64b
import Derived.Test.YtdbmkfmenfcbiaaGreatSLen
import Derived.Deep.RegionHeld3
import Derived.Still
import Derived.StillTail
import Derived.Deep.AppendLies
import Derived.StillTailTactics
import Derived.Lib.ItoaNum
import Derived.Deep.QuietTactic
import Derived.BigQuiet
import Derived.Laws.Bits128
import Derived.IntWalk
import Derived.Deep.Cut
import Derived.Deep.CutBlock
namespace Go.Proofs.YtdbmkfmenfcbiaaGreat
open Go.RowKit

theorem eq_acc (w : World) (a b k c : Int) : (binOp .eql 55 (.agg #[.int .i64 a,.int .i64 b]) (.agg #[.int .i64 k,.int .i64 c])).run Tryz.prog w = .ok (.bool (a == k && b == c)) w:=by
  rw [run_eql_struct,show (10000 : Nat) = 9999 + 1 from rfl,run_equalIn_struct w 9999 _ _ _ (by kernel_rfl) (by kernel_rfl)]
  cases h1 : (a == k) <;> cases h2 : (b == c) <;> simp [go_sem,h1,h2,Tryz.underlying55,Tryz.underlying3]
theorem neq_acc (w : World) (a b k c : Int) : (binOp .neq 55 (.agg #[.int .i64 a,.int .i64 b]) (.agg #[.int .i64 k,.int .i64 c])).run Tryz.prog w = .ok (.bool (!(a == k && b == c))) w:=by
  rw [run_neq_struct,show (10000 : Nat) = 9999 + 1 from rfl,run_equalIn_struct w 9999 _ _ _ (by kernel_rfl) (by kernel_rfl)]
  cases h1 : (a == k) <;> cases h2 : (b == c) <;> simp [go_sem,h1,h2,Tryz.underlying55,Tryz.underlying3]
theorem zme {a b k c : Int} (h : a = k∧b = c) : (a == k && b == c) = true:=by rw [h.1,h.2];simp
theorem zyg {a b k c : Int} (h : ¬(a = k∧b = c)) : (a == k && b == c) = false:=by
  rw [Bool.eq_false_iff]
  intro he
  rw [Bool.and_eq_true,beq_iff_eq,beq_iff_eq] at he
  exact h he
end Go.Proofs.YtdbmkfmenfcbiaaGreat
namespace Go.Proofs.YtdbmkfmenfcbiaaGreat
open Go.RowKit
def inB (n lo hi : Int) : Bool:=decide (lo ≤ n∧n ≤ hi)
theorem zxx {n lo hi : Int} : inB n lo hi = true ↔ lo ≤ n∧n ≤ hi:=by simp [inB]
theorem i_in (n lo hi : Int) (w : World) :
  Calls Tryz.prog 82 #[.int .i64 n,.int .i64 lo,.int .i64 hi] w fun e w' => e = .returned (.bool (inB n lo hi))∧w = w':=by
 by_cases h1 : lo ≤ n <;> by_cases h2 : n ≤ hi
 all_goals
  go_enter Tryz.func82,Tryz.ntmps82
  go_wp2
  all_goals go_ret
  all_goals exact ⟨by simp [inB,h1,h2] <;> omega,rfl⟩
def amtB (n : Int) : Bool:=inB n 0 1125899906842624
theorem zxy {n : Int} : amtB n = true ↔ 0 ≤ n∧n ≤ 1125899906842624:=zxx
theorem zqt (n : Int) (w : World) :
  Calls Tryz.prog 50 #[.int .i64 n] w fun e w' => e = .returned (.bool (amtB n))∧w = w':=by
 go_enter Tryz.func50,Tryz.ntmps50
 go_wp2_with (go_at_call 82;refine (i_in _ _ _ _).mono ?_;rintro e w' ⟨rfl,rfl⟩)
 go_ret
 exact ⟨rfl,rfl⟩
theorem zqu (n : Int) (w : World) :
  Calls Tryz.prog 56 #[.int .i64 n] w fun e w' => e = .returned (.bool (amtB n))∧w = w':=by
 by_cases h1 : 0 ≤ n <;> by_cases h2 : n ≤ 1125899906842624
 all_goals
  go_enter Tryz.func56,Tryz.ntmps56
  go_wp2
  all_goals go_ret
  all_goals exact ⟨by simp [amtB,inB,h1,h2] <;> omega,rfl⟩
def isChanB (n : Int) : Bool:=inB n 1 99
theorem zwr {n : Int} : isChanB n = true ↔ 1 ≤ n∧n ≤ 99:=zxx
theorem zqx (n : Int) (w : World) :
  Calls Tryz.prog 84 #[.int .i64 n] w fun e w' => e = .returned (.bool (isChanB n))∧w = w':=by
 go_enter Tryz.func84,Tryz.ntmps84
 go_wp2_with (go_at_call 82;refine (i_in _ _ _ _).mono ?_;rintro e w' ⟨rfl,rfl⟩)
 go_ret
 exact ⟨rfl,rfl⟩
theorem zji (a b : Int) (w : World) (h1 : amtB a = true) (h2 : amtB b = true) (h3 : amtB (a + b) = true) :
  Calls Tryz.prog 65 #[.int .i64 a,.int .i64 b] w fun e w' => e = .returned (.tuple #[.int .i64 (a + b),.bool true])∧w = w':=by
 obtain ⟨a1,a2⟩:=zxy.1 h1
 obtain ⟨b1,b2⟩:=zxy.1 h2
 go_enter Tryz.func65,Tryz.ntmps65
 go_wp2_with (go_at_call 56;refine (zqu _ _).mono ?_;rintro e w' ⟨rfl,rfl⟩)
 go_ret2
 exact ⟨rfl,rfl⟩
theorem zjo (a b : Int) (w : World) (h : (amtB a && amtB b && amtB (a + b)) = false) :
  Calls Tryz.prog 65 #[.int .i64 a,.int .i64 b] w fun e w' => e = .returned (.tuple #[.int .i64 0,.bool false])∧w = w':=by
 cases h1 : amtB a
 ·
  clear h
  go_enter Tryz.func65,Tryz.ntmps65
  go_wp2_with (go_at_call 56;refine (zqu _ _).mono ?_;rintro e w' ⟨rfl,rfl⟩)
  go_ret2
  exact ⟨rfl,rfl⟩
 ·
  cases h2 : amtB b
  ·
   clear h
   go_enter Tryz.func65,Tryz.ntmps65
   go_wp2_with (go_at_call 56;refine (zqu _ _).mono ?_;rintro e w' ⟨rfl,rfl⟩)
   go_ret2
   exact ⟨rfl,rfl⟩
  ·
   have h3 : amtB (a + b) = false:=by simpa [h1,h2] using h
   clear h
   obtain ⟨a1,a2⟩:=zxy.1 h1
   obtain ⟨b1,b2⟩:=zxy.1 h2
   go_enter Tryz.func65,Tryz.ntmps65
   go_wp2_with (go_at_call 56;refine (zqu _ _).mono ?_;rintro e w' ⟨rfl,rfl⟩)
   go_ret2
   exact ⟨rfl,rfl⟩
theorem zjb {α : Type} (l : List α) (p : α → Bool) {k : Nat} (hk : k < l.length) : (l.take (k + 1)).all p = ((l.take k).all p && p l[k]):=by
 rw [List.take_succ_eq_append_getElem hk,List.all_append]
 simp
theorem zyi {α : Type} (l : List α) (p : α → Bool) {k : Nat} (hk : k < l.length) (h : p l[k] = false) : l.all p = false:=by
 rw [List.all_eq_false]
 exact ⟨l[k],List.getElem_mem hk,by simp [h]⟩
theorem zqq {α β : Type} (l : List α) (f : β → α → β) (b : β) {k : Nat} (hk : k < l.length) : (l.take (k + 1)).foldl f b = f ((l.take k).foldl f b) l[k]:=by
 rw [List.take_succ_eq_append_getElem hk,List.foldl_append]
 rfl
end Go.Proofs.YtdbmkfmenfcbiaaGreat
namespace Go.Proofs.YtdbmkfmenfcbiaaGreat
open Go.RowKit Go.Deep
section
variable {w : World} {B size : Nat} {A : Option Addr} {rows : List (List Value)}
theorem Rd.flat (h : Rd w B size A rows) (hs : 0 < size) (hn : 0 < rows.length) : ∃ b off,A = some ⟨b,off,none⟩∧b < B∧∀ j u,rows.flatten[j]? = some u → w.cell? ⟨b,off + j,none⟩ = some u:=by
 obtain ⟨b,off,e,hb,hc⟩:=h.2 hn
 refine ⟨b,off,e,hb,fun j u hu => ?_⟩
 have hj : j < rows.length * size:=by
  have:=(List.getElem?_eq_some_iff.1 hu).1
  rwa [zxu rows size h.1] at this
 have hi : j / size < rows.length:=(Nat.div_lt_iff_lt_mul hs).2 hj
 have e1 : rows[j / size]? = some rows[j / size]:=List.getElem?_eq_getElem hi
 have e2:=zxa rows size h.1 (j / size) (j % size) _ e1 (Nat.mod_lt _ hs)
 rw [Nat.div_add_mod' j size,hu] at e2
 have:=hc (j / size) _ (j % size) u e1 e2.symm
 rwa [Nat.add_assoc,Nat.div_add_mod' j size] at this
end
theorem Rd.take {w : World} {B size : Nat} {A : Option Addr} {rows : List (List Value)} (h : Rd w B size A rows) (k : Nat) : Rd w B size A (rows.take k) :=
 ⟨fun r hr => h.1 r (List.mem_of_mem_take hr),fun hn => by
  obtain ⟨b,off,e,hb,hc⟩:=h.2 (by rw [List.length_take] at hn;omega)
  refine ⟨b,off,e,hb,fun i r j v h1 h2 => hc i r j v ?_ h2⟩
  rw [List.getElem?_take] at h1
  split at h1
  ·
   exact h1
  ·
   cases h1⟩
theorem zhb : ∀ (rows : List (List Value)) (size i j : Nat) (r : List Value) (u : Value),(∀ r ∈ rows,r.length = size) → rows[i]? = some r → j < size → rows.flatten.set (i * size + j) u = (rows.set i (r.set j u)).flatten
 | [],_,_,_,_,_,_,h,_ => by simp at h
 | r0 :: rows,size,0,j,r,u,hu,h,hj => by
  simp only [List.getElem?_cons_zero,Option.some.injEq] at h
  subst h
  have h0:=hu r0 (by simp)
  rw [List.flatten_cons,Nat.zero_mul,Nat.zero_add,List.set_append_left _ _ (by omega),List.set_cons_zero,List.flatten_cons]
 | r0 :: rows,size,i + 1,j,r,u,hu,h,hj => by
  have h0:=hu r0 (by simp)
  have e : (i + 1) * size + j - r0.length = i * size + j:=by rw [h0,Nat.succ_mul];omega
  rw [List.flatten_cons,List.set_append_right _ _ (by rw [h0,Nat.succ_mul];omega),e,zhb rows size i j r u (fun r hr => hu r (by simp [hr])) (by simpa using h) hj,List.set_cons_succ,List.flatten_cons]
section
variable {w : World} {B size g n cap : Nat} {e : TypeId} {rows : List (List Value)}
theorem Ow.cellAt (h : Ow w B e size (.slice (some ⟨g,0,none⟩) n cap) rows) {i j : Nat} {r : List Value} (hi : rows[i]? = some r) (hj : j < size) : w.cell? ⟨g,i * size + j,none⟩ = r[j]?:=by
 have hn : n = rows.length:=by
  obtain ⟨A,cap',e1,_⟩:=h.form
  injection e1
 subst hn
 have hi':=(List.getElem?_eq_some_iff.1 hi).1
 rw [h.2.cellAt (i * size + j) (by have:=Nat.mul_le_mul_right size hi';rw [Nat.succ_mul] at this;omega)]
 exact zxa rows size h.1 i j r hi hj
theorem Ow.frozenAt (h : Ow w B e size (.slice (some ⟨g,0,none⟩) n cap) rows) (j : Nat) : w.frozen? ⟨g,j,none⟩ = false:=by
 have hn : n = rows.length:=by
  obtain ⟨A,cap',e1,_⟩:=h.form
  injection e1
 subst hn
 exact h.2.frozenAt j
theorem Ow.stored (h : Ow w B e size (.slice (some ⟨g,0,none⟩) n cap) rows) {i j : Nat} {r : List Value} (hi : rows[i]? = some r) (hj : j < size) (u : Value) :
  Ow (w.setCell ⟨g,i * size + j,none⟩ u) B e size (.slice (some ⟨g,0,none⟩) n cap) (rows.set i (r.set j u)):=by
 have hn : n = rows.length:=by
  obtain ⟨A,cap',e1,_⟩:=h.form
  injection e1
 subst hn
 refine ⟨fun r' hr' => ?_,?_⟩
 ·
  rcases List.mem_or_eq_of_mem_set hr' with h1 | h1
  ·
   exact h.1 _ h1
  ·
   subst h1
   rw [List.length_set]
   exact h.1 r (List.mem_of_getElem? hi)
 ·
  rw [List.length_set,← zhb rows size i j r u h.1 hi hj]
  exact (h.2.stored (i * size + j) u).1
theorem Ow.drew (h : Ow w B e size (.slice (some ⟨g,0,none⟩) n cap) rows) : Ow w.drew B e size (.slice (some ⟨g,0,none⟩) n cap) rows:=h
end
theorem Ow.empty_ {w : World} {B size g : Nat} {e : TypeId} (hg : g = w.heap.size) (hB : B ≤ g) : Ow (w.alloc (.cells #[] e)) B e size (.slice (some ⟨g,0,none⟩) 0 0) []:=by
 subst hg
 exact ⟨by simp,World.ownsRow_lit w #[] 0 hB (Nat.zero_le _) (by simp)⟩
end Go.Proofs.YtdbmkfmenfcbiaaGreat
namespace Go.Proofs.YtdbmkfmenfcbiaaGreat
open Go.RowKit

namespace Mul64
end Mul64

end Go.Proofs.YtdbmkfmenfcbiaaGreat
namespace Go.Proofs.YtdbmkfmenfcbiaaGreat

section
variable {P : Program} {md : Region.Mode} {ops0 : Array Oper} {o : Oper} {Q : Exit → Act → World → Prop} {S : World → Prop}
def lastQ (P : Program) (ops : Array Oper) (o : Oper) (Q : Exit → Act → World → Prop) : Exit → Act → World → Prop
  | .normal,a,w => ∀ K : Act → World → Prop,(∀ a w,Q .normal a w → K a w) → if Region.wanted o (yielded ops a.tmps) = true then Oper.wp P o a w K Q else K (a.put o.dst undef) w
  | e,a,w => Q e a w
def noGuards (ops0 : Array Oper) : Bool:=ops0.toList.all fun x => x.guard.isNone
def backOnly (md : Region.Mode) (ops0 : Array Oper) : Bool:=(List.range ops0.size).all fun i => match ops0[i]? with
  | some x => x.after.toList.all fun e => !Region.binds md e || decide (e.on < i)
  | none => true
theorem zkr {listed : Array Bool} {i : Nat} {b : Bool} (h : i < listed.size) : (listed.push false).getD i b = listed.getD i b:=by
  simp [Array.getD_eq_getD_getElem?,Array.getElem?_push,Nat.ne_of_lt h]
theorem zhh {listed : Array Bool} {b : Bool} : (listed.push false).getD listed.size b = false:=by
  simp [Array.getD_eq_getD_getElem?]
theorem zml {listed : Array Bool} {i : Nat} (h : i < listed.size) (b c : Bool) : listed.getD i b = listed.getD i c:=by
  simp [Array.getD_eq_getD_getElem?,h]
theorem zwu {i : Nat} (h : i < ops0.size) : (ops0.push o)[i]? = ops0[i]?:=by
  rw [Array.getElem?_push,if_neg (by omega)]
theorem zms (hb : backOnly md ops0 = true) {listed : Array Bool} (hs : listed.size = ops0.size) (hr : Region.ready md ops0 listed = []) : ∀ i,i < ops0.size → listed.getD i false = true:=by
  intro i
  induction i using Nat.strongRecOn with
  | _ i ih =>
    intro hi
    refine Classical.byContradiction fun hc => ?_
    have hc' : listed.getD i true = false:=by
      rw [zml (by omega) true false]
      simpa using hc
    have : i ∈ Region.ready md ops0 listed:=by
      refine mem_ready.2 ⟨hc',ops0[i],by simp [hi],fun e he hbe => ?_⟩
      have h1:=List.all_eq_true.1 hb i (List.mem_range.2 hi)
      simp only [Array.getElem?_eq_getElem hi] at h1
      have h2:=List.all_eq_true.1 h1 e (by simpa using he)
      simp only [hbe,Bool.not_true,Bool.false_or,decide_eq_true_eq] at h2
      exact ih e.on h2 (by omega)
    rw [hr] at this
    cases this
theorem upon_Q {P : Program} {x : Oper} {a : Act} {w : World} {K K' : Act → World → Prop} {Q Q' : Exit → Act → World → Prop} (hK : ∀ a w,K a w → K' a w) (hP : ∀ c a w,Q (.panic c) a w → Q' (.panic c) a w) (hO : LetsOut Q → LetsOut Q')
    (h : x.wp P a w K Q) : x.wp P a w K' Q':=by
  unfold Oper.wp at *
  generalize (execOp a.eval x).run P w = r at *
  cases r with
  | ok n w' =>
    cases n <;> simp only [Oper.upon] at h ⊢ <;>
      first
        | exact hK _ _ h
        | exact Calls.mono h (fun e w'' he => by cases e <;> first | exact hK _ _ he | exact hP _ _ _ he | exact hO he)
        | exact Rows.mono h (fun _ _ he => hK _ _ he)
  | halt x w' => cases x <;> simp only [Oper.upon] at h ⊢ <;> first | exact hP _ _ _ h | exact h
end
end Go.Proofs.YtdbmkfmenfcbiaaGreat
namespace Go.Proofs.YtdbmkfmenfcbiaaGreat
open Go.RowKit
section
variable {P : Program} {ops : Array Oper} {md : Region.Mode} {W : World}
def Above (W w : World) : Prop:=Below W.heap.size W w
theorem Above.refl (W : World) : Above W W:=Below.refl _ _
theorem Above.step {w w' : World} (h : Above W w) (hb : Below w.heap.size w w') : Above W w':=Below.trans h (Below.mono hb (Below.size h))
def OpGives (P : Program) (o : Oper) (a : Act) (v : Value) (w : World) : Prop :=
 match (execOp a.eval o).run P w with
 | .ok (.value u) w' => u = v∧Below w.heap.size w w'
 | .ok .skip w' => v = undef∧Below w.heap.size w w'
 | .ok (.enter f args) w' => Below w.heap.size w w'∧Calls P f args w' (fun e w'' => e = .returned v∧Below w'.heap.size w' w'')
 | _ => False
def Steady (P : Program) (ops : Array Oper) (W : World) (o : Oper) (v : Value) (a : Act) : Prop :=
 (Region.wanted o (yielded ops a.tmps) = true∧∀ w,Above W w → OpGives P o a v w) ∨ (Region.wanted o (yielded ops a.tmps) = false∧v = undef)
theorem Steady.of_same {o : Oper} {v : Value} {a a' : Act} (h : Steady P ops W o v a) (he : execOp a'.eval o = execOp a.eval o)
  (hw : Region.wanted o (yielded ops a'.tmps) = Region.wanted o (yielded ops a.tmps)) : Steady P ops W o v a':=by
 unfold Steady OpGives at *
 rw [he,hw]
 exact h
def steadyOp (P : Program) (ops : Array Oper) (W : World) (i : Nat) (K : Act → Prop) (a : Act) : Prop :=
 match ops[i]? with
 | none => K a
 | some o => ∃ v,Steady P ops W o v a∧K (a.put o.dst v)
theorem zyf {i : Nat} {a : Act} {K K' : Act → Prop} (h : ∀ a,K a → K' a) (hh : steadyOp P ops W i K a) : steadyOp P ops W i K' a:=by
 unfold steadyOp at *
 split
 ·
  rename_i ho
  simp only [ho] at hh
  exact h _ hh
 ·
  rename_i o ho
  simp only [ho] at hh
  obtain ⟨v,h1,h2⟩:=hh
  exact ⟨v,h1,h _ h2⟩
theorem zhi {i : Nat} {a : Act} {K : Act → Prop} {K' : Act → World → Prop} {Q' : Exit → Act → World → Prop} {w : World} (hw : Above W w) (h : ∀ a w,Above W w → K a → K' a w)
  (hh : steadyOp P ops W i K a) : wpOp P ops Q' i K' a w:=by
 unfold steadyOp at hh
 unfold wpOp
 split
 ·
  rename_i ho
  simp only [ho] at hh
  exact h _ _ hw hh
 ·
  rename_i o ho
  simp only [ho] at hh
  obtain ⟨v,hs,hk⟩:=hh
  rcases hs with ⟨hwd,hg⟩ | ⟨hwd,rfl⟩
  ·
   have hgw:=hg w hw
   rw [if_pos hwd]
   left
   unfold OpGives at hgw
   unfold Oper.wp
   generalize (execOp a.eval o).run P w = r at *
   cases r with
   | ok n w' =>
    cases n <;> simp only at hgw <;> simp only [Oper.upon]
    case value u =>
     obtain ⟨rfl,hb⟩:=hgw
     exact h _ _ (hw.step hb) hk
    case skip =>
     obtain ⟨rfl,hb⟩:=hgw
     exact h _ _ (hw.step hb) hk
    case enter f args =>
     obtain ⟨hb,hc⟩:=hgw
     refine hc.mono fun e w'' ⟨he,hb2⟩ => ?_
     subst he
     exact h _ _ ((hw.step hb).step hb2) hk
   | halt x w' => simp only at hgw
  ·
   rw [if_neg (by simp [hwd])]
   exact h _ _ hw hk
def anySteady (P : Program) (md : Region.Mode) (ops : Array Oper) (W : World) (Q : Act → Prop) : Nat → Array Bool → Act → Prop
 | 0,listed,a => Region.ready md ops listed = []∧Q a
 | fuel + 1,listed,a =>
  (Region.ready md ops listed = [] → Q a) ∧
  ∀ i ∈ Region.ready md ops listed,steadyOp P ops W i (anySteady P md ops W Q fuel (listed.setIfInBounds i true)) a
theorem zkt {Q : Act → Prop} {Q' : Exit → Act → World → Prop} (hQ : ∀ a w,Above W w → Q a → Q' .normal a w) : ∀ (fuel : Nat) (listed : Array Bool) (a : Act) (w : World),Above W w →
  anySteady P md ops W Q fuel listed a → wpAny P md ops Q' fuel listed a w
 | 0,_,_,_,hw,h => ⟨h.1,hQ _ _ hw h.2⟩
 | fuel + 1,_,_,_,hw,h => ⟨fun h0 => hQ _ _ hw (h.1 h0),fun i hi => zhi hw (fun a' w' hw' => zkt hQ fuel _ a' w' hw') (h.2 i hi)⟩
theorem ztl {j : Nat} {oi oj : Oper} {v : Value} (hj : ops[j]? = some oj) (hap : oi.apart ops oj = true)
  (hsi : ∀ cs b,oi.op ≠ .select cs b) (hsj : ∀ cs b,oj.op ≠ .select cs b) {K : Act → Prop} {a : Act}
  (hy : Steady P ops W oi v a) (h : steadyOp P ops W j K (a.put oi.dst v)) :
  steadyOp P ops W j (fun a' => Steady P ops W oi v a'∧K (a'.put oi.dst v)) a:=by
 obtain ⟨h1,h2,h3⟩:=Oper.apart_spec hap
 unfold steadyOp at *
 simp only [hj] at *
 obtain ⟨u,hu,hk⟩:=h
 refine ⟨u,hu.of_same (execOp_put oj hsj a oi.dst v h1).symm (wanted_put oj a oi.dst v h1).symm,hy.of_same (execOp_put oi hsi a oj.dst u h3) (wanted_put oi a oj.dst u h3),?_⟩
 rw [← Act.put_comm a v u h2]
 exact hk
theorem zwk {Q : Act → Prop} {i : Nat} {oi : Oper} {v : Value} (hi : ops[i]? = some oi) (hsel : ∀ (j : Nat) (o : Oper) cs b,ops[j]? = some o → o.op ≠ .select cs b) (fuel : Nat) :
  ∀ (listed : Array Bool) (a : Act),
   (∀ j oj,ops[j]? = some oj → j ≠ i → listed.getD j true = false → (∀ e ∈ oj.after,Region.binds md e = true → e.on ≠ i) → oi.apart ops oj = true) →
   i ∈ Region.ready md ops listed → Steady P ops W oi v a →
   anySteady P md ops W Q fuel (listed.setIfInBounds i true) (a.put oi.dst v) → anySteady P md ops W Q (fuel + 1) listed a:=by
 have self : ∀ {K : Act → Prop} {a : Act},Steady P ops W oi v a → K (a.put oi.dst v) → steadyOp P ops W i K a:=fun hy hk => by
  unfold steadyOp
  simp only [hi]
  exact ⟨v,hy,hk⟩
 induction fuel with
 | zero =>
  intro listed a _ hr hy H
  refine ⟨fun h => (by rw [h] at hr;cases hr),fun j hj => ?_⟩
  by_cases hji : j = i
  ·
   subst hji
   exact self hy H
  ·
   have hm:=ready_mono hj hji
   rw [H.1] at hm
   cases hm
 | succ fuel ih =>
  intro listed a hfree hr hy H
  refine ⟨fun h => (by rw [h] at hr;cases hr),fun j hj => ?_⟩
  by_cases hji : j = i
  ·
   subst hji
   exact self hy H
  ·
   have h1:=H.2 j (ready_mono hj hji)
   obtain ⟨hjun,oj,hoj,hall⟩:=mem_ready.1 hj
   have hnot : ∀ e ∈ oj.after,Region.binds md e = true → e.on ≠ i:=fun e he hb heq => by
    have g1:=hall e he hb
    have g0:=(mem_ready.1 hr).1
    rw [heq,getD_both g0] at g1
    cases g1
   have h2:=ztl hoj (hfree j oj hoj hji hjun hnot) (fun cs b => hsel i oi cs b hi) (fun cs b => hsel j oj cs b hoj) hy h1
   refine zyf (fun a' h3 => ih (listed.setIfInBounds j true) a' (fun k ok hk hki hun hno => hfree k ok hk hki ?_ hno) (ready_mono hr (Ne.symm hji)) h3.1 ?_) h2
   ·
    by_cases hjk : j = k
    ·
     subst hjk
     exact hjun
    ·
     rwa [getD_set_ne true hjk] at hun
   ·
    rw [Array.setIfInBounds_comm _ _ hji]
    exact h3.2
def wpSteady (P : Program) (ops : Array Oper) (W : World) (Q : Act → Prop) : List Oper → Act → Prop
 | [],a => Q a
 | o :: rest,a => ∃ v,Steady P ops W o v a∧wpSteady P ops W Q rest (a.put o.dst v)
theorem zve {Q : Act → Prop} (hs : Region.noSelect ops = true) : ∀ (l : List Oper) (k : Nat) (listed : Array Bool) (a : Act),(∀ j,l[j]? = ops[k + j]?) →
  Region.lexFrom md ops l.length k listed = true → wpSteady P ops W Q l a → anySteady P md ops W Q l.length listed a
 | [],_,_,_,_,hB,h => ⟨by simpa [Region.lexFrom] using hB,h⟩
 | o :: l,k,listed,a,hl,hB,h => by
  have h0 : ops[k]? = some o:=by simpa using (hl 0).symm
  simp only [List.length_cons,Region.lexFrom,Bool.and_eq_true] at hB
  obtain ⟨⟨hr,hf⟩,hB'⟩:=hB
  obtain ⟨v,hy,hK⟩:=h
  exact zwk h0 (Region.noSelect_spec hs) l.length listed a (Region.free_spec h0 hf) (by simpa using hr) hy
   (zve hs l (k + 1) _ _ (fun j => by have:=hl (j + 1);simpa [Nat.add_assoc,Nat.add_comm 1 j] using this) hB' hK)
theorem zxi {id : Nat} {Q : Exit → Act → World → Prop} {a : Act} {w : World} {l : List Oper} (hm : P.follows .mixedOrders = true) (hB : Region.lexB .any l.toArray = true)
  (h : wpSteady P l.toArray w.drew (fun a' => ∀ w',Above w.drew w' → Q .normal a' w') l a) : (Code.region id l.toArray true).wp P Q a w:=by
 simp only [Region.lexB,Bool.and_eq_true] at hB
 refine wp_region_any hm (zkt (W:=w.drew) (Q:=fun a' => ∀ w',Above w.drew w' → Q .normal a' w') (fun _ w' hw' hq => hq w' hw') _ _ _ w.drew (Above.refl _) ?_)
 have:=zve (md:=.any) (W:=w.drew) hB.1 l 0 (Array.replicate l.toArray.size false) a (by simp) (by simpa using hB.2) h
 simpa using this
/-! ### The steps of the walk -/
theorem zxq {Q : Act → Prop} {a : Act} (h : Q a) : wpSteady P ops W Q [] a:=h
theorem zqs {Q : Act → Prop} {a : Act} {o : Oper} {rest : List Oper} (v : Value) (hw : Region.wanted o (yielded ops a.tmps) = true)
  (h : ∀ w,Above W w → (execOp a.eval o).run P w = .ok (.value v) w) (hr : ∀ K : Act → Prop,(∀ a,wpSteady P ops W Q rest a → K a) → K (a.put o.dst v)) : wpSteady P ops W Q (o :: rest) a :=
 ⟨v,.inl ⟨hw,fun w hww => by unfold OpGives;rw [h w hww];exact ⟨rfl,Below.refl _ _⟩⟩,hr _ (fun _ h => h)⟩
theorem zqz {Q : Act → Prop} {a : Act} {o : Oper} {rest : List Oper} (hw : Region.wanted o (yielded ops a.tmps) = false)
  (hr : ∀ K : Act → Prop,(∀ a,wpSteady P ops W Q rest a → K a) → K (a.put o.dst undef)) : wpSteady P ops W Q (o :: rest) a :=
 ⟨undef,.inr ⟨hw,rfl⟩,hr _ (fun _ h => h)⟩
theorem zxh {Q : Act → Prop} {a : Act} {o : Oper} {rest : List Oper} (f : FuncId) (args : Array Value) (v : Value) (hw : Region.wanted o (yielded ops a.tmps) = true)
  (h : ∀ w,Above W w → (execOp a.eval o).run P w = .ok (.enter f args) w) (hc : ∀ w,Above W w → Calls P f args w (fun e w' => e = .returned v∧Below w.heap.size w w'))
  (hr : ∀ K : Act → Prop,(∀ a,wpSteady P ops W Q rest a → K a) → K (a.put o.dst v)) : wpSteady P ops W Q (o :: rest) a :=
 ⟨v,.inl ⟨hw,fun w hww => by unfold OpGives;rw [h w hww];exact ⟨Below.refl _ _,hc w hww⟩⟩,hr _ (fun _ h => h)⟩
end
end Go.Proofs.YtdbmkfmenfcbiaaGreat
namespace Go.Proofs.YtdbmkfmenfcbiaaGreat
end Go.Proofs.YtdbmkfmenfcbiaaGreat
namespace Go.Proofs.YtdbmkfmenfcbiaaGreat
open Go.ChangeShapes Go.WideShapes Go.ChangeAt Go.RowKit Go.Deep

theorem ztn {P : Program} {w : World} {ops : Array Oper} {o : Oper} {a : Act} {K : Act → World → Prop} {Q : Exit → Act → World → Prop} {E : Prop} (hgd : o.guard = none) (s x : Operand) (t : TypeId)
    (ho : o.op = .call { callee:=.builtin .append,args:=#[s,x],argTypes:=#[t,t] })
    (B : Nat) (e : TypeId) (i : TypeInfo) (z : Value) (size bytes : Nat) (ht : P.underlying t = some (.slice e)) (hi : P.info? e = some i) (hz : i.zero = some z)
    (hsize : i.size = size) (hby : i.bytes = bytes) (hzs : z.cells.size = size) (hsz : 0 < size)
    (v : Value) (rows : List (List Value)) (hs : a.eval s = v) (how : Ow w B e size v rows)
    (g0 c : Nat) (row : List Value) (e' : TypeId) (hx : a.eval x = .slice (some ⟨g0,0,none⟩) 1 c) (hblk : w.heap[g0]? = some (.cells row.toArray e' (0,0))) (hrow : row.length = size) (h1 : ∀ u ∈ row,u.oneCell' = true)
    (hlen : rows.length ≤ 4194304) (hbytes : bytes ≤ 4096) (hbase : B ≤ w.heap.size)
    (h : ∀ g cap w',Ow w' B e size (.slice (some ⟨g,0,none⟩) (rows.length + 1) cap) (rows ++ [row]) → w.grownBy w' v.ownBlock → (v.ownBlock = some g ∨ g = w.heap.size) → g < w'.heap.size →
      K (a.put o.dst (.slice (some ⟨g,0,none⟩) (rows.length + 1) cap)) w') : if Region.wanted o (yielded ops a.tmps) = true then Oper.wp P o a w K Q else E:=by
  refine step_append_lies w hgd s x t ho B e i z size bytes ht hi hz hsize hby hzs hsz v rows.length rows.flatten hs how.2 ⟨g0,0,none⟩ 1 c row hx (by rw [Nat.one_mul];exact hrow)
    (by have:=World.news_of_block hblk;simpa using this) h1 (by omega) (by unfold maxLen;omega) (by
      have : (rows.length + 1) * bytes ≤ 4194305 * 4096:=Nat.mul_le_mul (by omega) hbytes
      omega) hbase w.heap.size rfl ?_
  intro g cap w' hown hgr hat hlt
  refine h g cap w' ⟨?_,?_⟩ hgr hat hlt
  · intro r hr
    rcases List.mem_append.1 hr with hr | hr
    · exact how.1 r hr
    · rw [List.mem_singleton.1 hr]
      exact hrow
  · have e1 : (rows ++ [row]).length = rows.length + 1:=by simp
    have e2 : (rows ++ [row]).flatten = rows.flatten ++ row:=by simp
    rw [e1,e2]
    exact hown
theorem Ow.drew_ {w : World} {B size : Nat} {e : TypeId} {v : Value} {rows : List (List Value)} (h : Ow w B e size v rows) : Ow w.drew B e size v rows:=h
end Go.Proofs.YtdbmkfmenfcbiaaGreat
namespace Go.Proofs.YtdbmkfmenfcbiaaGreat
open Go.RowKit
structure Chan where
 Id : Int
 Size : Int
 Local : Int
 Remote : Int
 Base : Int
 Ppm : Int
 Score : Int
def Chan.cells (d : Chan) : List Value:=[.int .i64 d.Id,.int .i64 d.Size,.int .i64 d.Local,.int .i64 d.Remote,.int .i64 d.Base,.int .i64 d.Ppm,.int .i64 d.Score]
theorem Chan.uni (l : List Chan) : ∀ r ∈ l.map Chan.cells,r.length = 7:=by
 intro r hr
 obtain ⟨d,_,rfl⟩:=List.mem_map.1 hr
 rfl
theorem Chan.of_flat {cs : List Value} (h0 : flat [true,true,true,true,true,true,true] cs) : ∃ d : Chan,cs = d.cells∧True:=by
 obtain ⟨a0,cs0,e0,h1⟩:=zxz h0
 obtain ⟨a1,cs1,e1,h2⟩:=zxz h1
 obtain ⟨a2,cs2,e2,h3⟩:=zxz h2
 obtain ⟨a3,cs3,e3,h4⟩:=zxz h3
 obtain ⟨a4,cs4,e4,h5⟩:=zxz h4
 obtain ⟨a5,cs5,e5,h6⟩:=zxz h5
 obtain ⟨a6,cs6,e6,h7⟩:=zxz h6
 have e7:=zvg h7
 subst e0 e1 e2 e3 e4 e5 e6 e7
 exact ⟨⟨a0,a1,a2,a3,a4,a5,a6⟩,rfl,trivial⟩
theorem Chan.rd {w : World} {B : Nat} {A : Option Addr} {l : List Chan} (h : Rd w B 7 A (l.map Chan.cells)) {k : Nat} (hk : k < l.length) :
  ∃ b off,A = some ⟨b,off,none⟩∧b < B∧w.cell? ⟨b,off + k * 7,none⟩ = some (.int .i64 l[k].Id)∧w.cell? ⟨b,off + k * 7 + 1,none⟩ = some (.int .i64 l[k].Size)∧w.cell? ⟨b,off + k * 7 + 2,none⟩ = some (.int .i64 l[k].Local)∧w.cell? ⟨b,off + k * 7 + 3,none⟩ = some (.int .i64 l[k].Remote)∧w.cell? ⟨b,off + k * 7 + 4,none⟩ = some (.int .i64 l[k].Base)∧w.cell? ⟨b,off + k * 7 + 5,none⟩ = some (.int .i64 l[k].Ppm)∧w.cell? ⟨b,off + k * 7 + 6,none⟩ = some (.int .i64 l[k].Score):=by
 obtain ⟨b,off,e,hb,hc⟩:=h.2 (by rw [List.length_map];omega)
 have hk' : (l.map Chan.cells)[k]? = some l[k].cells:=by rw [List.getElem?_map,List.getElem?_eq_getElem hk];rfl
 exact ⟨b,off,e,hb,hc k _ 0 _ hk' rfl,hc k _ 1 _ hk' rfl,hc k _ 2 _ hk' rfl,hc k _ 3 _ hk' rfl,hc k _ 4 _ hk' rfl,hc k _ 5 _ hk' rfl,hc k _ 6 _ hk' rfl⟩
theorem Chan.fl (l : List Chan) {k : Nat} (hk : k < l.length) : (l.map Chan.cells).flatten[k * 7]? = some (.int .i64 l[k].Id)∧(l.map Chan.cells).flatten[k * 7 + 1]? = some (.int .i64 l[k].Size)∧(l.map Chan.cells).flatten[k * 7 + 2]? = some (.int .i64 l[k].Local)∧(l.map Chan.cells).flatten[k * 7 + 3]? = some (.int .i64 l[k].Remote)∧(l.map Chan.cells).flatten[k * 7 + 4]? = some (.int .i64 l[k].Base)∧(l.map Chan.cells).flatten[k * 7 + 5]? = some (.int .i64 l[k].Ppm)∧(l.map Chan.cells).flatten[k * 7 + 6]? = some (.int .i64 l[k].Score):=by
 have hk' : (l.map Chan.cells)[k]? = some l[k].cells:=by rw [List.getElem?_map,List.getElem?_eq_getElem hk];rfl
 exact ⟨zxa _ 7 (Chan.uni l) k 0 _ hk' (by omega),zxa _ 7 (Chan.uni l) k 1 _ hk' (by omega),zxa _ 7 (Chan.uni l) k 2 _ hk' (by omega),zxa _ 7 (Chan.uni l) k 3 _ hk' (by omega),zxa _ 7 (Chan.uni l) k 4 _ hk' (by omega),zxa _ 7 (Chan.uni l) k 5 _ hk' (by omega),zxa _ 7 (Chan.uni l) k 6 _ hk' (by omega)⟩
structure Htlc where
 Key : Int
 In : Int
 Out : Int
 AmtIn : Int
 AmtOut : Int
 Kept : Bool
 Age : Int
def Htlc.cells (d : Htlc) : List Value:=[.int .i64 d.Key,.int .i64 d.In,.int .i64 d.Out,.int .i64 d.AmtIn,.int .i64 d.AmtOut,.bool d.Kept,.int .i64 d.Age]
theorem Htlc.uni (l : List Htlc) : ∀ r ∈ l.map Htlc.cells,r.length = 7:=by
 intro r hr
 obtain ⟨d,_,rfl⟩:=List.mem_map.1 hr
 rfl
theorem Htlc.of_flat {cs : List Value} (h0 : flat [true,true,true,true,true,false,true] cs) : ∃ d : Htlc,cs = d.cells∧True:=by
 obtain ⟨a0,cs0,e0,h1⟩:=zxz h0
 obtain ⟨a1,cs1,e1,h2⟩:=zxz h1
 obtain ⟨a2,cs2,e2,h3⟩:=zxz h2
 obtain ⟨a3,cs3,e3,h4⟩:=zxz h3
 obtain ⟨a4,cs4,e4,h5⟩:=zxz h4
 obtain ⟨a5,cs5,e5,h6⟩:=flat_b h5
 obtain ⟨a6,cs6,e6,h7⟩:=zxz h6
 have e7:=zvg h7
 subst e0 e1 e2 e3 e4 e5 e6 e7
 exact ⟨⟨a0,a1,a2,a3,a4,a5,a6⟩,rfl,trivial⟩
theorem Htlc.rd {w : World} {B : Nat} {A : Option Addr} {l : List Htlc} (h : Rd w B 7 A (l.map Htlc.cells)) {k : Nat} (hk : k < l.length) :
  ∃ b off,A = some ⟨b,off,none⟩∧b < B∧w.cell? ⟨b,off + k * 7,none⟩ = some (.int .i64 l[k].Key)∧w.cell? ⟨b,off + k * 7 + 1,none⟩ = some (.int .i64 l[k].In)∧w.cell? ⟨b,off + k * 7 + 2,none⟩ = some (.int .i64 l[k].Out)∧w.cell? ⟨b,off + k * 7 + 3,none⟩ = some (.int .i64 l[k].AmtIn)∧w.cell? ⟨b,off + k * 7 + 4,none⟩ = some (.int .i64 l[k].AmtOut)∧w.cell? ⟨b,off + k * 7 + 5,none⟩ = some (.bool l[k].Kept)∧w.cell? ⟨b,off + k * 7 + 6,none⟩ = some (.int .i64 l[k].Age):=by
 obtain ⟨b,off,e,hb,hc⟩:=h.2 (by rw [List.length_map];omega)
 have hk' : (l.map Htlc.cells)[k]? = some l[k].cells:=by rw [List.getElem?_map,List.getElem?_eq_getElem hk];rfl
 exact ⟨b,off,e,hb,hc k _ 0 _ hk' rfl,hc k _ 1 _ hk' rfl,hc k _ 2 _ hk' rfl,hc k _ 3 _ hk' rfl,hc k _ 4 _ hk' rfl,hc k _ 5 _ hk' rfl,hc k _ 6 _ hk' rfl⟩
theorem Htlc.fl (l : List Htlc) {k : Nat} (hk : k < l.length) : (l.map Htlc.cells).flatten[k * 7]? = some (.int .i64 l[k].Key)∧(l.map Htlc.cells).flatten[k * 7 + 1]? = some (.int .i64 l[k].In)∧(l.map Htlc.cells).flatten[k * 7 + 2]? = some (.int .i64 l[k].Out)∧(l.map Htlc.cells).flatten[k * 7 + 3]? = some (.int .i64 l[k].AmtIn)∧(l.map Htlc.cells).flatten[k * 7 + 4]? = some (.int .i64 l[k].AmtOut)∧(l.map Htlc.cells).flatten[k * 7 + 5]? = some (.bool l[k].Kept)∧(l.map Htlc.cells).flatten[k * 7 + 6]? = some (.int .i64 l[k].Age):=by
 have hk' : (l.map Htlc.cells)[k]? = some l[k].cells:=by rw [List.getElem?_map,List.getElem?_eq_getElem hk];rfl
 exact ⟨zxa _ 7 (Htlc.uni l) k 0 _ hk' (by omega),zxa _ 7 (Htlc.uni l) k 1 _ hk' (by omega),zxa _ 7 (Htlc.uni l) k 2 _ hk' (by omega),zxa _ 7 (Htlc.uni l) k 3 _ hk' (by omega),zxa _ 7 (Htlc.uni l) k 4 _ hk' (by omega),zxa _ 7 (Htlc.uni l) k 5 _ hk' (by omega),zxa _ 7 (Htlc.uni l) k 6 _ hk' (by omega)⟩
structure Circle where
 Key : Int
 From : Int
 To : Int
 Amt : Int
 Fee : Int
def Circle.cells (d : Circle) : List Value:=[.int .i64 d.Key,.int .i64 d.From,.int .i64 d.To,.int .i64 d.Amt,.int .i64 d.Fee]
theorem Circle.uni (l : List Circle) : ∀ r ∈ l.map Circle.cells,r.length = 5:=by
 intro r hr
 obtain ⟨d,_,rfl⟩:=List.mem_map.1 hr
 rfl
theorem Circle.of_flat {cs : List Value} (h0 : flat [true,true,true,true,true] cs) : ∃ d : Circle,cs = d.cells∧True:=by
 obtain ⟨a0,cs0,e0,h1⟩:=zxz h0
 obtain ⟨a1,cs1,e1,h2⟩:=zxz h1
 obtain ⟨a2,cs2,e2,h3⟩:=zxz h2
 obtain ⟨a3,cs3,e3,h4⟩:=zxz h3
 obtain ⟨a4,cs4,e4,h5⟩:=zxz h4
 have e5:=zvg h5
 subst e0 e1 e2 e3 e4 e5
 exact ⟨⟨a0,a1,a2,a3,a4⟩,rfl,trivial⟩
theorem Circle.rd {w : World} {B : Nat} {A : Option Addr} {l : List Circle} (h : Rd w B 5 A (l.map Circle.cells)) {k : Nat} (hk : k < l.length) :
  ∃ b off,A = some ⟨b,off,none⟩∧b < B∧w.cell? ⟨b,off + k * 5,none⟩ = some (.int .i64 l[k].Key)∧w.cell? ⟨b,off + k * 5 + 1,none⟩ = some (.int .i64 l[k].From)∧w.cell? ⟨b,off + k * 5 + 2,none⟩ = some (.int .i64 l[k].To)∧w.cell? ⟨b,off + k * 5 + 3,none⟩ = some (.int .i64 l[k].Amt)∧w.cell? ⟨b,off + k * 5 + 4,none⟩ = some (.int .i64 l[k].Fee):=by
 obtain ⟨b,off,e,hb,hc⟩:=h.2 (by rw [List.length_map];omega)
 have hk' : (l.map Circle.cells)[k]? = some l[k].cells:=by rw [List.getElem?_map,List.getElem?_eq_getElem hk];rfl
 exact ⟨b,off,e,hb,hc k _ 0 _ hk' rfl,hc k _ 1 _ hk' rfl,hc k _ 2 _ hk' rfl,hc k _ 3 _ hk' rfl,hc k _ 4 _ hk' rfl⟩
theorem Circle.fl (l : List Circle) {k : Nat} (hk : k < l.length) : (l.map Circle.cells).flatten[k * 5]? = some (.int .i64 l[k].Key)∧(l.map Circle.cells).flatten[k * 5 + 1]? = some (.int .i64 l[k].From)∧(l.map Circle.cells).flatten[k * 5 + 2]? = some (.int .i64 l[k].To)∧(l.map Circle.cells).flatten[k * 5 + 3]? = some (.int .i64 l[k].Amt)∧(l.map Circle.cells).flatten[k * 5 + 4]? = some (.int .i64 l[k].Fee):=by
 have hk' : (l.map Circle.cells)[k]? = some l[k].cells:=by rw [List.getElem?_map,List.getElem?_eq_getElem hk];rfl
 exact ⟨zxa _ 5 (Circle.uni l) k 0 _ hk' (by omega),zxa _ 5 (Circle.uni l) k 1 _ hk' (by omega),zxa _ 5 (Circle.uni l) k 2 _ hk' (by omega),zxa _ 5 (Circle.uni l) k 3 _ hk' (by omega),zxa _ 5 (Circle.uni l) k 4 _ hk' (by omega)⟩
structure RdBook (w : World) (B : Nat) (A1 : Option Addr) (cs : List Chan) (A2 : Option Addr) (hs : List Htlc) (A3 : Option Addr) (os : List Circle) : Prop where
 c : Rd w B 7 A1 (cs.map Chan.cells)
 h : Rd w B 7 A2 (hs.map Htlc.cells)
 o : Rd w B 5 A3 (os.map Circle.cells)
section
variable {w w' : World} {B B' : Nat} {A1 A2 A3 : Option Addr} {cs : List Chan} {hs : List Htlc} {os : List Circle}
theorem RdBook.below (h : RdBook w B A1 cs A2 hs A3 os) (hb : Below B w w') : RdBook w' B A1 cs A2 hs A3 os:=⟨h.c.below hb,h.h.below hb,h.o.below hb⟩
theorem RdBook.more (h : RdBook w B A1 cs A2 hs A3 os) (hB : B ≤ B') : RdBook w B' A1 cs A2 hs A3 os:=⟨h.c.more hB,h.h.more hB,h.o.more hB⟩
end
end Go.Proofs.YtdbmkfmenfcbiaaGreat
namespace Go.Proofs.YtdbmkfmenfcbiaaGreat
open Go.RowKit

def DigAt (v n1 U d q r : Nat) : Prop:=q * n1 + r = U∧(U * 4294967296 + d) / v ≤ q∧q ≤ 4294967297
/-! ### The frame: shifts -/
structure DivFrame (hi lo y s v n1 n0 U u d1 d0 q r m Q1 R1 q2 r2 m2 Q0 R0 : Nat) : Prop where
  hs1 : s ≤ 63
  hv1 : 9223372036854775808 ≤ v
  hv2 : v < 18446744073709551616
  E1 : IntKind.u64.wrap ((y : Int) * 2 ^ s) = (v : Int)
  E2 : IntKind.u64.wrap ((hi : Int) * 2 ^ s) = ((hi * 2 ^ s : Nat) : Int)
  E3 : (lo : Int) / 2 ^ (64 - s) = ((lo / 2 ^ (64 - s) : Nat) : Int)
  E4 : bits .or .u64 ((hi * 2 ^ s : Nat) : Int) ((lo / 2 ^ (64 - s) : Nat) : Int) = (U : Int)
  E5 : IntKind.u64.wrap ((lo : Int) * 2 ^ s) = (u : Int)
  E6 : bits .and .u64 (v : Int) 4294967295 = (n0 : Int)
  E7 : bits .and .u64 (u : Int) 4294967295 = (d0 : Int)
  E8 : (v : Int) / 4294967296 = (n1 : Int)
  E9 : (u : Int) / 4294967296 = (d1 : Int)
  hv : v = n1 * 4294967296 + n0
  n0l : n0 < 4294967296
  n1l : 4294967296 ≤ 2 * n1
  n1u : n1 < 4294967296
  d1l : d1 < 4294967296
  d0l : d0 < 4294967296
  hv0 : 0 < v
  hU1 : U < v
  ul : u < 18446744073709551616
  DS : DigAt v n1 U d1 q r
  E10 : (U : Int) / (n1 : Int) = (q : Int)
  E11 : IntKind.u64.wrap ((q : Int) * (n1 : Int)) = (m : Int)
  mU : m ≤ U
  rU : U - m = r
  rl : r < 4294967296
  ql : q ≤ 4294967297
  E12 : IntKind.u64.wrap (IntKind.u64.wrap (IntKind.u64.wrap ((U : Int) * 4294967296) + (d1 : Int)) - IntKind.u64.wrap ((Q1 : Int) * (v : Int))) = (R1 : Int)
  hQ1 : (U * 4294967296 + d1) / v = Q1
  Q1l : Q1 < 4294967296
  U2 : R1 < v
  DT : DigAt v n1 R1 d0 q2 r2
  E13 : (R1 : Int) / (n1 : Int) = (q2 : Int)
  E14 : IntKind.u64.wrap ((q2 : Int) * (n1 : Int)) = (m2 : Int)
  mR : m2 ≤ R1
  rR : R1 - m2 = r2
  rl2 : r2 < 4294967296
  ql2 : q2 ≤ 4294967297
  E15 : IntKind.u64.wrap (IntKind.u64.wrap (IntKind.u64.wrap ((R1 : Int) * 4294967296) + (d0 : Int)) - IntKind.u64.wrap ((Q0 : Int) * (v : Int))) = (R0 : Int)
  hQ0 : (R1 * 4294967296 + d0) / v = Q0
  Q0l : Q0 < 4294967296
  E16 : (R0 : Int) / 2 ^ s = (((hi * 18446744073709551616 + lo) % y : Nat) : Int)
  E17 : (hi * 18446744073709551616 + lo) / y = Q1 * 4294967296 + Q0
end Go.Proofs.YtdbmkfmenfcbiaaGreat
namespace Go.Proofs.YtdbmkfmenfcbiaaGreat
open Go.ChangeShapes Go.WideShapes Go.RowKit
def byteC (z : Int) : List Value:=[.int .u8 z]
theorem zpu (l : List Int) : ∀ r ∈ l.map byteC,r.length = 1:=by
 intro r hr
 obtain ⟨d,_,rfl⟩:=List.mem_map.1 hr
 rfl
theorem zsr {w : World} {B : Nat} {A : Option Addr} {l : List Int} (h : Rd w B 1 A (l.map byteC)) {k : Nat} (hk : k < l.length) :
  ∃ b off,A = some ⟨b,off,none⟩∧b < B∧w.cell? ⟨b,off + k,none⟩ = some (.int .u8 l[k]):=by
 obtain ⟨b,off,e,hb,hc⟩:=h.2 (by rw [List.length_map];omega)
 have hk' : (l.map byteC)[k]? = some (byteC l[k]):=by rw [List.getElem?_map,List.getElem?_eq_getElem hk];rfl
 have:=hc k _ 0 _ hk' rfl
 rw [Nat.mul_one,Nat.add_zero] at this
 exact ⟨b,off,e,hb,this⟩
def Code (w : World) (B : Nat) (A : Option Addr) (n cap : Nat) : Prop:=∃ zs : List Int,zs.length = n∧n ≤ cap∧n ≤ 1048576∧(∀ z ∈ zs,0 ≤ z∧z ≤ 255)∧Rd w B 1 A (zs.map byteC)
theorem Code.below {w w' : World} {B : Nat} {A : Option Addr} {n cap : Nat} (h : Code w B A n cap) (hb : Below B w w') : Code w' B A n cap:=by
 obtain ⟨zs,h1,h2,h3,h4,h5⟩:=h
 exact ⟨zs,h1,h2,h3,h4,h5.below hb⟩
theorem Code.more {w : World} {B B' : Nat} {A : Option Addr} {n cap : Nat} (h : Code w B A n cap) (hB : B ≤ B') : Code w B' A n cap:=by
 obtain ⟨zs,h1,h2,h3,h4,h5⟩:=h
 exact ⟨zs,h1,h2,h3,h4,h5.more hB⟩
theorem Code.at_ {w : World} {B : Nat} {A : Option Addr} {n cap : Nat} (h : Code w B A n cap) {k : Nat} (hk : k < n) : ∃ b off z,A = some ⟨b,off,none⟩∧b < B∧w.cell? ⟨b,off + k,none⟩ = some (.int .u8 z)∧0 ≤ z∧z ≤ 255:=by
 obtain ⟨zs,h1,h2,h3,h4,h5⟩:=h
 subst h1
 obtain ⟨b,off,e,hb,hc⟩:=zsr h5 hk
 have:=h4 _ (List.getElem_mem hk)
 exact ⟨b,off,_,e,hb,hc,this.1,this.2⟩
def CodeIn (w : World) (A : Option Addr) (n cap : Nat) : Prop:=∃ zs : List Int,zs.length = n∧n ≤ cap∧cap ≤ maxLen∧(∀ z ∈ zs,0 ≤ z∧z ≤ 255)∧Rd w w.heap.size 1 A (zs.map byteC)
theorem CodeIn.code {w : World} {A : Option Addr} {n cap : Nat} (h : CodeIn w A n cap) (hn : n ≤ 1048576) : Code w w.heap.size A n cap:=by
 obtain ⟨zs,h1,h2,_,h4,h5⟩:=h
 exact ⟨zs,h1,h2,hn,h4,h5⟩
theorem CodeIn.len {w : World} {A : Option Addr} {n cap : Nat} (h : CodeIn w A n cap) : n ≤ maxLen:=by
 obtain ⟨zs,h1,h2,h3,_⟩:=h
 exact Nat.le_trans h2 h3
theorem wf_u8_le {x : Int} (h : (Lit.int .u8 x).wf = true) : 0 ≤ x∧x ≤ 255:=by
 simp [Lit.wf,IntKind.min,IntKind.max,IntKind.signed,IntKind.bits] at h
 omega
theorem zyn {H : Type} {enc : TypeId × Value → H} {P : Program} {w : World} {base : Nat} {spare : Nat → Bool} {held : Bool} {t e : TypeId} {fuel : Nat} {A : Option Addr} {len cap : Nat} {x : DataW H × List MemPlace}
  (hu : P.underlying t = some (.slice e)) (he : P.underlying e = some (.int .u8)) (hc : P.cellsOf e = 1) (h : DataW.trod enc P w base spare held fuel t [.slice A len cap] = some x) : CodeIn w A len cap:=by
 rcases open_ints hu he hc h with ⟨hcs,_⟩ | ⟨a,len',cap',zs,hcs,_,hl,hm,hz,_,hcell,hwz⟩
 ·
  simp only [List.cons.injEq,Value.slice.injEq,and_true] at hcs
  obtain ⟨rfl,rfl,rfl⟩:=hcs
  exact ⟨[],rfl,Nat.le_refl _,Nat.zero_le _,by simp,Rd.nil_⟩
 ·
  simp only [List.cons.injEq,Value.slice.injEq,and_true] at hcs
  obtain ⟨rfl,rfl,rfl⟩:=hcs
  have hle : len ≤ zs.length:=by rw [hz];split <;> omega
  refine ⟨zs.take len,by rw [List.length_take];omega,hl,hm,fun z hz' => wf_u8_le (hwz z (List.mem_of_mem_take hz')),zpu _,fun hn => ?_⟩
  rw [List.length_map,List.length_take] at hn
  obtain ⟨b,off,spot⟩:=a
  have hc0:=hcell 0 (by omega)
  have hspot : spot = none:=by simpa [Addr.add] using World.cell?_spot hc0
  subst hspot
  have hadd : ∀ k,(⟨b,off,none⟩ : Addr).add k = ⟨b,off + k,none⟩:=by intro k;unfold Addr.add;split <;> simp_all
  refine ⟨b,off,rfl,?_,?_⟩
  ·
   rw [hadd] at hc0
   by_cases hb : b < w.heap.size
   ·
    exact hb
   ·
    simp [World.cell?,Array.getElem?_eq_none (show w.heap.size ≤ b by omega)] at hc0
  ·
   intro i r j v hr hv
   rw [List.getElem?_map] at hr
   have hi : i < (zs.take len).length:=by
    refine Nat.lt_of_not_le fun hh => ?_
    rw [List.getElem?_eq_none hh] at hr
    cases hr
   have hi2 : i < zs.length:=by rw [List.length_take] at hi;omega
   rw [List.getElem?_eq_getElem hi] at hr
   simp only [Option.map_some,Option.some.injEq,List.getElem_take] at hr
   subst hr
   match j,hv with
   | 0,hv =>
    simp only [byteC,List.getElem?_cons_zero,Option.some.injEq] at hv
    subst hv
    have:=hcell i hi2
    rw [hadd,List.getD_eq_getElem?_getD,List.getElem?_eq_getElem hi2] at this
    rw [Nat.mul_one,Nat.add_zero]
    exact this
   | j + 1,hv => simp [byteC] at hv
def Crs (w : World) (g : Nat) : Prop:=∃ (A : Option Addr) (n cap : Nat) (i : Nat) (h : Int),i ≤ n∧w.heap[g]? = some (.cells #[.slice A n cap,.int .i64 i,.int .i64 h] 129 (0,0))∧Code w g A n cap
theorem Crs.lt {w : World} {g : Nat} (h : Crs w g) : g < w.heap.size:=by
 obtain ⟨_,_,_,_,_,_,h,_⟩:=h
 exact (gz_ h).1
theorem Crs.grown {w w' : World} {g : Nat} {row : Option Nat} (h : Crs w g) (hg : w.grownBy w' row) (hr : ∀ k,row = some k → g < k) : Crs w' g:=by
 have hlt:=h.lt
 obtain ⟨A,n,cap,i,x,h1,h2,h3⟩:=h
 exact ⟨A,n,cap,i,x,h1,zqd hg (fun e => by have:=hr _ e.symm;omega) h2,h3.below ((Below.refl g w).grown hg (by omega) (fun k e => by have:=hr k e;omega))⟩
theorem Crs.below {w w' : World} {g : Nat} (h : Crs w g) (hb : Below w.heap.size w w') : Crs w' g:=h.grown (row:=none) (zki hb) (fun _ e => by cases e)
theorem Crs.alloc {w : World} {g : Nat} (h : Crs w g) (o : Obj) : Crs (w.alloc o) g:=h.below ((Below.refl _ _).alloc (Nat.le_refl _) o)
theorem Crs.set {w : World} {g b i : Nat} {u : Value} (h : Crs w g) (hb : g < b) : Crs (w.setCell ⟨b,i,none⟩ u) g:=h.grown (zqh (World.grownBy.refl w (some b)) i u) (fun k e => by cases e;exact hb)
def DrewI (g : Nat) (w : World) (lo hi : Int) (e : Ending) (w' : World) : Prop:=∃ x : Int,lo ≤ x∧x ≤ hi∧e = .returned (.int .i64 x)∧Crs w' g∧w.grownBy w' (some g)
theorem zvs (x : Int) : -9223372036854775808 ≤ wrap64 x∧wrap64 x ≤ 9223372036854775807:=by
 unfold wrap64
 omega
theorem zmx (n : Int) : bits .and .i64 n 255 = n % 256:=by
 have h255 : (BitVec.ofInt 64 255).toNat = 2 ^ 8 - 1:=by decide
 have key : (BitVec.ofInt 64 n &&& BitVec.ofInt 64 255).toNat = (n % ((2 ^ 64 : Nat) : Int)).toNat % 2 ^ 8:=by
  rw [BitVec.toNat_and,BitVec.toNat_ofInt,h255,Nat.and_two_pow_sub_one_eq_mod]
 show IntKind.i64.wrap ((BitVec.ofInt 64 n &&& BitVec.ofInt 64 255).toNat : Nat) = n % 256
 rw [key,IntKind.wrap_i64]
 omega
set_option maxRecDepth 100000 in
set_option maxHeartbeats 2000000 in
theorem s_l01New (A : Option Addr) (n cap : Nat) (w : World) (hc : Code w w.heap.size A n cap) :
  Calls Tryz.prog 40 #[.slice A n cap] w fun e w' => e = .returned (.pointer (some ⟨w.heap.size,0,none⟩))∧Crs w' w.heap.size∧Below w.heap.size w w'∧w'.heap.size = w.heap.size + 1:=by
 have HC:=hd_ hc
 have hn : n ≤ 1048576:=by obtain ⟨_,_,_,h,_⟩:=hc;exact h
 clear hc
 go_enter Tryz.func40,Tryz.ntmps40
 go_wp2_with fail
 go_loop [3,4] (fun h i => ∃ (k : Nat) (H : Int),k ≤ n∧i = .int .i64 k∧h = .int .i64 H) (fun _ i => n - (intOf i).toNat)
 case atStart => exact ⟨0,_,Nat.zero_le _,rfl,rfl⟩
 case round =>
  obtain ⟨k,H,hk,rfl,rfl⟩:=hrel
  by_cases hlt : k < n
  ·
   obtain ⟨b,off,z,rfl,hb,c0,z1,z2⟩:=HC.out.at_ hlt
   have i1 : (0 : Int) ≤ (k : Int):=by omega
   have i2 : (k : Int) < (n : Int):=by omega
   by_cases h4 : (k : Int) < 4000
   ·
    go_wp2_with fail
    go_round
    case rel => exact ⟨k + 1,_,by omega,by go_num,rfl⟩
    case measure => simp [intOf];omega
   ·
    go_wp2_with fail
    go_ret
    exact ⟨rfl,⟨_,n,cap,0,H,Nat.zero_le _,zqm rfl,HC.out.below ((Below.refl _ _).alloc (Nat.le_refl _) _)⟩,(Below.refl _ _).alloc (Nat.le_refl _) _,by simp⟩
  ·
   obtain rfl : k = n:=by omega
   go_wp2_with fail
   go_ret
   exact ⟨rfl,⟨A,k,cap,0,H,Nat.zero_le _,zqm rfl,HC.out.below ((Below.refl _ _).alloc (Nat.le_refl _) _)⟩,(Below.refl _ _).alloc (Nat.le_refl _) _,by simp⟩
theorem zvd {a w : World} {r : Option Nat} (h : a.grownBy w r) (n : Nat) : a.grownBy (w.drewN n) r:=⟨h.os,h.tape,h.output,h.size,h.block⟩
set_option maxRecDepth 100000 in
set_option maxHeartbeats 4000000 in
theorem zks (g : Nat) (w : World) (hc : Crs w g) :
  Calls Tryz.prog 137 #[.pointer (some ⟨g,0,none⟩)] w (DrewI g w 0 255):=by
 have hlt0:=hc.lt
 obtain ⟨A,n,cap,i,h,hin,hh,hcode⟩:=hc
 obtain ⟨kh,k0,k1,k2,kf,kz⟩:=own3 (Below.refl w.heap.size w) (gz_ hh).1 hh
 have hn : n ≤ 1048576:=by obtain ⟨_,_,_,h,_⟩:=hcode;exact h
 have KH:=hd_ kh
 have HC:=hd_ hcode
 have AND:=fun X => zmx X
 clear kh hh hcode
 by_cases hlt : i < n
 ·
  obtain ⟨b,off,z,rfl,hb,c0,z1,z2⟩:=HC.out.at_ hlt
  have c1 : ∀ v,(w.setCell ⟨g,2,none⟩ v).cell? ⟨b,off + i,none⟩ = some (.int .u8 z):=fun v => by
   rw [((Below.refl g w).setCell (p:=⟨g,2,none⟩) (Nat.le_refl _) v).cell hb]
   exact c0
  have i1 : (0 : Int) ≤ (i : Int):=by omega
  have i2 : (i : Int) < (n : Int):=by omega
  go_enter Tryz.func137,Tryz.ntmps137
  go_wp2_with fail
  go_quiet (fail)
  go_wp2_with fail
  go_quiet (fail)
  go_wp2_with fail
  go_quiet (fail)
  go_wp2_with fail
  go_ret
  refine ⟨_,?_,?_,rfl,?_,?_⟩
  ·
   exact Int.emod_nonneg _ (by decide)
  ·
   exact Int.le_of_lt_add_one (Int.emod_lt_of_pos _ (by decide))
  ·
   have e1 : ((i + 1 : Nat) : Int) = (i : Int) + 1:=by omega
   refine ⟨?A,n,cap,i + 1,?h,by omega,?c1,?c2⟩
   case c1 =>
    rw [e1]
    exact zxo (zqa (zqa KH.out))
   case c2 =>
    refine HC.out.below ?_
    exact zjy (((Below.refl g w).setCell (p:=⟨g,2,none⟩) (Nat.le_refl _) _).setCell (p:=⟨g,1,none⟩) (Nat.le_refl _) _) _
  ·
   exact zvd (zqh (zqh (World.grownBy.refl w (some g)) 2 _) 1 _) _
 ·
  obtain rfl : i = n:=by omega
  go_enter Tryz.func137,Tryz.ntmps137
  go_wp2_with fail
  go_quiet (fail)
  go_wp2_with fail
  go_quiet (fail)
  go_wp2_with fail
  go_ret
  refine ⟨_,?_,?_,rfl,?_,?_⟩
  ·
   exact Int.emod_nonneg _ (by decide)
  ·
   exact Int.le_of_lt_add_one (Int.emod_lt_of_pos _ (by decide))
  ·
   refine ⟨A,i,cap,i,_,Nat.le_refl _,zxo (zqa KH.out),HC.out.below ?_⟩
   exact zjy (zjy ((Below.refl g w).setCell (p:=⟨g,2,none⟩) (Nat.le_refl _) _) _) _
  ·
   exact zvd (zvd (zqh (World.grownBy.refl w (some g)) 2 _) _) _
set_option maxRecDepth 100000 in
set_option maxHeartbeats 2000000 in
theorem zqp (g : Nat) (n : Int) (w : World) (hc : Crs w g) (h1 : 1 ≤ n) (h2 : n ≤ 9223372036854775807) :
  Calls Tryz.prog 81 #[.pointer (some ⟨g,0,none⟩),.int .i64 n] w (DrewI g w 0 (n - 1)):=by
 by_cases hs : n ≤ 256
 ·
  go_enter Tryz.func81,Tryz.ntmps81
  go_wp2_with fail
  refine (zks g _ hc).mono ?_
  rintro e w1 ⟨x,x1,x2,rfl,hc1,hg1⟩
  go_wp2_with fail
  go_ret
  exact ⟨x % n,Int.emod_nonneg _ (by omega),by have:=Int.emod_lt_of_pos x (show 0 < n by omega);omega,rfl,hc1,hg1⟩
 ·
  go_enter Tryz.func81,Tryz.ntmps81
  go_wp2_with fail
  refine (zks g _ hc).mono ?_
  rintro e w1 ⟨x,x1,x2,rfl,hc1,hg1⟩
  go_wp2_with fail
  refine (zks g _ hc1).mono ?_
  rintro e w2 ⟨y,y1,y2,rfl,hc2,hg2⟩
  go_wp2_with fail
  refine (zks g _ hc2).mono ?_
  rintro e w3 ⟨z,z1,z2,rfl,hc3,hg3⟩
  go_wp2_with fail
  refine (zks g _ hc3).mono ?_
  rintro e w4 ⟨v,v1,v2,rfl,hc4,hg4⟩
  go_wp2_with fail
  go_ret
  exact ⟨(x * 16777216 + y * 65536 + z * 256 + v) % n,Int.emod_nonneg _ (by omega),by have:=Int.emod_lt_of_pos (x * 16777216 + y * 65536 + z * 256 + v) (show 0 < n by omega);omega,rfl,hc4,zql (zql (zql hg1 hg2) hg3) hg4⟩
set_option maxRecDepth 100000 in
set_option maxHeartbeats 4000000 in
theorem zvb (g : Nat) (w : World) (hc : Crs w g) :
  Calls Tryz.prog 103 #[.pointer (some ⟨g,0,none⟩)] w (DrewI g w (-9223372036854775808) 9223372036854775807):=by
 go_enter Tryz.func103,Tryz.ntmps103
 go_wp2_with fail
 refine (zqp g 11 _ hc (by decide) (by decide)).mono ?_
 rintro e w1 ⟨k,k1,k2,rfl,hc1,hg1⟩
 have hcase : (k < 4) ∨ k = 4 ∨ k = 5 ∨ k = 6 ∨ k = 7 ∨ k = 8 ∨ k = 9 ∨ k = 10:=by omega
 rcases hcase with h | rfl | rfl | rfl | rfl | rfl | rfl | rfl
 ·
  have h' : decide (k < 4) = true:=decide_eq_true h
  go_wp2_with fail
  refine (zqp g 30 _ hc1 (by decide) (by decide)).mono ?_
  rintro e w2 ⟨x,x1,x2,rfl,hc2,hg2⟩
  go_wp2_with fail
  go_ret
  exact ⟨_,by omega,by omega,rfl,hc2,zql hg1 hg2⟩
 ·
  go_wp2_with fail
  refine (zqp g 3 _ hc1 (by decide) (by decide)).mono ?_
  rintro e w2 ⟨x,x1,x2,rfl,hc2,hg2⟩
  go_wp2_with fail
  go_ret
  exact ⟨_,by omega,by omega,rfl,hc2,zql hg1 hg2⟩
 ·
  go_wp2_with fail
  refine (zqp g 3 _ hc1 (by decide) (by decide)).mono ?_
  rintro e w2 ⟨x,x1,x2,rfl,hc2,hg2⟩
  go_wp2_with fail
  go_ret
  exact ⟨_,by omega,by omega,rfl,hc2,zql hg1 hg2⟩
 ·
  go_wp2_with fail
  refine (zqp g 2 _ hc1 (by decide) (by decide)).mono ?_
  rintro e w2 ⟨x,x1,x2,rfl,hc2,hg2⟩
  go_wp2_with fail
  go_ret
  exact ⟨_,by omega,by omega,rfl,hc2,zql hg1 hg2⟩
 ·
  go_wp2_with fail
  refine (zqp g 2 _ hc1 (by decide) (by decide)).mono ?_
  rintro e w2 ⟨x,x1,x2,rfl,hc2,hg2⟩
  go_wp2_with fail
  go_ret
  exact ⟨_,by omega,by omega,rfl,hc2,zql hg1 hg2⟩
 ·
  go_wp2_with fail
  refine (zqp g 3 _ hc1 (by decide) (by decide)).mono ?_
  rintro e w2 ⟨x,x1,x2,rfl,hc2,hg2⟩
  go_wp2_with fail
  go_ret
  exact ⟨_,by omega,by omega,rfl,hc2,zql hg1 hg2⟩
 ·
  go_wp2_with fail
  refine (zqp g 51 _ hc1 (by decide) (by decide)).mono ?_
  rintro e w2 ⟨x,x1,x2,rfl,hc2,hg2⟩
  go_wp2_with fail
  go_ret
  exact ⟨_,(zvs _).1,(zvs _).2,rfl,hc2,zql hg1 hg2⟩
 ·
  go_wp2_with fail
  refine (zqp g 1000000 _ hc1 (by decide) (by decide)).mono ?_
  rintro e w2 ⟨x,x1,x2,rfl,hc2,hg2⟩
  go_wp2_with fail
  refine (zqp g 1000000 _ hc2 (by decide) (by decide)).mono ?_
  rintro e w3 ⟨y,y1,y2,rfl,hc3,hg3⟩
  go_wp2_with fail
  go_ret
  exact ⟨_,(zvs _).1,(zvs _).2,rfl,hc3,zql (zql hg1 hg2) hg3⟩
end Go.Proofs.YtdbmkfmenfcbiaaGreat
namespace Go.Proofs.YtdbmkfmenfcbiaaGreat
open Go.RowKit Go.Deep

def Fr (ts : List TypeId) (w w' : World) : Prop:=∀ (k : Nat) (cs : Array Value) (t : TypeId),w.heap[k]? = some (.cells cs t (0,0)) → t ∉ ts → w'.heap[k]? = some (.cells cs t (0,0))
section
variable {ts ts' : List TypeId} {w w' w'' : World}
theorem Fr.refl (ts : List TypeId) (w : World) : Fr ts w w:=fun _ _ _ h _ => h
theorem Fr.trans (h : Fr ts w w') (h' : Fr ts w' w'') : Fr ts w w'':=fun k cs t h1 h2 => h' k cs t (h k cs t h1 h2) h2
theorem Fr.mono (h : Fr ts w w') (hs : ∀ t,t ∈ ts → t ∈ ts') : Fr ts' w w':=fun k cs t h1 h2 => h k cs t h1 (fun e => h2 (hs t e))
theorem Fr.below (h : Fr ts w w') (hb : Below w'.heap.size w' w'') : Fr ts w w'':=fun k cs t h1 h2 => by
  have h3:=h k cs t h1 h2
  exact (hb.block k (gz_ h3).1).trans h3
theorem Fr.of_below (hb : Below w.heap.size w w') : Fr ts w w':=(Fr.refl ts w).below hb
theorem Fr.alloc (h : Fr ts w w') (o : Obj) : Fr ts w (w'.alloc o):=h.below ((Below.refl _ _).alloc (Nat.le_refl _) o)
theorem Fr.drew (h : Fr ts w w') : Fr ts w w'.drew:=h
theorem Fr.drewN (h : Fr ts w w') (n : Nat) : Fr ts w (w'.drewN n):=h
theorem Fr.set (h : Fr ts w w') {X i : Nat} {t : TypeId} {cs : Array Value} (hX : w'.heap[X]? = some (.cells cs t (0,0))) (ht : t ∈ ts) (u : Value) : Fr ts w (w'.setCell ⟨X,i,none⟩ u):=fun k cs' t' h1 h2 => by
  have h3:=h k cs' t' h1 h2
  refine zjk (a:=⟨X,i,none⟩) ?_ h3
  rintro rfl
  rw [hX] at h3
  injection h3 with h3
  injection h3 with _ h3
  exact h2 (h3 ▸ ht)
theorem Fr.grown (h : Fr ts w w') {B n : Nat} {e : TypeId} {v : Value} {rows : List (List Value)} (how : Ow w' B e n v rows) (he : e ∈ ts) (hg : w'.grownBy w'' v.ownBlock) : Fr ts w w'':=fun k cs t h1 h2 => by
  have h3:=h k cs t h1 h2
  refine zqd hg ?_ h3
  refine how.ne_ h3 ?_
  rintro rfl
  exact h2 he
theorem Fr.ow {B n : Nat} {e : TypeId} {v : Value} {rows : List (List Value)} (h : Fr ts w w') (how : Ow w B e n v rows) (he : e ∉ ts) : Ow w' B e n v rows:=by
  refine ⟨how.1,how.2.1,?_⟩
  rcases how.2.2 with hn | ⟨g,cap,cur,rfl,hg,hh,r⟩
  · exact .inl hn
  · exact .inr ⟨g,cap,cur,rfl,hg,h _ _ _ hh he,r⟩
theorem Fr.box {k : Nat} {cs : Array Value} {t : TypeId} (h : Fr ts w w') (hk : w.heap[k]? = some (.cells cs t (0,0))) (ht : t ∉ ts) : w'.heap[k]? = some (.cells cs t (0,0)):=h k cs t hk ht
end
theorem Ow.apart_ {w w' : World} {B B' n n' : Nat} {e e' : TypeId} {v v' : Value} {rows rows' : List (List Value)} (h : Ow w B e n v rows) (h' : Ow w B' e' n' v' rows') (hne : e ≠ e') (hg : w.grownBy w' v'.ownBlock) : Ow w' B e n v rows:=by
  refine h.grown hg ?_
  cases hv : v.ownBlock with
  | none => exact Or.inl rfl
  | some k =>
    refine Or.inr ?_
    rcases h.2.2 with ⟨rfl,_⟩ | ⟨g,cap,cur,rfl,_,hh,_⟩
    · simp [Value.ownBlock] at hv
    · have : g = k:=by simpa [Value.ownBlock] using hv
      subst this
      exact h'.ne_ hh (fun x => hne x.symm)
theorem Ow.aside {w : World} {B X n i : Nat} {e t : TypeId} {v : Value} {cs : Array Value} {rows : List (List Value)} (h : Ow w B e n v rows) (hx : w.heap[X]? = some (.cells cs t (0,0))) (hne : e ≠ t) (u : Value) : Ow (w.setCell ⟨X,i,none⟩ u) B e n v rows :=
  h.grown (zqh (World.grownBy.refl w (some X)) i u) (Or.inr (h.ne_ hx hne).symm)
theorem zqb {w : World} {X i n : Nat} {u : Value} {x : Obj} (h : n ≠ X) (k : w.heap[n]? = some x) : (w.setCell ⟨X,i,none⟩ u).heap[n]? = some x:=zjk (a:=⟨X,i,none⟩) h k
end Go.Proofs.YtdbmkfmenfcbiaaGreat
namespace Go.Proofs.YtdbmkfmenfcbiaaGreat
section
variable {P : Program} {md : Region.Mode} {ops0 : Array Oper} {o : Oper} {Q : Exit → Act → World → Prop} {S : World → Prop}
def waitsAll2 (md : Region.Mode) (ops0 : Array Oper) (o : Oper) : Bool :=
 ((List.range ops0.size).all fun i => (o.after.toList.any fun e => Region.binds md e && (e.on == i)) ||
  ((List.range ops0.size).any fun k => decide (i < k) && match ops0[k]? with | some x => x.after.toList.any fun e' => Region.binds md e' && (e'.on == i) | none => false)) &&
 o.after.toList.all fun e => !Region.binds md e || decide (e.on < ops0.size)
def Closed (md : Region.Mode) (ops0 : Array Oper) (listed : Array Bool) : Prop:=∀ (j : Nat) (x : Oper),ops0[j]? = some x → listed.getD j false = true → ∀ e ∈ x.after,Region.binds md e = true → listed.getD e.on false = true
theorem zpm (h : waitsAll2 md ops0 o = true) {listed : Array Bool} (hc : Closed md ops0 listed) (hd : ∀ e ∈ o.after,Region.binds md e = true → listed.getD e.on false = true) : ∀ i,i < ops0.size → listed.getD i false = true:=by
 simp only [waitsAll2,Bool.and_eq_true] at h
 have key : ∀ n i,ops0.size - i = n → i < ops0.size → listed.getD i false = true:=by
  intro n
  induction n using Nat.strongRecOn with
  | _ n ih =>
   intro i hn hi
   have h1:=List.all_eq_true.1 h.1 i (List.mem_range.2 hi)
   simp only [Bool.or_eq_true] at h1
   rcases h1 with h1 | h1
   ·
    obtain ⟨e,he,h2⟩:=List.any_eq_true.1 h1
    simp only [Bool.and_eq_true,beq_iff_eq] at h2
    obtain ⟨hb,rfl⟩:=h2
    exact hd e (by simpa using he) hb
   ·
    obtain ⟨k,hk,h2⟩:=List.any_eq_true.1 h1
    have hk:=List.mem_range.1 hk
    simp only [Bool.and_eq_true,decide_eq_true_eq] at h2
    obtain ⟨hik,h3⟩:=h2
    cases hx : ops0[k]? with
    | none => rw [hx] at h3;cases h3
    | some x =>
     rw [hx] at h3
     obtain ⟨e',he',h4⟩:=List.any_eq_true.1 h3
     simp only [Bool.and_eq_true,beq_iff_eq] at h4
     obtain ⟨hb',rfl⟩:=h4
     exact hc k x hx (ih (ops0.size - k) (by omega) k rfl hk) e' (by simpa using he') hb'
 exact fun i hi => key _ i rfl hi
theorem zsm (h : waitsAll2 md ops0 o = true) : ∀ e ∈ o.after,Region.binds md e = true → e.on < ops0.size:=fun e he hb => by
 simp only [waitsAll2,Bool.and_eq_true] at h
 have:=List.all_eq_true.1 h.2 e (by simpa using he)
 simpa [hb] using this
theorem zym : Closed md ops0 (Array.replicate ops0.size false):=fun j x hx hl => by
 have hj:=(gz_ hx).1
 simp [Array.getD_eq_getD_getElem?,hj] at hl
theorem zts {listed : Array Bool} (hs : listed.size = ops0.size) (hc : Closed md ops0 listed) {i : Nat} (hi : i ∈ Region.ready md ops0 listed) : Closed md ops0 (listed.setIfInBounds i true):=by
 obtain ⟨_,y,hy,hall⟩:=mem_ready.1 hi
 have his:=(gz_ hy).1
 have up : ∀ k,listed.getD k false = true → (listed.setIfInBounds i true).getD k false = true:=fun k hk => by
  simp only [Array.getD_eq_getD_getElem?] at hk ⊢
  rw [Array.getElem?_setIfInBounds]
  split
  ·
   split <;> simp_all
  ·
   exact hk
 intro j x hx hl e he hb
 by_cases hj : i = j
 ·
  subst hj
  rw [hy] at hx
  cases hx
  exact up _ (hall e he hb)
 ·
  have hl' : listed.getD j false = true:=by
   simp only [Array.getD_eq_getD_getElem?] at hl ⊢
   rwa [Array.getElem?_setIfInBounds_ne hj] at hl
  exact up _ (hc j x hx hl' e he hb)
theorem zkn (hw : waitsAll2 md ops0 o = true) (hb : backOnly md ops0 = true) {listed : Array Bool} (hs : listed.size = ops0.size) (hc : Closed md ops0 listed) {j : Nat} :
  j ∈ Region.ready md (ops0.push o) (listed.push false) ↔ (j ∈ Region.ready md ops0 listed ∨ (j = ops0.size∧∀ i,i < ops0.size → listed.getD i false = true)):=by
 have h2:=zsm hw
 rw [mem_ready,mem_ready]
 by_cases hj : j < ops0.size
 ·
  rw [zkr (by omega),zwu hj]
  constructor
  ·
   rintro ⟨ha,x,hx,hall⟩
   refine .inl ⟨ha,x,hx,fun e he hbe => ?_⟩
   have:=hall e he hbe
   have hlt : e.on < ops0.size:=by
    have h3:=List.all_eq_true.1 hb j (List.mem_range.2 hj)
    simp only [hx] at h3
    have h4:=List.all_eq_true.1 h3 e (by simpa using he)
    simp only [hbe,Bool.not_true,Bool.false_or,decide_eq_true_eq] at h4
    omega
   rwa [zkr (by omega)] at this
  ·
   rintro (⟨ha,x,hx,hall⟩ | ⟨rfl,_⟩)
   ·
    refine ⟨ha,x,hx,fun e he hbe => ?_⟩
    have hlt : e.on < ops0.size:=by
     have h3:=List.all_eq_true.1 hb j (List.mem_range.2 hj)
     simp only [hx] at h3
     have h4:=List.all_eq_true.1 h3 e (by simpa using he)
     simp only [hbe,Bool.not_true,Bool.false_or,decide_eq_true_eq] at h4
     omega
    rw [zkr (by omega)]
    exact hall e he hbe
   ·
    omega
 ·
  by_cases he : j = ops0.size
  ·
   subst he
   constructor
   ·
    rintro ⟨_,x,hx,hall⟩
    have hx' : x = o:=by simpa using hx.symm
    subst hx'
    refine .inr ⟨rfl,zpm hw hc fun e he hbe => ?_⟩
    have:=hall e he hbe
    rwa [zkr (by have:=h2 e he hbe;omega)] at this
   ·
    rintro (⟨_,x,hx,_⟩ | ⟨_,hall⟩)
    ·
     simp at hx
    ·
     refine ⟨by rw [← hs];exact zhh,o,by simp,fun e he hbe => ?_⟩
     have:=h2 e he hbe
     rw [zkr (by omega)]
     exact hall _ this
  ·
   constructor
   ·
    rintro ⟨_,x,hx,_⟩
    rw [Array.getElem?_eq_none (by simp;omega)] at hx
    cases hx
   ·
    rintro (⟨_,x,hx,_⟩ | ⟨rfl,_⟩)
    ·
     rw [Array.getElem?_eq_none (by omega)] at hx
     cases hx
    ·
     exact absurd rfl he
theorem zkp (hw : waitsAll2 md ops0 o = true) (hb : backOnly md ops0 = true) {listed : Array Bool} (hs : listed.size = ops0.size) (hc : Closed md ops0 listed) (hr : Region.ready md ops0 listed = []) {a : Act} {w : World}
  (h : lastQ P (ops0.push o) o Q .normal a w) (f : Nat) : wpAny P md (ops0.push o) Q (f + 1) (listed.push false) a w:=by
 have hall:=zms hb hs hr
 have hend : Region.ready md (ops0.push o) ((listed.push false).setIfInBounds ops0.size true) = []:=by
  refine List.eq_nil_iff_forall_not_mem.2 fun j hj => ?_
  obtain ⟨h1,x,hx,_⟩:=mem_ready.1 hj
  have hjs : j < ops0.size + 1:=by
   have:=(gz_ hx).1
   simpa using this
  rw [← hs] at h1 hjs
  by_cases hjl : j = listed.size
  ·
   subst hjl
   simp [Array.getD_eq_getD_getElem?] at h1
  ·
   have hjlt : j < listed.size:=by omega
   have h3:=hall j (by omega)
   simp [Array.getD_eq_getD_getElem?,Array.getElem_push,hjlt,Ne.symm hjl,Nat.lt_succ_of_lt hjlt] at h1 h3
   rw [h3] at h1
   cases h1
 refine ⟨fun h0 => ?_,fun i hi => ?_⟩
 ·
  have : ops0.size ∈ Region.ready md (ops0.push o) (listed.push false):=(zkn hw hb hs hc).2 (.inr ⟨rfl,hall⟩)
  rw [h0] at this
  cases this
 ·
  rcases (zkn hw hb hs hc).1 hi with hi | ⟨rfl,_⟩
  ·
   rw [hr] at hi
   cases hi
  ·
   have hstep:=h (fun a' w' => wpAny P md (ops0.push o) Q f ((listed.push false).setIfInBounds ops0.size true) a' w') (fun a' w' hq => by
    cases f with
    | zero => exact ⟨hend,hq⟩
    | succ f => exact ⟨fun _ => hq,by rw [hend];simp⟩)
   unfold wpOp
   simp only [Array.getElem?_push_size]
   split
   ·
    rename_i hwd
    rw [if_pos hwd] at hstep
    exact .inl hstep
   ·
    rename_i hwd
    rw [if_neg hwd] at hstep
    exact hstep
theorem zvc (hg : noGuards ops0 = true) (hw : waitsAll2 md ops0 o = true) (hb : backOnly md ops0 = true) : ∀ (f : Nat) (listed : Array Bool) (a : Act) (w : World),listed.size = ops0.size → Closed md ops0 listed →
  wpAnyH P md ops0 (lastQ P (ops0.push o) o Q) S f listed a w → wpAny P md (ops0.push o) Q (f + 1) (listed.push false) a w
 | 0,listed,a,w,hs,hc,h => zkp hw hb hs hc h.1 h.2 0
 | f + 1,listed,a,w,hs,hc,h => by
  by_cases hr : Region.ready md ops0 listed = []
  ·
   exact zkp hw hb hs hc hr (h.1 hr) (f + 1)
  ·
   obtain ⟨j,hj⟩:=List.exists_mem_of_ne_nil _ hr
   have hnot : ¬ ∀ i,i < ops0.size → listed.getD i false = true:=fun hall => by
    obtain ⟨h1,x,hx,_⟩:=mem_ready.1 hj
    have hjs:=(gz_ hx).1
    have:=hall j hjs
    rw [zml (by omega) false true,h1] at this
    cases this
   refine ⟨fun h0 => ?_,fun i hi => ?_⟩
   ·
    have:=(zkn hw hb hs hc).2 (.inl hj)
    rw [h0] at this
    cases this
   ·
    rcases (zkn hw hb hs hc).1 hi with hi | ⟨_,hall⟩
    ·
     have hstep:=h.2 i hi
     obtain ⟨_,x,hx,_⟩:=mem_ready.1 hi
     have his:=(gz_ hx).1
     have hgx : x.guard = none:=by
      have:=List.all_eq_true.1 hg x (by
       have hm : x ∈ ops0:=Array.mem_of_getElem? hx
       simpa using hm)
      simpa using this
     have hset : (listed.push false).setIfInBounds i true = (listed.setIfInBounds i true).push false:=by
      apply Array.ext
      ·
       simp
      ·
       intro k h1 h2
       simp only [Array.size_setIfInBounds,Array.size_push] at h1
       by_cases hk : k < listed.size
       ·
        rw [Array.getElem_push,dif_pos (by simpa using hk)]
        rw [Array.getElem_setIfInBounds,Array.getElem_setIfInBounds,Array.getElem_push,dif_pos hk]
        simp
        omega
       ·
        have : k = listed.size:=by omega
        subst this
        have hne : i ≠ listed.size:=by omega
        simp [Array.getElem_push,hne]
     have key : ∀ a' w',(S w'∧wpAnyH P md ops0 (lastQ P (ops0.push o) o Q) S f (listed.setIfInBounds i true) a' w') → wpAny P md (ops0.push o) Q (f + 1) ((listed.push false).setIfInBounds i true) a' w':=fun a' w' h' => by
      rw [hset]
      exact zvc hg hw hb f _ a' w' (by simpa using hs) (zts hs hc hi) h'.2
     unfold wpOp at hstep ⊢
     rw [zwu his]
     simp only [hx] at hstep ⊢
     have hwd : ∀ y : Nat → Option Bool,Region.wanted x y = true:=fun y => by simp [Region.wanted,hgx]
     rw [if_pos (hwd _)] at hstep ⊢
     rcases hstep with hstep | ⟨h1,h2⟩
     ·
      exact .inl (upon_Q key (fun _ _ _ h => h) (fun h => h) hstep)
     ·
      exact .inr ⟨h1,h2⟩
    ·
     exact absurd hall hnot
theorem zhf {ops : Array Oper} {id : Nat} {a : Act} {w : World} (he : ops = ops0.push o) (hm : P.follows .mixedOrders = true) (hg : noGuards ops0 = true) (hw : waitsAll2 .any ops0 o = true) (hb : backOnly .any ops0 = true)
  (hS : S w.drew) (h : S w.drew → wpAnyH P .any ops0 (lastQ P ops o Q) S ops0.size (Array.replicate ops0.size false) a w.drew) : (Code.region id ops true).wp P Q a w:=by
 subst he
 refine wp_region_any hm ?_
 have:=zvc hg hw hb ops0.size (Array.replicate ops0.size false) a w.drew (by simp) zym (h hS)
 rw [Array.size_push,Array.replicate_succ]
 exact this
end
theorem zkq {P : Program} {o : Oper} {Q : Exit → Act → World → Prop} {S : World → Prop} {l : List Oper} {id : Nat} {a : Act} {w : World} (ho : l.getLast? = some o) (hm : P.follows .mixedOrders = true) (hg : noGuards l.dropLast.toArray = true) (hw : waitsAll2 .any l.dropLast.toArray o = true) (hb : backOnly .any l.dropLast.toArray = true)
  (hS : S w.drew) (h : S w.drew → wpAnyH P .any l.dropLast.toArray (lastQ P l.toArray o Q) S l.dropLast.toArray.size (Array.replicate l.dropLast.toArray.size false) a w.drew) : (Code.region id l.toArray true).wp P Q a w:=by
 refine zhf (S:=S) (ops0:=l.dropLast.toArray) (o:=o) ?_ hm hg hw hb hS h
 have hne : l ≠ []:=fun e => by subst e;cases ho
 have h1:=List.dropLast_concat_getLast hne
 have h2 : l.getLast hne = o:=by rw [List.getLast?_eq_some_getLast hne] at ho;injection ho
 rw [h2] at h1
 rw [List.push_toArray,h1]
end Go.Proofs.YtdbmkfmenfcbiaaGreat
namespace Go.Proofs.YtdbmkfmenfcbiaaGreat
open Go.RowKit

structure Line where
  Kind : Int
  Ch : Int
  Amt : Int
def Line.cells (d : Line) : List Value:=[.int .i64 d.Kind,.int .i64 d.Ch,.int .i64 d.Amt]
theorem Line.uni (l : List Line) : ∀ r ∈ l.map Line.cells,r.length = 3:=by
  intro r hr
  obtain ⟨d,_,rfl⟩:=List.mem_map.1 hr
  rfl
theorem Line.of_flat {cs : List Value} (h0 : flat [true,true,true] cs) : ∃ d : Line,cs = d.cells∧True:=by
  obtain ⟨a0,cs0,e0,h1⟩:=zxz h0
  obtain ⟨a1,cs1,e1,h2⟩:=zxz h1
  obtain ⟨a2,cs2,e2,h3⟩:=zxz h2
  have e3:=zvg h3
  subst e0 e1 e2 e3
  exact ⟨⟨a0,a1,a2⟩,rfl,trivial⟩
theorem Line.rd {w : World} {B : Nat} {A : Option Addr} {l : List Line} (h : Rd w B 3 A (l.map Line.cells)) {k : Nat} (hk : k < l.length) :
    ∃ b off,A = some ⟨b,off,none⟩∧b < B∧w.cell? ⟨b,off + k * 3,none⟩ = some (.int .i64 l[k].Kind)∧w.cell? ⟨b,off + k * 3 + 1,none⟩ = some (.int .i64 l[k].Ch)∧w.cell? ⟨b,off + k * 3 + 2,none⟩ = some (.int .i64 l[k].Amt):=by
  obtain ⟨b,off,e,hb,hc⟩:=h.2 (by rw [List.length_map];omega)
  have hk' : (l.map Line.cells)[k]? = some l[k].cells:=by rw [List.getElem?_map,List.getElem?_eq_getElem hk];rfl
  exact ⟨b,off,e,hb,hc k _ 0 _ hk' rfl,hc k _ 1 _ hk' rfl,hc k _ 2 _ hk' rfl⟩
theorem Line.fl (l : List Line) {k : Nat} (hk : k < l.length) : (l.map Line.cells).flatten[k * 3]? = some (.int .i64 l[k].Kind)∧(l.map Line.cells).flatten[k * 3 + 1]? = some (.int .i64 l[k].Ch)∧(l.map Line.cells).flatten[k * 3 + 2]? = some (.int .i64 l[k].Amt):=by
  have hk' : (l.map Line.cells)[k]? = some l[k].cells:=by rw [List.getElem?_map,List.getElem?_eq_getElem hk];rfl
  exact ⟨zxa _ 3 (Line.uni l) k 0 _ hk' (by omega),zxa _ 3 (Line.uni l) k 1 _ hk' (by omega),zxa _ 3 (Line.uni l) k 2 _ hk' (by omega)⟩
end Go.Proofs.YtdbmkfmenfcbiaaGreat
namespace Go.Proofs.YtdbmkfmenfcbiaaGreat
open Go.RowKit

def divB (a b c : Int) : Bool:=decide (a * b / c ≤ 1125899906842624)
def divQ (a b c : Int) : Int:=if divB a b c = true then a * b / c else 0
def divR (a b c : Int) : Int:=if divB a b c = true then a * b % c else 0
def DivAt (a b c q r : Int) (i : Nat) : Prop:=q * c + r = a / 2 ^ i * b∧0 ≤ r∧r < c∧0 ≤ q
theorem DivAt.end_ {a b c q r : Int} (h : DivAt a b c q r 0) : q = a * b / c∧r = a * b % c:=by
  obtain ⟨h1,h2,h3,_⟩:=h
  rw [Int.pow_zero,Int.ediv_one] at h1
  have hc : c ≠ 0:=by omega
  rw [← h1]
  constructor
  · rw [Int.add_comm,Int.add_mul_ediv_right _ _ hc,Int.ediv_eq_zero_of_lt h2 h3,Int.zero_add]
  · rw [Int.add_comm,Int.add_mul_emod_self_right,Int.emod_eq_of_lt h2 h3]
theorem zgi (a : Int) (i : Nat) : a / 2 ^ i = 2 * (a / 2 ^ (i + 1)) + a / 2 ^ i % 2:=by
  have : a / 2 ^ (i + 1) = a / 2 ^ i / 2:=by rw [Int.pow_succ,Int.ediv_ediv_of_nonneg (Int.pow_nonneg (by decide))]
  rw [this]
  omega
theorem bit_one (x : Int) (h0 : 0 ≤ x) (h1 : x < 4611686018427387904) : bits .and .i64 x 1 = x % 2:=by
  have h:=bits_mask .i64 62 (by decide) (fun n h0 h1 => IntWalk.i64_in n ⟨by omega,by omega⟩) 1 (by decide) x h0 (by omega)
  simpa using h
theorem zpy {a b c q r : Int} {i : Nat} (hc : 1 ≤ c) (ha : 0 ≤ a) (hb : 0 ≤ b) (h : q * c + r = a / 2 ^ i * b) (hr : 0 ≤ r) (hq : 1125899906842624 < q) : divB a b c = false:=by
  have h1 : a / 2 ^ i ≤ a:=Int.ediv_le_self _ ha
  have h2 : a / 2 ^ i * b ≤ a * b:=Int.mul_le_mul_of_nonneg_right h1 hb
  have h3 : q ≤ a * b / c:=(Int.le_ediv_iff_mul_le (by omega)).2 (by omega)
  simp only [divB,decide_eq_false_iff_not]
  omega
theorem div_step {a b c q r : Int} {j : Nat} (h : q * c + r = a / 2 ^ (j + 1) * b) : (2 * q + a / 2 ^ j % 2 * (b / c)) * c + (2 * r + a / 2 ^ j % 2 * (b % c)) = a / 2 ^ j * b:=by
  have e:=zgi a j
  have e2 : b / c * c + b % c = b:=by rw [Int.mul_comm];exact Int.mul_ediv_add_emod b c
  generalize a / 2 ^ j % 2 = t at *
  generalize a / 2 ^ (j + 1) = x at *
  rw [e]
  calc (2 * q + t * (b / c)) * c + (2 * r + t * (b % c)) = 2 * (q * c + r) + t * (b / c * c + b % c):=by simp only [Int.add_mul,Int.mul_add,Int.mul_assoc];omega
    _ = (2 * x + t) * b:=by rw [h,e2,Int.add_mul,Int.mul_assoc]
theorem zmp (a b c : Int) (w : World) (ha : 0 ≤ a∧a ≤ 1125899906842624) (hb : 0 ≤ b∧b ≤ 1125899906842624) (hc : 1 ≤ c∧c ≤ 1125899906842624) :
    Calls Tryz.prog 167 #[.int .i64 a,.int .i64 b,.int .i64 c] w fun e w' => e = .returned (.tuple #[.int .i64 (divQ a b c),.int .i64 (divR a b c),.bool (divB a b c)])∧w = w':=by
  obtain ⟨a1,a2⟩:=ha
  obtain ⟨b1,b2⟩:=hb
  obtain ⟨c1,c2⟩:=hc
  go_enter Tryz.func167,Tryz.ntmps167
  go_wp2_with fail
  go_loopw [9,10,11] (fun q r i wr => ∃ (k : Nat) (q' r' : Int),k ≤ 51∧i = .int .i64 ((k : Int) - 1)∧q = .int .i64 q'∧r = .int .i64 r'∧DivAt a b c q' r' k∧q' ≤ 1125899906842624∧w = wr) (fun _ _ i _ => ((intOf i) + 1).toNat)
  case atStart =>
    refine ⟨51,0,0,by omega,rfl,rfl,rfl,⟨?_,by omega,by omega,by omega⟩,by omega,rfl⟩
    rw [Int.ediv_eq_zero_of_lt a1 (by have : (2 : Int) ^ 51 = 2251799813685248 := by decide
                                      omega)]
    simp
  case round =>
    obtain ⟨k,q',r',hk,rfl,rfl,rfl,hd,hq,rfl⟩:=hrel
    by_cases hk0 : 0 < k
    · obtain ⟨j,rfl⟩ : ∃ j,k = j + 1:=⟨k - 1,by omega⟩
      obtain ⟨d1,d2,d3,d4⟩:=hd
      have hstep:=div_step d1
      have y0 : 0 ≤ a / 2 ^ j:=Int.ediv_nonneg a1 (Int.pow_nonneg (by decide))
      have y1 : a / 2 ^ j ≤ a:=Int.ediv_le_self _ a1
      have hb1:=bit_one _ y0 (by omega)
      have g0 : 0 ≤ b / c:=Int.ediv_nonneg b1 (by omega)
      have g1 : b / c ≤ b:=Int.ediv_le_self _ b1
      have g2 : 0 ≤ b % c:=Int.emod_nonneg _ (by omega)
      have g3 : b % c < c:=Int.emod_lt_of_pos _ (by omega)
      rcases (by omega : a / 2 ^ j % 2 = 0 ∨ a / 2 ^ j % 2 = 1) with t | t
      · have hbit : (bits BinOp.and IntKind.i64 (a / 2 ^ j) 1 == 1) = false:=by rw [hb1,t];rfl
        rw [t,Int.zero_mul,Int.zero_mul,Int.add_zero,Int.add_zero] at hstep
        have HS:=hd_ hstep
        clear hstep hb1 t d1
        go_wp2_with fail
        go_loopw [9,10] (fun q r wr => ∃ q2 r2 : Int,q = .int .i64 q2∧r = .int .i64 r2∧q2 * c + r2 = a / 2 ^ j * b∧0 ≤ r2∧0 ≤ q2∧q2 + r2 ≤ 6755399441055744∧w = wr) (fun _ r _ => (intOf r).toNat)
        case atStart => exact ⟨_,_,rfl,rfl,HS.out,by omega,by omega,by omega,rfl⟩
        case round =>
          obtain ⟨q2,r2,rfl,rfl,p1,p2,p3,p4,rfl⟩:=hrel
          have HP:=hd_ p1
          clear p1
          by_cases hge : c ≤ r2
          · go_wp2_with fail
            go_roundw
            case rel => exact ⟨q2 + 1,r2 - c,by go_num,by go_num,by rw [Int.add_mul,Int.one_mul];have:=HP.out;omega,by omega,by omega,by omega,trivial⟩
            case measure => simp [intOf];omega
          · have hge2 : decide (c ≤ r2) = false:=decide_eq_false hge
            by_cases hbig : 1125899906842624 < q2
            · have hno:=zpy c1 a1 b1 HP.out p2 hbig
              go_wp2_with fail
              refine bodyPost_ret (v:=.tuple #[.int .i64 0,.int .i64 0,.bool false]) (by simp [results,Tryz.results167,go_sem]) rfl ⟨by simp [divQ,divR,hno],rfl⟩
            · have hbig2 : decide (1125899906842624 < q2) = false:=decide_eq_false hbig
              go_wp2_with fail
              go_roundw
              case rel => exact ⟨j,q2,r2,by omega,by go_num,rfl,rfl,⟨HP.out,p2,by omega,p3⟩,by omega,trivial⟩
              case measure => simp [intOf]
      · have hbit : (bits BinOp.and IntKind.i64 (a / 2 ^ j) 1 == 1) = true:=by rw [hb1,t];rfl
        rw [t,Int.one_mul,Int.one_mul] at hstep
        have HS:=hd_ hstep
        clear hstep hb1 t d1
        go_wp2_with fail
        go_loopw [9,10] (fun q r wr => ∃ q2 r2 : Int,q = .int .i64 q2∧r = .int .i64 r2∧q2 * c + r2 = a / 2 ^ j * b∧0 ≤ r2∧0 ≤ q2∧q2 + r2 ≤ 6755399441055744∧w = wr) (fun _ r _ => (intOf r).toNat)
        case atStart => exact ⟨_,_,rfl,rfl,HS.out,by omega,by omega,by omega,rfl⟩
        case round =>
          obtain ⟨q2,r2,rfl,rfl,p1,p2,p3,p4,rfl⟩:=hrel
          have HP:=hd_ p1
          clear p1
          by_cases hge : c ≤ r2
          · go_wp2_with fail
            go_roundw
            case rel => exact ⟨q2 + 1,r2 - c,by go_num,by go_num,by rw [Int.add_mul,Int.one_mul];have:=HP.out;omega,by omega,by omega,by omega,trivial⟩
            case measure => simp [intOf];omega
          · have hge2 : decide (c ≤ r2) = false:=decide_eq_false hge
            by_cases hbig : 1125899906842624 < q2
            · have hno:=zpy c1 a1 b1 HP.out p2 hbig
              go_wp2_with fail
              refine bodyPost_ret (v:=.tuple #[.int .i64 0,.int .i64 0,.bool false]) (by simp [results,Tryz.results167,go_sem]) rfl ⟨by simp [divQ,divR,hno],rfl⟩
            · have hbig2 : decide (1125899906842624 < q2) = false:=decide_eq_false hbig
              go_wp2_with fail
              go_roundw
              case rel => exact ⟨j,q2,r2,by omega,by go_num,rfl,rfl,⟨HP.out,p2,by omega,p3⟩,by omega,trivial⟩
              case measure => simp [intOf]
    · obtain rfl : k = 0:=by omega
      obtain ⟨e1,e2⟩:=hd.end_
      have hy : divB a b c = true:=by simp only [divB,decide_eq_true_eq];omega
      clear hd
      go_wp2_with fail
      refine bodyPost_ret (v:=.tuple #[.int .i64 q',.int .i64 r',.bool true]) (by simp [results,Tryz.results167,go_sem]) rfl ⟨by simp [divQ,divR,hy,e1,e2],rfl⟩
end Go.Proofs.YtdbmkfmenfcbiaaGreat
namespace Go.Proofs.YtdbmkfmenfcbiaaGreat
open Go.RowKit

/-! ### Plain -/
def accB (k c : Int) : Bool:=if inB k 6 8 = true then inB c 1 99 else inB k 1 5 && decide (c = 0)
def lessB (k c k' c' : Int) : Bool:=decide (k < k') || (decide (k = k') && decide (c < c'))
def rangeB (n : Int) : Bool:=inB n (-1125899906842624) 1125899906842624
def lineAt (l : List Line) (i : Nat) : Bool :=
  match l[i]? with
  | some x => accB x.Kind x.Ch && (!(x.Amt == 0)) && rangeB x.Amt && (decide (i = 0) || match l[i - 1]? with | some p => lessB p.Kind p.Ch x.Kind x.Ch | none => false)
  | none => true
def allTo (k : Nat) (p : Nat → Bool) : Bool:=(List.range k).all p
def lineSum (l : List Line) : Int:=l.foldl (fun s x => s + x.Amt) 0
def linesB (l : List Line) : Bool:=allTo l.length (lineAt l) && decide (lineSum l = 0)
set_option maxHeartbeats 1000000 in
theorem zyp (k c k' c' : Int) (w : World) :
    Calls Tryz.prog 151 #[.agg #[.int .i64 k,.int .i64 c],.agg #[.int .i64 k',.int .i64 c']] w fun e w' => e = .returned (.bool (lessB k c k' c'))∧Below w.heap.size w w':=by
  by_cases h1 : k < k'
  · have HE:=hd_ (show lessB k c k' c' = true by simp [lessB,h1])
    go_enter Tryz.func151,Tryz.ntmps151
    go_wp2_with fail
    go_ret
    exact ⟨zqj (by rw [HE.out]),bl_⟩
  · have h1' : decide (k < k') = false:=decide_eq_false h1
    cases h2 : (k == k')
    · have HE:=hd_ (show lessB k c k' c' = false by simp only [beq_eq_false_iff_ne] at h2;simp [lessB,h1,h2])
      go_enter Tryz.func151,Tryz.ntmps151
      go_wp2_with fail
      go_ret
      exact ⟨zqj (by rw [HE.out]),bl_⟩
    · by_cases h3 : c < c'
      · have HE:=hd_ (show lessB k c k' c' = true by simp only [beq_iff_eq] at h2;simp [lessB,h2,h3])
        go_enter Tryz.func151,Tryz.ntmps151
        go_wp2_with fail
        go_ret
        exact ⟨zqj (by rw [HE.out]),bl_⟩
      · have HE:=hd_ (show lessB k c k' c' = false by simp only [beq_iff_eq] at h2;simp [lessB,h2];omega)
        have h3' : decide (c < c') = false:=decide_eq_false h3
        go_enter Tryz.func151,Tryz.ntmps151
        go_wp2_with fail
        go_ret
        exact ⟨zqj (by rw [HE.out]),bl_⟩
set_option maxHeartbeats 1000000 in
theorem zsc (k c k' c' : Int) (w : World) :
    Calls Tryz.prog 154 #[.agg #[.int .i64 k,.int .i64 c],.agg #[.int .i64 k',.int .i64 c']] w fun e w' => e = .returned (.bool (lessB k c k' c'))∧Below w.heap.size w w':=by
  by_cases h1 : k < k'
  · have HE:=hd_ (show lessB k c k' c' = true by simp [lessB,h1])
    go_enter Tryz.func154,Tryz.ntmps154
    go_wp2_with fail
    go_ret
    exact ⟨zqj (by rw [HE.out]),bl_⟩
  · have h1' : decide (k < k') = false:=decide_eq_false h1
    cases h2 : (k == k')
    · have HE:=hd_ (show lessB k c k' c' = false by simp only [beq_eq_false_iff_ne] at h2;simp [lessB,h1,h2])
      go_enter Tryz.func154,Tryz.ntmps154
      go_wp2_with fail
      go_ret
      exact ⟨zqj (by rw [HE.out]),bl_⟩
    · by_cases h3 : c < c'
      · have HE:=hd_ (show lessB k c k' c' = true by simp only [beq_iff_eq] at h2;simp [lessB,h2,h3])
        go_enter Tryz.func154,Tryz.ntmps154
        go_wp2_with fail
        go_ret
        exact ⟨zqj (by rw [HE.out]),bl_⟩
      · have HE:=hd_ (show lessB k c k' c' = false by simp only [beq_iff_eq] at h2;simp [lessB,h2];omega)
        have h3' : decide (c < c') = false:=decide_eq_false h3
        go_enter Tryz.func154,Tryz.ntmps154
        go_wp2_with fail
        go_ret
        exact ⟨zqj (by rw [HE.out]),bl_⟩
end Go.Proofs.YtdbmkfmenfcbiaaGreat
namespace Go.Proofs.YtdbmkfmenfcbiaaGreat
open Go.ChangeShapes Go.WideShapes Go.ChangeAt Go.RowKit Go.Deep
theorem zvx {P : Program} {w : World} {ops : Array Oper} {o : Oper} {a : Act} {K : Act → World → Prop} {Q : Exit → Act → World → Prop} {E : Prop} (hgd : o.guard = none) (s x : Operand) (t : TypeId)
  (ho : o.op = .call { callee:=.builtin .append,args:=#[s,x],argTypes:=#[t,t] })
  (e : TypeId) (i : TypeInfo) (ht : P.underlying t = some (.slice e)) (hi : P.info? e = some i)
  (A0 : Option Addr) (n c0 : Nat) (hn : n ≤ c0) (A : Option Addr) (c : Nat) (hs : a.eval s = .slice A0 n c0) (hx : a.eval x = .slice A 0 c)
  (h : K (a.put o.dst (.slice A0 n c0)) w) : if Region.wanted o (yielded ops a.tmps) = true then Oper.wp P o a w K Q else E:=by
 have hw : Region.wanted o (yielded ops a.tmps) = true:=by simp [Region.wanted,hgd]
 rw [if_pos hw]
 have hrun : (Builtin.append_ #[t,t] o.type #[.slice A0 n c0,.slice A 0 c]).run P w = .ok (.slice A0 n c0) w:=by
  cases A <;> cases A0 <;> simp [Builtin.append_,run_underlying ht,sizeOf,typeInfo,hi,Builtin.lenOf,Builtin.firstCells,loadCells,loadCellsFrom,storeCells,hn]
 unfold Oper.wp
 simp [execOp,ho,resolve,invoke,builtin,hs,hx,hrun,Result.andThen]
 exact h
theorem zto {P : Program} {w : World} {ops : Array Oper} {o : Oper} {a : Act} {K : Act → World → Prop} {Q : Exit → Act → World → Prop} {E : Prop} (hgd : o.guard = none) (s x : Operand) (t : TypeId)
  (ho : o.op = .call { callee:=.builtin .append,args:=#[s,x],argTypes:=#[t,t] })
  (B : Nat) (e : TypeId) (i : TypeInfo) (z : Value) (size bytes : Nat) (ht : P.underlying t = some (.slice e)) (hi : P.info? e = some i) (hz : i.zero = some z)
  (hsize : i.size = size) (hby : i.bytes = bytes) (hzs : z.cells.size = size) (hsz : 0 < size)
  (A0 : Option Addr) (c0 : Nat) (rows : List (List Value)) (n : Nat) (hn : n = rows.length) (hs : a.eval s = .slice A0 n c0) (how : Ow w B e size (.slice A0 n c0) rows)
  (A : Option Addr) (c : Nat) (rows2 : List (List Value)) (m : Nat) (hm : m = rows2.length) (hx : a.eval x = .slice A m c) (B2 : Nat) (hr : Rd w B2 size A rows2) (h1 : ∀ u ∈ rows2.flatten,u.oneCell' = true)
  (hlen : rows.length + rows2.length ≤ 4194304) (hbytes : bytes ≤ 4096) (hbase : B ≤ w.heap.size)
  (h : ∀ A' cap w',Ow w' B e size (.slice A' (n + m) cap) (rows ++ rows2) → Below B w w' → w.grownBy w' (Value.slice A0 n c0).ownBlock → K (a.put o.dst (.slice A' (n + m) cap)) w') : if Region.wanted o (yielded ops a.tmps) = true then Oper.wp P o a w K Q else E:=by
 subst hn
 subst hm
 obtain ⟨A1,cap1,hv,_,hcap,_⟩:=how.form
 simp only [Value.slice.injEq] at hv
 obtain ⟨rfl,_,rfl⟩:=hv
 by_cases hn : 0 < rows2.length
 ·
  obtain ⟨b,off,rfl,hb,hc⟩:=hr.flat hsz hn
  refine step_append_lies w hgd s x t ho B e i z size bytes ht hi hz hsize hby hzs hsz (.slice A0 rows.length c0) rows.length rows.flatten hs how.2 ⟨b,off,none⟩ rows2.length c rows2.flatten hx (zxu rows2 size hr.1)
   (fun j u hu => by
    have:=hc j u hu
    rwa [show (⟨b,off,none⟩ : Addr).add j = ⟨b,off + j,none⟩ by unfold Addr.add;split <;> simp_all]) h1 hn (by simp only [maxLen];omega) (by
    have : (rows.length + rows2.length) * bytes ≤ 4194304 * 4096:=Nat.mul_le_mul hlen hbytes
    omega) hbase w.heap.size rfl ?_
  intro g cap w' hown hgr _ _
  refine h _ cap w' ⟨?_,?_⟩ ((Below.refl B w).grown hgr hbase (fun k e => (how.block k e).1)) hgr
  ·
   intro r hr'
   rcases List.mem_append.1 hr' with hr' | hr'
   ·
    exact how.1 r hr'
   ·
    exact hr.1 r hr'
  ·
   rw [List.length_append,List.flatten_append]
   exact hown
 ·
  have h0 : rows2 = []:=List.eq_nil_of_length_eq_zero (by omega)
  subst h0
  exact zvx hgd s x t ho e i ht hi A0 rows.length c0 hcap A c hs hx (h A0 c0 w (by rw [List.append_nil];exact how) (Below.refl _ _) (World.grownBy.refl _ _))
end Go.Proofs.YtdbmkfmenfcbiaaGreat
namespace Go.Proofs.YtdbmkfmenfcbiaaGreat
open Go.RowKit Go.Deep
theorem zvy {P : Program} {w : World} {ops : Array Oper} {rest : List Oper} {o : Oper} {a : Act} {Q : Exit → Act → World → Prop} (hgd : o.guard = none) (s x : Operand) (t : TypeId)
  (ho : o.op = .call { callee:=.builtin .append,args:=#[s,x],argTypes:=#[t,t] })
  (e : TypeId) (i : TypeInfo) (ht : P.underlying t = some (.slice e)) (hi : P.info? e = some i)
  (A0 : Option Addr) (n c0 : Nat) (hn : n ≤ c0) (A : Option Addr) (c : Nat) (hs : a.eval s = .slice A0 n c0) (hx : a.eval x = .slice A 0 c)
  (h : wpList P ops Q rest (a.put o.dst (.slice A0 n c0)) w) : wpList P ops Q (o :: rest) a w:=by
 refine wpList_plain hgd fun K hK => ?_
 have hrun : (Builtin.append_ #[t,t] o.type #[.slice A0 n c0,.slice A 0 c]).run P w = .ok (.slice A0 n c0) w:=by
  cases A <;> cases A0 <;> simp [Builtin.append_,run_underlying ht,sizeOf,typeInfo,hi,Builtin.lenOf,Builtin.firstCells,loadCells,loadCellsFrom,storeCells,hn]
 unfold Oper.wp
 simp [execOp,ho,resolve,invoke,builtin,hs,hx,hrun,Result.andThen]
 exact hK _ _ h
theorem zjp {P : Program} {w : World} {ops : Array Oper} {rest : List Oper} {o : Oper} {a : Act} {Q : Exit → Act → World → Prop} (hgd : o.guard = none) (s x : Operand) (t : TypeId)
  (ho : o.op = .call { callee:=.builtin .append,args:=#[s,x],argTypes:=#[t,t] })
  (B : Nat) (e : TypeId) (i : TypeInfo) (z : Value) (size bytes : Nat) (ht : P.underlying t = some (.slice e)) (hi : P.info? e = some i) (hz : i.zero = some z)
  (hsize : i.size = size) (hby : i.bytes = bytes) (hzs : z.cells.size = size) (hsz : 0 < size)
  (A0 : Option Addr) (c0 : Nat) (rows : List (List Value)) (n : Nat) (hn : n = rows.length) (hs : a.eval s = .slice A0 n c0) (how : Ow w B e size (.slice A0 n c0) rows)
  (A : Option Addr) (c : Nat) (rows2 : List (List Value)) (m : Nat) (hm : m = rows2.length) (hx : a.eval x = .slice A m c) (B2 : Nat) (hr : Rd w B2 size A rows2) (h1 : ∀ u ∈ rows2.flatten,u.oneCell' = true)
  (hlen : rows.length + rows2.length ≤ 4194304) (hbytes : bytes ≤ 4096) (hbase : B ≤ w.heap.size)
  (h : ∀ A' cap w',Ow w' B e size (.slice A' (n + m) cap) (rows ++ rows2) → Below B w w' → w.grownBy w' (Value.slice A0 n c0).ownBlock → wpList P ops Q rest (a.put o.dst (.slice A' (n + m) cap)) w') : wpList P ops Q (o :: rest) a w:=by
 subst hn
 subst hm
 obtain ⟨A1,cap1,hv,_,hcap,_⟩:=how.form
 simp only [Value.slice.injEq] at hv
 obtain ⟨rfl,_,rfl⟩:=hv
 by_cases hn : 0 < rows2.length
 ·
  obtain ⟨b,off,rfl,hb,hc⟩:=hr.flat hsz hn
  refine wpList_append_lies w hgd s x t ho B e i z size bytes ht hi hz hsize hby hzs hsz (.slice A0 rows.length c0) rows.length rows.flatten hs how.2 ⟨b,off,none⟩ rows2.length c rows2.flatten hx (zxu rows2 size hr.1)
   (fun j u hu => by
    have:=hc j u hu
    rwa [show (⟨b,off,none⟩ : Addr).add j = ⟨b,off + j,none⟩ by unfold Addr.add;split <;> simp_all]) h1 hn (by simp only [maxLen];omega) (by
    have : (rows.length + rows2.length) * bytes ≤ 4194304 * 4096:=Nat.mul_le_mul hlen hbytes
    omega) hbase w.heap.size rfl ?_
  intro g cap w' hown hgr _ _
  refine h _ cap w' ⟨?_,?_⟩ ((Below.refl B w).grown hgr hbase (fun k e => (how.block k e).1)) hgr
  ·
   intro r hr'
   rcases List.mem_append.1 hr' with hr' | hr'
   ·
    exact how.1 r hr'
   ·
    exact hr.1 r hr'
  ·
   rw [List.length_append,List.flatten_append]
   exact hown
 ·
  have h0 : rows2 = []:=List.eq_nil_of_length_eq_zero (by omega)
  subst h0
  exact zvy hgd s x t ho e i ht hi A0 rows.length c0 hcap A c hs hx (h A0 c0 w (by rw [List.append_nil];exact how) (Below.refl _ _) (World.grownBy.refl _ _))
end Go.Proofs.YtdbmkfmenfcbiaaGreat
namespace Go.Proofs.YtdbmkfmenfcbiaaGreat
open Go.RowKit
/-! ### Places, sums -/
def notId (ch : Int) (c : Chan) : Bool:=c.Id != ch
def chanIx (cs : List Chan) (ch : Int) : Int:=match cs.findIdx? (fun c => !notId ch c) with | some i => (i : Int) | none => -1
theorem zwl {cs : List Chan} {ch : Int} (h : (cs.take cs.length).all (notId ch) = true) : chanIx cs ch = -1:=by
 rw [List.take_length] at h
 have : cs.findIdx? (fun c => !notId ch c) = none:=by
  rw [List.findIdx?_eq_none_iff]
  intro x hx
  simp [List.all_eq_true.1 h x hx]
 unfold chanIx
 rw [this]
theorem zyk {cs : List Chan} {ch : Int} {k : Nat} (hk : k < cs.length) (h : (cs.take k).all (notId ch) = true) (hc : notId ch cs[k] = false) : chanIx cs ch = (k : Int):=by
 have : cs.findIdx? (fun c => !notId ch c) = some k:=by
  rw [List.findIdx?_eq_some_iff_getElem]
  refine ⟨hk,by simp [hc],fun j hj => ?_⟩
  have hm : cs[j] ∈ cs.take k:=by
   rw [List.mem_take_iff_getElem]
   exact ⟨j,by omega,rfl⟩
  simp [List.all_eq_true.1 h _ hm]
 unfold chanIx
 rw [this]
def outH (ch n : Int) (h : Htlc) : Int:=if (h.Out == ch) = true then n + h.AmtOut else n
def inH (ch n : Int) (h : Htlc) : Int:=if (h.In == ch) = true then n + h.AmtIn else n
def outC (ch n : Int) (c : Circle) : Int:=if (c.From == ch) = true then n + (c.Amt + c.Fee) else n
def inC (ch n : Int) (c : Circle) : Int:=if (c.To == ch) = true then n + c.Amt else n
def outOf (hs : List Htlc) (os : List Circle) (ch : Int) : Int:=os.foldl (outC ch) (hs.foldl (outH ch) 0)
def inOf (hs : List Htlc) (os : List Circle) (ch : Int) : Int:=os.foldl (inC ch) (hs.foldl (inH ch) 0)
structure Small (hs : List Htlc) (os : List Circle) : Prop where
 hl : hs.length ≤ 60
 ol : os.length ≤ 20
 h : ∀ k,(hk : k < hs.length) → (0 ≤ hs[k].AmtOut∧hs[k].AmtOut ≤ 1125899906842624)∧(0 ≤ hs[k].AmtIn∧hs[k].AmtIn ≤ 1125899906842624)
 o : ∀ k,(hk : k < os.length) → (0 ≤ os[k].Amt∧os[k].Amt ≤ 1125899906842624)∧(0 ≤ os[k].Fee∧os[k].Fee ≤ 1125899906842624)
theorem Small.outH_bd {hs : List Htlc} {os : List Circle} (s : Small hs os) (ch : Int) : ∀ k,k ≤ hs.length → 0 ≤ (hs.take k).foldl (outH ch) 0∧(hs.take k).foldl (outH ch) 0 ≤ (k : Int) * 1125899906842624
 | 0,_ => by simp
 | k + 1,hk => by
  obtain ⟨h1,h2⟩:=s.outH_bd ch k (by omega)
  obtain ⟨⟨a,b⟩,_⟩:=s.h k (by omega)
  rw [zqq hs _ _ (by omega)]
  unfold outH at h1 h2 ⊢
  split <;> omega
theorem Small.inH_bd {hs : List Htlc} {os : List Circle} (s : Small hs os) (ch : Int) : ∀ k,k ≤ hs.length → 0 ≤ (hs.take k).foldl (inH ch) 0∧(hs.take k).foldl (inH ch) 0 ≤ (k : Int) * 1125899906842624
 | 0,_ => by simp
 | k + 1,hk => by
  obtain ⟨h1,h2⟩:=s.inH_bd ch k (by omega)
  obtain ⟨_,a,b⟩:=s.h k (by omega)
  rw [zqq hs _ _ (by omega)]
  unfold inH at h1 h2 ⊢
  split <;> omega
theorem Small.outC_bd {hs : List Htlc} {os : List Circle} (s : Small hs os) (ch z : Int) (z0 : 0 ≤ z) : ∀ k,k ≤ os.length → 0 ≤ (os.take k).foldl (outC ch) z∧(os.take k).foldl (outC ch) z ≤ z + (k : Int) * 2251799813685248
 | 0,_ => by simp;omega
 | k + 1,hk => by
  obtain ⟨h1,h2⟩:=s.outC_bd ch z z0 k (by omega)
  obtain ⟨⟨a,b⟩,c,d⟩:=s.o k (by omega)
  rw [zqq os _ _ (by omega)]
  unfold outC at h1 h2 ⊢
  split <;> omega
theorem Small.inC_bd {hs : List Htlc} {os : List Circle} (s : Small hs os) (ch z : Int) (z0 : 0 ≤ z) : ∀ k,k ≤ os.length → 0 ≤ (os.take k).foldl (inC ch) z∧(os.take k).foldl (inC ch) z ≤ z + (k : Int) * 1125899906842624
 | 0,_ => by simp;omega
 | k + 1,hk => by
  obtain ⟨h1,h2⟩:=s.inC_bd ch z z0 k (by omega)
  obtain ⟨⟨a,b⟩,c,d⟩:=s.o k (by omega)
  rw [zqq os _ _ (by omega)]
  unfold inC at h1 h2 ⊢
  split <;> omega
theorem Small.out_bd {hs : List Htlc} {os : List Circle} (s : Small hs os) (ch : Int) : 0 ≤ outOf hs os ch∧outOf hs os ch ≤ 112589990684262400:=by
 obtain ⟨h1,h2⟩:=s.outH_bd ch hs.length (Nat.le_refl _)
 rw [List.take_length] at h1 h2
 obtain ⟨h3,h4⟩:=s.outC_bd ch _ h1 os.length (Nat.le_refl _)
 rw [List.take_length] at h3 h4
 have:=s.hl
 have:=s.ol
 unfold outOf
 omega
theorem Small.in_bd {hs : List Htlc} {os : List Circle} (s : Small hs os) (ch : Int) : 0 ≤ inOf hs os ch∧inOf hs os ch ≤ 112589990684262400:=by
 obtain ⟨h1,h2⟩:=s.inH_bd ch hs.length (Nat.le_refl _)
 rw [List.take_length] at h1 h2
 obtain ⟨h3,h4⟩:=s.inC_bd ch _ h1 os.length (Nat.le_refl _)
 rw [List.take_length] at h3 h4
 have:=s.hl
 have:=s.ol
 unfold inOf
 omega
/-! ### Parts -/
def twoB (cs : List Chan) (x y : Int) : Bool:=(x != y) && decide (0 ≤ chanIx cs x) && decide (0 ≤ chanIx cs y)
def htlcB (cs : List Chan) (h : Htlc) : Bool:=twoB cs h.In h.Out && amtB h.AmtIn && inB h.AmtOut 1 h.AmtIn && amtB h.Age
def circB (cs : List Chan) (c : Circle) : Bool:=twoB cs c.From c.To && inB c.Amt 1 1125899906842624 && amtB c.Fee
def hasB (l : List Int) (n : Int) : Bool:=l.any (· == n)
def keysOf (hs : List Htlc) (os : List Circle) : List Int:=hs.map Htlc.Key ++ os.map Circle.Key
def everyTo (k : Nat) (p : Nat → Bool) : Bool:=(List.range k).all p
theorem zjh (k : Nat) (p : Nat → Bool) : everyTo (k + 1) p = (everyTo k p && p k):=by
 unfold everyTo
 rw [List.range_succ,List.all_append]
 simp
theorem everyTo_iff {k : Nat} {p : Nat → Bool} : everyTo k p = true ↔ ∀ i,i < k → p i = true:=by
 simp [everyTo,List.all_eq_true]
theorem zvf {k i : Nat} {p : Nat → Bool} (hi : i < k) (h : p i = false) : everyTo k p = false:=by
 cases hu : everyTo k p
 ·
  rfl
 ·
  rw [everyTo_iff.1 hu i hi] at h
  cases h
def keyAt (ks : List Int) (i : Nat) : Bool:=match ks[i]? with | some k => inB k 1 1000000 && !hasB (ks.take i) k | none => true
theorem zvj {ks : List Int} {i : Nat} (h : i < ks.length) : keyAt ks i = (inB ks[i] 1 1000000 && !hasB (ks.take i) ks[i]):=by
 unfold keyAt
 rw [List.getElem?_eq_getElem h]
def partsB (cs : List Chan) (hs : List Htlc) (os : List Circle) : Bool:=hs.all (htlcB cs) && os.all (circB cs) && everyTo (keysOf hs os).length (keyAt (keysOf hs os))
theorem zjl {cs : List Chan} {hs : List Htlc} {os : List Circle} {k : Nat} (hk : k < hs.length) (h : htlcB cs hs[k] = false) : partsB cs hs os = false:=by
 unfold partsB
 rw [zyi hs _ hk h]
 rfl
theorem zkg {cs : List Chan} {hs : List Htlc} {os : List Circle} {k : Nat} (hk : k < os.length) (h : circB cs os[k] = false) : partsB cs hs os = false:=by
 unfold partsB
 rw [zyi os _ hk h,Bool.and_false,Bool.false_and]
theorem zvo {cs : List Chan} {hs : List Htlc} {os : List Circle} {k : Nat} (hk : k < (keysOf hs os).length) (h : keyAt (keysOf hs os) k = false) : partsB cs hs os = false:=by
 unfold partsB
 rw [zvf hk h,Bool.and_false]
theorem zkh {cs : List Chan} {hs : List Htlc} {os : List Circle} (h : partsB cs hs os = true) (h60 : hs.length ≤ 60) (h20 : os.length ≤ 20) : Small hs os:=by
 simp only [partsB,Bool.and_eq_true] at h
 refine ⟨h60,h20,fun k hk => ?_,fun k hk => ?_⟩
 ·
  have hh:=List.all_eq_true.1 h.1.1 _ (List.getElem_mem hk)
  simp only [htlcB,Bool.and_eq_true,zxy,zxx] at hh
  omega
 ·
  have hh:=List.all_eq_true.1 h.1.2 _ (List.getElem_mem hk)
  simp only [circB,Bool.and_eq_true,zxy,zxx] at hh
  omega
/-! ### The channels -/
def chB (hs : List Htlc) (os : List Circle) (c : Chan) : Bool :=
 isChanB c.Id && amtB c.Local && amtB c.Remote && amtB c.Base && inB c.Ppm 0 1000000 && inB c.Score (-100) 100 && amtB c.Size && (c.Size == c.Local + c.Remote + outOf hs os c.Id + inOf hs os c.Id)
def chanOk (cs : List Chan) (hs : List Htlc) (os : List Circle) (i : Nat) : Bool :=
 match cs[i]? with
 | some c => chB hs os c && (decide (i = 0) || match cs[i - 1]? with | some p => decide (p.Id < c.Id) | none => false)
 | none => true
theorem zkd {cs : List Chan} {hs : List Htlc} {os : List Circle} (hk : 0 < cs.length) : chanOk cs hs os 0 = chB hs os cs[0]:=by
 unfold chanOk
 rw [List.getElem?_eq_getElem hk]
 simp
theorem zjz {cs : List Chan} {hs : List Htlc} {os : List Circle} {j : Nat} (hk : j + 1 < cs.length) (hj : j < cs.length) : chanOk cs hs os (j + 1) = (chB hs os cs[j + 1] && decide (cs[j].Id < cs[j + 1].Id)):=by
 have e2 : cs[j + 1 - 1]? = some cs[j]:=List.getElem?_eq_getElem hj
 unfold chanOk
 rw [List.getElem?_eq_getElem hk,e2]
 simp
def bookB (bt bn bw : Int) (cs : List Chan) (hs : List Htlc) (os : List Circle) : Bool :=
 amtB bt && amtB bw && inB bn 1 1125899906842624 && decide (cs.length ≤ 20) && decide (hs.length ≤ 60) && decide (os.length ≤ 20) && partsB cs hs os && everyTo cs.length (chanOk cs hs os)
structure BookFacts (bt bn bw : Int) (cs : List Chan) (hs : List Htlc) (os : List Circle) : Prop where
 t : 0 ≤ bt∧bt ≤ 1125899906842624
 w : 0 ≤ bw∧bw ≤ 1125899906842624
 n : 1 ≤ bn∧bn ≤ 1125899906842624
 cl : cs.length ≤ 20
 small : Small hs os
 parts : partsB cs hs os = true
 ch : ∀ k,(hk : k < cs.length) → chB hs os cs[k] = true
theorem zxp {bt bn bw : Int} {cs : List Chan} {hs : List Htlc} {os : List Circle} (h : bookB bt bn bw cs hs os = true) : BookFacts bt bn bw cs hs os:=by
 simp only [bookB,Bool.and_eq_true,zxy,zxx,decide_eq_true_eq] at h
 obtain ⟨⟨⟨⟨⟨⟨⟨h1,h2⟩,h3⟩,h4⟩,h5⟩,h6⟩,h7⟩,h8⟩:=h
 refine ⟨h1,h2,h3,h4,zkh h7 h5 h6,h7,fun k hk => ?_⟩
 have:=everyTo_iff.1 h8 k hk
 cases k with
 | zero => rwa [zkd hk] at this
 | succ j =>
  rw [zjz hk (by omega),Bool.and_eq_true] at this
  exact this.1
end Go.Proofs.YtdbmkfmenfcbiaaGreat
namespace Go.Proofs.YtdbmkfmenfcbiaaGreat
open Go.RowKit

end Go.Proofs.YtdbmkfmenfcbiaaGreat
namespace Go.Proofs.YtdbmkfmenfcbiaaGreat
open Go.RowKit

end Go.Proofs.YtdbmkfmenfcbiaaGreat
namespace Go.Proofs.YtdbmkfmenfcbiaaGreat
abbrev Stp:=Nat × Option Nat × Bool × Option (Nat × Bool)
abbrev yF (i d : Nat) : Stp:=(i,some d,false,none)
abbrev yT (i d : Nat) : Stp:=(i,some d,true,none)
abbrev yN (i : Nat) : Stp:=(i,none,true,none)
abbrev yG (i d s : Nat) : Stp:=(i,some d,false,some (s,true))
abbrev yH (i d s : Nat) : Stp:=(i,some d,false,some (s,false))
def guardOk (ops : Array Oper) (o : Oper) (g : Option (Nat × Bool)) : Bool :=
 match o.guard,g with
 | none,none => true
 | some (j,b),some (s,c) => b == c && (match ops[j]? with | some x => x.dst == some s | none => false)
 | _,_ => false
def wantedAt (g : Option (Nat × Bool)) (a : Act) : Bool :=
 match g with
 | none => true
 | some (s,b) => match a.tmps.toList[s]? with | some (.bool x) => x == b | _ => false
theorem ztq {ops : Array Oper} {o : Oper} {g : Option (Nat × Bool)} (h : guardOk ops o g = true) (a : Act) : Region.wanted o (yielded ops a.tmps) = wantedAt g a:=by
 unfold guardOk at h
 unfold Region.wanted wantedAt
 split at h
 ·
  rename_i hg
  rw [hg]
 ·
  rename_i j b s c hg
  rw [hg]
  simp only [Bool.and_eq_true,beq_iff_eq] at h
  obtain ⟨rfl,h⟩:=h
  split at h
  ·
   rename_i x hx
   simp only [beq_iff_eq] at h
   simp only [yielded,hx,Option.bind_some,h,Array.getElem?_toList]
   split <;> rename_i hv <;> simp [hv]
  ·
   cases h
 ·
  cases h
section
variable {P : Program} {md : Region.Mode} {ops : Array Oper} {Q : Exit → Act → World → Prop} {S : World → Prop}
def orderOk (md : Region.Mode) (ops : Array Oper) : List Stp → Array Bool → Bool
 | [],_ => true
 | (i,d,e,g) :: is,l => (match ops[i]? with | some o => o.dst == d && guardOk ops o g | none => false) && (if e then Region.ready md ops l == [i] else Region.free md ops l i && (Region.ready md ops l).contains i) && orderOk md ops is (l.setIfInBounds i true)
def listAll : List Stp → Array Bool → Array Bool
 | [],l => l
 | (i,_) :: is,l => listAll is (l.setIfInBounds i true)
def Sq (P : Program) (ops : Array Oper) (Q : Exit → Act → World → Prop) (S : World → Prop) (F : Act → World → Prop) : List Stp → Act → World → Prop
 | [],a,w => F a w
 | (i,d,e,g) :: is,a,w => ∃ o,ops[i]? = some o∧((∃ v,((wantedAt g a = true∧∀ w,S w → (execOp a.eval o).run P w = .ok (.value v) w) ∨ (wantedAt g a = false∧v = undef))∧Sq P ops Q S F is (a.put d v) w) ∨
   (e = true∧wantedAt g a = true∧∀ K' : Act → World → Prop,Shut (∀ a w,S w → (S w → Sq P ops Q S F is a w) → K' a w) → Oper.wp P o a w K' Q))
variable {F : Act → World → Prop}
theorem Sq.take {i : Nat} {d : Option Nat} {g : Option (Nat × Bool)} {o : Oper} {v : Value} {is : List Stp} {a : Act} {w : World} (ho : ops[i]? = some o) (hw : wantedAt g a = true) (hy : ∀ w,S w → (execOp a.eval o).run P w = .ok (.value v) w) {a' : Act} (ha : a.put d v = a')
  (h : Sq P ops Q S F is a' w) : Sq P ops Q S F ((i,d,false,g) :: is) a w:=⟨o,ho,.inl ⟨v,.inl ⟨hw,hy⟩,ha ▸ h⟩⟩
theorem Sq.skip {i : Nat} {d : Option Nat} {e : Bool} {g : Nat × Bool} {o : Oper} {is : List Stp} {a : Act} {w : World} (ho : ops[i]? = some o) (hw : wantedAt (some g) a = false) {a' : Act} (ha : a.put d undef = a')
  (h : Sq P ops Q S F is a' w) : Sq P ops Q S F ((i,d,e,some g) :: is) a w:=⟨o,ho,.inl ⟨undef,.inr ⟨hw,rfl⟩,ha ▸ h⟩⟩
theorem Sq.step {i : Nat} {d : Option Nat} {g : Option (Nat × Bool)} {o : Oper} {is : List Stp} {a : Act} {w : World} (ho : ops[i]? = some o) (hw : wantedAt g a = true) (h : ∀ K' : Act → World → Prop,Shut (∀ a w,S w → (S w → Sq P ops Q S F is a w) → K' a w) → Oper.wp P o a w K' Q) :
  Sq P ops Q S F ((i,d,true,g) :: is) a w:=⟨o,ho,.inr ⟨rfl,hw,h⟩⟩
theorem Sq.done {a : Act} {w : World} (h : F a w) : Sq P ops Q S F [] a w:=h
theorem zmc {i : Nat} {d : Option Nat} {g : Option (Nat × Bool)} {is : List Stp} {fuel : Nat} {listed : Array Bool} {a : Act} {w : World} {o : Oper} (ho : ops[i]? = some o) (hd : o.dst = d) (hg : guardOk ops o g = true)
  (next : ∀ a w,S w → Sq P ops Q S F is a w → wpAnyH P md ops Q S fuel (listed.setIfInBounds i true) a w) {e : Bool} (hS : S w) (h : Sq P ops Q S F ((i,d,e,g) :: is) a w) :
  ∀ K' : Act → World → Prop,Shut (∀ a w,S w → (S w → wpAnyH P md ops Q S fuel (listed.setIfInBounds i true) a w) → K' a w) → if Region.wanted o (yielded ops a.tmps) = true then Oper.wp P o a w K' Q else K' (a.put o.dst undef) w:=by
 intro K hK
 subst hd
 obtain ⟨o',ho',h⟩:=h
 rw [ho] at ho'
 cases ho'
 have hwa:=ztq hg a
 rcases h with ⟨v,hy,h⟩ | ⟨rfl,hw,h⟩
 ·
  rw [← hwa] at hy
  have hk:=hK.out (a.put o.dst v) w hS (fun hS => next _ w hS h)
  rcases hy with ⟨hw,hy⟩ | ⟨hw,rfl⟩
  ·
   rw [if_pos hw]
   simp only [Oper.wp,hy w hS,Oper.upon]
   exact hk
  ·
   rw [if_neg (by rw [hw];decide)]
   exact hk
 ·
  rw [if_pos (hwa.trans hw)]
  exact h K (fun a w hS hq => hK.out a w hS (fun hS => next a w hS (hq hS)))
theorem zjj (hs : Region.noSelect ops = true) (hQ : ∀ c a d v w,Q (.panic c) (a.put d v) w → Q (.panic c) a w) : ∀ (is : List Stp) (fuel : Nat) (listed : Array Bool) (a : Act) (w : World),is.length ≤ fuel → orderOk md ops is listed = true → S w → (∀ a w,S w → F a w → wpAnyH P md ops Q S (fuel - is.length) (listAll is listed) a w) →
  Sq P ops Q S F is a w → wpAnyH P md ops Q S fuel listed a w
 | [],fuel,listed,a,w,_,_,hS,hF,h => hF a w hS h
 | (i,d,e,g) :: is,0,listed,a,w,hl,_,_,_,_ => absurd hl (by simp)
 | (i,d,e,g) :: is,fuel + 1,listed,a,w,hl,hok,hS,hF,h => by
  have hl' : is.length ≤ fuel:=by simpa using hl
  have hF' : ∀ a w,S w → F a w → wpAnyH P md ops Q S (fuel - is.length) (listAll is (listed.setIfInBounds i true)) a w:=by
   intro a w hS hf
   have:=hF a w hS hf
   simpa [listAll,Nat.succ_sub_succ] using this
  have h0:=h
  obtain ⟨o,ho,h⟩:=h
  simp only [orderOk,ho,Bool.and_eq_true,beq_iff_eq] at hok
  obtain ⟨⟨⟨hd,hg⟩,hok1⟩,hok2⟩:=hok
  have next : ∀ a w,S w → Sq P ops Q S F is a w → wpAnyH P md ops Q S fuel (listed.setIfInBounds i true) a w:=fun a w hS hq => zjj hs hQ is fuel _ a w hl' hok2 hS hF' hq
  cases e with
  | true =>
   simp only [if_true,beq_iff_eq] at hok1
   exact wpAnyH_ready hok1 (by simp) (AllReadyH.cons ho (zmc ho hd hg next hS h0) AllReadyH.nil)
  | false =>
   subst hd
   simp only [Bool.false_eq_true,if_false,Bool.and_eq_true] at hok1
   have hwa:=ztq hg a
   rcases h with ⟨v,hy,h⟩ | ⟨hc,_⟩
   ·
    rw [← hwa] at hy
    exact wpAnyH_take ho hs hok1.1 hok1.2 (fun c a w => hQ c a _ v w) hy hS (next _ w hS h)
   ·
    cases hc
theorem NoPanic.hQ {Q : Exit → Act → World → Prop} : ∀ c (a : Act) d v w,NoPanic Q (.panic c) (a.put d v) w → NoPanic Q (.panic c) a w:=fun _ _ _ _ _ h => h.elim
def orderAll (md : Region.Mode) (ops : Array Oper) (is : List Stp) : Bool:=decide (is.length ≤ ops.size) && orderOk md ops is (Array.replicate ops.size false) && (Region.ready md ops (listAll is (Array.replicate ops.size false))).isEmpty
theorem zqw (S : World → Prop) (is : List Stp) {id : Nat} {a : Act} {w : World} (hm : P.follows .mixedOrders = true) (hs : Region.noSelect ops = true) (hok : orderAll .any ops is = true) (hS : S w.drew)
  (h : S w.drew → Sq P ops (NoPanic Q) S (NoPanic Q .normal) is a w.drew) : (Code.region id ops true).wp P Q a w:=by
 simp only [orderAll,Bool.and_eq_true,decide_eq_true_eq,List.isEmpty_iff] at hok
 exact wp_region_noPanic (wp_region_held_drew hm hS fun hS => zjj hs NoPanic.hQ is _ _ _ _ hok.1.1 hok.1.2 hS (fun a w _ hf => wpAnyH_done hok.2 hf _) (h hS))
theorem zxb (S : World → Prop) (is : List Stp) {o : Oper} {l : List Oper} {id : Nat} {a : Act} {w : World} (ho : l.getLast? = some o) (hm : P.follows .mixedOrders = true) (hg : noGuards l.dropLast.toArray = true) (hw : waitsAll2 .any l.dropLast.toArray o = true) (hb : backOnly .any l.dropLast.toArray = true)
  (hs : Region.noSelect l.dropLast.toArray = true) (hok : orderAll .any l.dropLast.toArray is = true)
  (hS : S w.drew) (h : S w.drew → Sq P l.dropLast.toArray (lastQ P l.toArray o (NoPanic Q)) S (lastQ P l.toArray o (NoPanic Q) .normal) is a w.drew) : (Code.region id l.toArray true).wp P Q a w:=by
 simp only [orderAll,Bool.and_eq_true,decide_eq_true_eq,List.isEmpty_iff] at hok
 exact wp_region_noPanic (zkq ho hm hg hw hb hS fun hS => zjj hs (fun _ _ _ _ _ h => h) is _ _ _ _ hok.1.1 hok.1.2 hS (fun a w _ hf => wpAnyH_done hok.2 hf _) (h hS))
/-! ### two operations may come up: two orders behind a common beginning -/
def headOk (ops : Array Oper) : List Stp → Option Nat
 | (i,d,e,g) :: _ => match ops[i]? with | some o => if o.dst == d && guardOk ops o g && e then some i else none | none => none
 | [] => none
def orderTwo (md : Region.Mode) (ops : Array Oper) (pre o1 o2 : List Stp) : Bool :=
 decide (pre.length + o1.length ≤ ops.size) && decide (pre.length + o2.length ≤ ops.size) && orderOk md ops pre (Array.replicate ops.size false) &&
 (match headOk ops o1,headOk ops o2 with
  | some i,some j => Region.ready md ops (listAll pre (Array.replicate ops.size false)) == [i,j] &&
   orderOk md ops o1.tail ((listAll pre (Array.replicate ops.size false)).setIfInBounds i true) && (Region.ready md ops (listAll o1.tail ((listAll pre (Array.replicate ops.size false)).setIfInBounds i true))).isEmpty &&
   orderOk md ops o2.tail ((listAll pre (Array.replicate ops.size false)).setIfInBounds j true) && (Region.ready md ops (listAll o2.tail ((listAll pre (Array.replicate ops.size false)).setIfInBounds j true))).isEmpty
  | _,_ => false)
theorem zwn {l : List Stp} {i : Nat} (h : headOk ops l = some i) : ∃ d g is o,l = (i,d,true,g) :: is∧ops[i]? = some o∧o.dst = d∧guardOk ops o g = true:=by
 unfold headOk at h
 split at h
 ·
  rename_i i' d e g is
  split at h
  ·
   rename_i o ho
   split at h
   ·
    rename_i hc
    simp only [Bool.and_eq_true,beq_iff_eq] at hc
    obtain ⟨⟨hd,hg⟩,rfl⟩:=hc
    cases h
    exact ⟨d,g,is,o,rfl,ho,hd,hg⟩
   ·
    cases h
  ·
   cases h
 ·
  cases h
theorem zvr (S : World → Prop) (pre o1 o2 : List Stp) {id : Nat} {a : Act} {w : World} (hm : P.follows .mixedOrders = true) (hs : Region.noSelect ops = true) (hok : orderTwo .any ops pre o1 o2 = true) (hS : S w.drew)
  (h : S w.drew → Sq P ops (NoPanic Q) S (fun a w => Sq P ops (NoPanic Q) S (NoPanic Q .normal) o1 a w∧Sq P ops (NoPanic Q) S (NoPanic Q .normal) o2 a w) pre a w.drew) : (Code.region id ops true).wp P Q a w:=by
 simp only [orderTwo,Bool.and_eq_true,decide_eq_true_eq] at hok
 obtain ⟨⟨⟨hl1,hl2⟩,hpre⟩,hok⟩:=hok
 refine wp_region_noPanic (wp_region_held_drew hm hS fun hS => zjj hs NoPanic.hQ pre _ _ _ _ (by omega) hpre hS (fun a w hS hf => ?_) (h hS))
 split at hok
 ·
  rename_i i j h1 h2
  simp only [Bool.and_eq_true,beq_iff_eq,List.isEmpty_iff] at hok
  obtain ⟨⟨⟨⟨hr,ok1⟩,e1⟩,ok2⟩,e2⟩:=hok
  obtain ⟨d1,g1,t1,p1,rfl,ho1,hd1,hg1⟩:=zwn h1
  obtain ⟨d2,g2,t2,p2,rfl,ho2,hd2,hg2⟩:=zwn h2
  simp only [List.length_cons,List.tail_cons] at hl1 hl2 ok1 ok2 e1 e2
  obtain ⟨n,hn⟩ : ∃ n,ops.size - pre.length = n + 1:=⟨ops.size - pre.length - 1,by omega⟩
  rw [hn]
  refine wpAnyH_ready hr (by simp) (AllReadyH.cons ho1 ?_ (AllReadyH.cons ho2 ?_ AllReadyH.nil))
  ·
   exact zmc ho1 hd1 hg1 (fun a w hS hq => zjj hs NoPanic.hQ t1 n _ a w (by omega) ok1 hS (fun a w _ hf => wpAnyH_done e1 hf _) hq) hS hf.1
  ·
   exact zmc ho2 hd2 hg2 (fun a w hS hq => zjj hs NoPanic.hQ t2 n _ a w (by omega) ok2 hS (fun a w _ hf => wpAnyH_done e2 hf _) hq) hS hf.2
 ·
  cases hok
end
theorem zyb {ops : Array Oper} {o : Oper} {a : Act} {X E : Prop} (hg : o.guard = none) (h : if Region.wanted o (yielded ops a.tmps) = true then X else E) : X:=by
 rwa [if_pos (by simp [Region.wanted,hg])] at h
theorem zjc {K : Act → World → Prop} {a : Act} {w : World} (h : ∀ wq,wq = w → K a wq) : K a w:=h w rfl
theorem meet {α : Type} {F G : α → World → Prop} {X : Prop} (h1 : (∀ x w,F x w → G x w) → X) (h2 : ∀ x w,F x w → G x w) : X:=h1 h2
theorem zjs {K : Act → World → Prop} {Q : Exit → Act → World → Prop} {e : Exit} {a : Act} {w : World} (h : ∀ wq,wq = w → Exit.then K Q e a wq) : Exit.then K Q e a w:=h w rfl
theorem zja {P : Program} {f : Nat} {vs : Array Value} {Q : Ending → World → Prop} {w : World} (h : ∀ wq,wq = w → Calls P f vs wq Q) : Calls P f vs w Q:=h w rfl
theorem nw_ {P : Program} {c : Go.Code} {Q : Exit → Act → World → Prop} {a : Act} {w : World} (h : ∀ wq,wq = w → Go.Code.wp P c Q a wq) : Go.Code.wp P c Q a w:=h w rfl
theorem nl_ {P : Program} {ops : Array Oper} {Q : Exit → Act → World → Prop} {l : List Oper} {a : Act} {w : World} (h : ∀ wq,wq = w → wpList P ops Q l a wq) : wpList P ops Q l a w:=h w rfl
theorem nb_ {n : Nat} {Q : Exit → Act → World → Prop} {e : Exit} {a : Act} {w : World} (h : ∀ wq,wq = w → Exit.inBlock n Q e a wq) : Exit.inBlock n Q e a w:=h w rfl
theorem nr_ {P : Program} {f : Func} {Q : Ending → World → Prop} {e : Exit} {a : Act} {w : World} (h : ∀ wq,wq = w → bodyPost P f Q e a wq) : bodyPost P f Q e a w:=h w rfl
theorem nm_ {p q : Prop} (h : q) (f : q → p:=by intro hq;first | exact zja hq | exact nw_ hq | exact zjs hq | exact nr_ hq | exact nl_ hq | exact nb_ hq) : p:=f h
theorem tk_ {p q : Prop} (h : q) (f : q → p:=by
  intro hq
  (repeat (first
   | (refine Sq.take (v:=?_) (a':=?_) rfl (by rfl) ?_ ?_ ?_;rotate_left;(focus (intro w hSw;(try dsimp only at hSw);go_simp;(try with_reducible rfl);done));rotate_left;(focus (simp only [Act.put,List.setIfInBounds_toArray,List.set_cons_succ,List.set_cons_zero];rfl)))
   | (refine Sq.skip (a':=?_) rfl (by rfl) ?_ ?_;rotate_left;(focus (simp only [Act.put,List.setIfInBounds_toArray,List.set_cons_succ,List.set_cons_zero];rfl)))))
  exact hq) : p:=f h
end Go.Proofs.YtdbmkfmenfcbiaaGreat
namespace Go.Proofs.YtdbmkfmenfcbiaaGreat
open Go

structure Bk where
  t : Int
  n : Int
  w : Int
  cs : List Chan
  hs : List Htlc
  os : List Circle
def bk0 : Bk:=⟨0,0,0,[],[],[]⟩
def Bk.ok (b : Bk) : Bool:=bookB b.t b.n b.w b.cs b.hs b.os
abbrev bkC (b : Bk) (A : Option Addr) (p : Nat) (B : Option Addr) (q : Nat) (C : Option Addr) (r : Nat) : Array Value:=#[.int .i64 b.t,.int .i64 b.n,.int .i64 b.w,.slice A b.cs.length p,.slice B b.hs.length q,.slice C b.os.length r]
end Go.Proofs.YtdbmkfmenfcbiaaGreat
namespace Go.Proofs.YtdbmkfmenfcbiaaGreat
open Go.RowKit
theorem zxg (n : Int) (w : World) :
  Calls Tryz.prog 140 #[.int .i64 n] w fun e w' => e = .returned (.bool (inB n 1 1000000))∧w = w':=by
 go_enter Tryz.func140,Tryz.ntmps140
 go_wp2_with (go_at_call 82;refine (i_in _ _ _ _).mono ?_;rintro e w' ⟨rfl,rfl⟩)
 go_ret
 exact ⟨rfl,rfl⟩
theorem zxl (n : Int) (w : World) :
  Calls Tryz.prog 85 #[.int .i64 n] w fun e w' => e = .returned (.bool (inB n (-100) 100))∧w = w':=by
 go_enter Tryz.func85,Tryz.ntmps85
 go_wp2_with (go_at_call 82;refine (i_in _ _ _ _).mono ?_;rintro e w' ⟨rfl,rfl⟩)
 go_ret
 exact ⟨rfl,rfl⟩
theorem zxd (n : Int) (w : World) :
  Calls Tryz.prog 58 #[.int .i64 n] w fun e w' => e = .returned (.bool (inB n (-100) 100))∧w = w':=by
 by_cases h1 : -100 ≤ n <;> by_cases h2 : n ≤ 100
 all_goals
  go_enter Tryz.func58,Tryz.ntmps58
  go_wp2
  all_goals go_ret
  all_goals exact ⟨by simp [inB,h1,h2] <;> omega,rfl⟩
set_option maxRecDepth 100000 in
set_option maxHeartbeats 1000000 in
theorem zkw (bt bn bw : Int) (cs : List Chan) (hs : List Htlc) (os : List Circle) (A1 A2 A3 : Option Addr) (p1 p2 p3 : Nat) (ch : Int) (w : World) (hl : cs.length ≤ 1048576) (hr : RdBook w w.heap.size A1 cs A2 hs A3 os) :
  Calls Tryz.prog 139 #[.agg #[.int .i64 bt,.int .i64 bn,.int .i64 bw,.slice A1 cs.length p1,.slice A2 hs.length p2,.slice A3 os.length p3],.int .i64 ch] w fun e w' => e = .returned (.int .i64 (chanIx cs ch))∧Below w.heap.size w w':=by
 have HR:=hd_ hr.c
 clear hr
 go_enter Tryz.func139,Tryz.ntmps139
 go_wp2_with fail
 go_loopw [10] (fun i wr => ∃ k : Nat,k ≤ cs.length∧i = .int .i64 k∧Hid ((cs.take k).all (notId ch) = true)∧Below w.heap.size w wr) (fun i _ => cs.length - (intOf i).toNat)
 case atStart => exact ⟨0,Nat.zero_le _,rfl,hd_ rfl,bl_⟩
 case round =>
  obtain ⟨k,hk,rfl,HA,hbw⟩:=hrel
  have hbz:=hbw.size
  by_cases hlt : k < cs.length
  ·
   obtain ⟨b,off,rfl,hbB,c0,c1,c2,c3,c4,c5,c6⟩:=Chan.rd (HR.out.below hbw) hlt
   cases hch : (cs[k].Id == ch)
   ·
    have HC:=hd_ (show notId ch cs[k] = true by simp [notId,bne,hch])
    go_wp2_with fail
    go_roundw
    case rel => exact ⟨k + 1,by omega,by go_num,hd_ (by rw [zjb cs _ hlt,HA.out,HC.out];rfl),bl_⟩
    case measure => simp [intOf];omega
   ·
    have HC:=hd_ (show notId ch cs[k] = false by simp [notId,bne,hch])
    go_wp2_with fail
    go_ret
    exact ⟨zxk (zyk hlt HA.out HC.out).symm,bl_⟩
  ·
   obtain rfl : k = cs.length:=by omega
   go_wp2_with fail
   go_ret
   exact ⟨zxk (zwl HA.out).symm,bl_⟩
set_option maxRecDepth 100000 in
set_option maxHeartbeats 1000000 in
theorem zjf (bt bn bw : Int) (cs : List Chan) (hs : List Htlc) (os : List Circle) (A1 A2 A3 : Option Addr) (p1 p2 p3 : Nat) (ch : Int) (w : World) (hl : cs.length ≤ 1048576) (hr : RdBook w w.heap.size A1 cs A2 hs A3 os) :
  Calls Tryz.prog 68 #[.agg #[.int .i64 bt,.int .i64 bn,.int .i64 bw,.slice A1 cs.length p1,.slice A2 hs.length p2,.slice A3 os.length p3],.int .i64 ch] w fun e w' => e = .returned (.int .i64 (chanIx cs ch))∧Below w.heap.size w w':=by
 have HR:=hd_ hr.c
 clear hr
 go_enter Tryz.func68,Tryz.ntmps68
 go_wp2_with fail
 go_loopw [9] (fun i wr => ∃ k : Nat,k ≤ cs.length∧i = .int .i64 k∧Hid ((cs.take k).all (notId ch) = true)∧wr.heap[w.heap.size]? = some (.cells #[.int .i64 bt,.int .i64 bn,.int .i64 bw,.slice A1 cs.length p1,.slice A2 hs.length p2,.slice A3 os.length p3] 39 (0,0))∧Below w.heap.size w wr) (fun i _ => cs.length - (intOf i).toNat)
 case atStart => exact ⟨0,Nat.zero_le _,rfl,hd_ rfl,zqm rfl,bl_⟩
 case round =>
  obtain ⟨k,hk,rfl,HA,hbox,hbw⟩:=hrel
  have hbz:=hbw.size
  obtain ⟨eh,e0,e1,e2,e3,e4,e5,ef,ezz⟩:=own6 (Below.refl wr.heap.size wr) (gz_ hbox).1 hbox
  have EH:=hd_ eh
  clear eh hbox
  by_cases hlt : k < cs.length
  ·
   obtain ⟨b,off,rfl,hbB,c0,c1,c2,c3,c4,c5,c6⟩:=Chan.rd (HR.out.below hbw) hlt
   have i1 : (0 : Int) ≤ (k : Int):=by omega
   have i2 : (k : Int) < (cs.length : Int):=by omega
   cases hch : (cs[k].Id == ch)
   ·
    have HC:=hd_ (show notId ch cs[k] = true by simp [notId,bne,hch])
    go_wp2_with fail
    go_roundw
    case rel => exact ⟨k + 1,by omega,by go_num,hd_ (by rw [zjb cs _ hlt,HA.out,HC.out];rfl),EH.out,bl_⟩
    case measure => simp [intOf];omega
   ·
    have HC:=hd_ (show notId ch cs[k] = false by simp [notId,bne,hch])
    go_wp2_with fail
    go_ret
    exact ⟨zxk (zyk hlt HA.out HC.out).symm,bl_⟩
  ·
   obtain rfl : k = cs.length:=by omega
   go_wp2_with fail
   go_ret
   exact ⟨zxk (zwl HA.out).symm,bl_⟩
def intCells (x : Int) : List Value:=[.int .i64 x]
theorem zvu {w : World} {B : Nat} {A : Option Addr} {l : List Int} (h : Rd w B 1 A (l.map intCells)) {k : Nat} (hk : k < l.length) :
  ∃ b off,A = some ⟨b,off,none⟩∧b < B∧w.cell? ⟨b,off + k,none⟩ = some (.int .i64 l[k]):=by
 obtain ⟨b,off,e,hb,hc⟩:=h.2 (by rw [List.length_map];omega)
 have hk' : (l.map intCells)[k]? = some (intCells l[k]):=by rw [List.getElem?_map,List.getElem?_eq_getElem hk];rfl
 have:=hc k _ 0 _ hk' rfl
 rw [Nat.mul_one,Nat.add_zero] at this
 exact ⟨b,off,e,hb,this⟩
theorem zju {α : Type} (l : List α) (p : α → Bool) {k : Nat} (hk : k < l.length) : (l.take (k + 1)).any p = ((l.take k).any p || p l[k]):=by
 rw [List.take_succ_eq_append_getElem hk,List.any_append]
 simp
theorem zvz {α : Type} (l : List α) (p : α → Bool) {k : Nat} (hk : k < l.length) (h : p l[k] = true) : l.any p = true:=by
 rw [List.any_eq_true]
 exact ⟨l[k],List.getElem_mem hk,h⟩
theorem i_hasInt (l : List Int) (n : Int) (A : Option Addr) (cap : Nat) (w : World) (hl : l.length ≤ 1048576) (hr : Rd w w.heap.size 1 A (l.map intCells)) :
  Calls Tryz.prog 141 #[.slice A l.length cap,.int .i64 n] w fun e w' => e = .returned (.bool (hasB l n))∧w = w':=by
 have HR:=hd_ hr
 clear hr
 go_enter Tryz.func141,Tryz.ntmps141
 go_wp2_with fail
 go_loop [9] (fun i => ∃ k : Nat,k ≤ l.length∧i = .int .i64 k∧Hid ((l.take k).any (· == n) = false)) (fun i => l.length - (intOf i).toNat)
 case atStart => exact ⟨0,Nat.zero_le _,rfl,hd_ rfl⟩
 case round =>
  obtain ⟨k,hk,rfl,HA⟩:=hrel
  by_cases hlt : k < l.length
  ·
   obtain ⟨b,off,rfl,hbB,c0⟩:=zvu HR.out hlt
   cases hch : (l[k] == n)
   ·
    have HC:=hd_ hch
    go_wp2_with fail
    go_round
    case rel => exact ⟨k + 1,by omega,by go_num,hd_ (by rw [zju l _ hlt,HA.out,HC.out];rfl)⟩
    case measure => simp [intOf];omega
   ·
    have HC:=hd_ hch
    go_wp2_with fail
    go_ret
    exact ⟨zqj (zvz l _ hlt HC.out).symm,rfl⟩
  ·
   obtain rfl : k = l.length:=by omega
   have ha:=HA.out
   rw [List.take_length] at ha
   have HA2:=hd_ ha
   clear ha
   go_wp2_with fail
   go_ret
   exact ⟨zqj HA2.out.symm,rfl⟩
theorem zkc (l : List Int) (n : Int) (A : Option Addr) (cap : Nat) (w : World) (hl : l.length ≤ 1048576) (hr : Rd w w.heap.size 1 A (l.map intCells)) :
  Calls Tryz.prog 106 #[.slice A l.length cap,.int .i64 n] w fun e w' => e = .returned (.bool (hasB l n))∧w = w':=by
 have HR:=hd_ hr
 clear hr
 go_enter Tryz.func106,Tryz.ntmps106
 go_wp2_with fail
 go_loop [9] (fun i => ∃ k : Nat,k ≤ l.length∧i = .int .i64 k∧Hid ((l.take k).any (· == n) = false)) (fun i => l.length - (intOf i).toNat)
 case atStart => exact ⟨0,Nat.zero_le _,rfl,hd_ rfl⟩
 case round =>
  obtain ⟨k,hk,rfl,HA⟩:=hrel
  by_cases hlt : k < l.length
  ·
   obtain ⟨b,off,rfl,hbB,c0⟩:=zvu HR.out hlt
   cases hch : (l[k] == n)
   ·
    have HC:=hd_ hch
    go_wp2_with fail
    go_round
    case rel => exact ⟨k + 1,by omega,by go_num,hd_ (by rw [zju l _ hlt,HA.out,HC.out];rfl)⟩
    case measure => simp [intOf];omega
   ·
    have HC:=hd_ hch
    go_wp2_with fail
    go_ret
    exact ⟨zqj (zvz l _ hlt HC.out).symm,rfl⟩
  ·
   obtain rfl : k = l.length:=by omega
   have ha:=HA.out
   rw [List.take_length] at ha
   have HA2:=hd_ ha
   clear ha
   go_wp2_with fail
   go_ret
   exact ⟨zqj HA2.out.symm,rfl⟩
theorem zhz (bt bn bw : Int) (cs : List Chan) (hs : List Htlc) (os : List Circle) (A1 A2 A3 : Option Addr) (p1 p2 p3 : Nat) (x y : Int) (w : World) (g : Nat) (hg : w.heap[g]? = some (.cells #[.int .i64 bt,.int .i64 bn,.int .i64 bw,.slice A1 cs.length p1,.slice A2 hs.length p2,.slice A3 os.length p3] 39 (0,0))) (hl : cs.length ≤ 1048576) (hr : RdBook w w.heap.size A1 cs A2 hs A3 os) :
  Calls Tryz.prog 138 #[.int .i64 x,.int .i64 y,.pointer (some ⟨g,0,none⟩)] w fun e w' => e = .returned (.bool (twoB cs x y))∧Below w.heap.size w w':=by
 have HR:=hd_ hr
 clear hr
 obtain ⟨eh,e0,e1,e2,e3,e4,e5,ef,ez⟩:=own6 (Below.refl w.heap.size w) (gz_ hg).1 hg
 have EH:=hd_ eh
 clear eh hg
 cases hxy : (x != y)
 ·
  have HE:=hd_ (show twoB cs x y = false by simp [twoB,hxy])
  go_enter Tryz.func138,Tryz.ntmps138
  go_wp2_with fail
  go_ret
  exact ⟨zqj HE.out.symm,bl_⟩
 ·
  have TW:=hd_ (show twoB cs x y = (decide (0 ≤ chanIx cs x) && decide (0 ≤ chanIx cs y)) by simp [twoB,hxy])
  cases hx : decide (0 ≤ chanIx cs x)
  ·
   have HE:=hd_ (show twoB cs x y = false by rw [TW.out,hx];rfl)
   go_enter Tryz.func138,Tryz.ntmps138
   go_wp2_with fail
   refine (zkw bt bn bw cs hs os A1 A2 A3 p1 p2 p3 x _ hl ((HR.out.below (bl_)).more (by first | omega | (simp;omega) | (simp;done)))).mono ?_
   rintro e w1 ⟨rfl,hb1⟩
   have z1:=hb1.size
   try simp at z1
   go_wp2_with fail
   go_ret
   exact ⟨zqj HE.out.symm,bl_⟩
  ·
   have HE:=hd_ (show twoB cs x y = decide (0 ≤ chanIx cs y) by rw [TW.out,hx];rfl)
   go_enter Tryz.func138,Tryz.ntmps138
   go_wp2_with fail
   refine (zkw bt bn bw cs hs os A1 A2 A3 p1 p2 p3 x _ hl ((HR.out.below (bl_)).more (by first | omega | (simp;omega) | (simp;done)))).mono ?_
   rintro e w1 ⟨rfl,hb1⟩
   have z1:=hb1.size
   try simp at z1
   obtain ⟨_,k0,k1,k2,k3,k4,k5,kf,kz⟩:=own6 hb1 ez EH.out
   go_wp2_with fail
   refine (zkw bt bn bw cs hs os A1 A2 A3 p1 p2 p3 y _ hl ((HR.out.below (bl_)).more (by first | omega | (simp;omega) | (simp;done)))).mono ?_
   rintro e w2 ⟨rfl,hb2⟩
   have z2:=hb2.size
   try simp at z2
   go_wp2_with fail
   go_ret
   exact ⟨zqj HE.out.symm,bl_⟩
theorem zxw (bt bn bw : Int) (cs : List Chan) (hs : List Htlc) (os : List Circle) (A1 A2 A3 : Option Addr) (p1 p2 p3 : Nat) (x y : Int) (w : World) (hl : cs.length ≤ 1048576) (hr : RdBook w w.heap.size A1 cs A2 hs A3 os) :
  Calls Tryz.prog 104 #[.agg #[.int .i64 bt,.int .i64 bn,.int .i64 bw,.slice A1 cs.length p1,.slice A2 hs.length p2,.slice A3 os.length p3],.int .i64 x,.int .i64 y] w fun e w' => e = .returned (.bool (twoB cs x y))∧Below w.heap.size w w':=by
 have HR:=hd_ hr
 clear hr
 cases hxy : (x != y)
 ·
  have HE:=hd_ (show twoB cs x y = false by simp [twoB,hxy])
  go_enter Tryz.func104,Tryz.ntmps104
  go_wp2_with fail
  go_ret
  exact ⟨zqj HE.out.symm,bl_⟩
 ·
  have TW:=hd_ (show twoB cs x y = (decide (0 ≤ chanIx cs x) && decide (0 ≤ chanIx cs y)) by simp [twoB,hxy])
  cases hx : decide (0 ≤ chanIx cs x)
  ·
   have HE:=hd_ (show twoB cs x y = false by rw [TW.out,hx];rfl)
   go_enter Tryz.func104,Tryz.ntmps104
   go_wp2_with fail
   refine (zjf bt bn bw cs hs os A1 A2 A3 p1 p2 p3 x _ hl ((HR.out.below (bl_)).more (by first | omega | (simp;omega) | (simp;done)))).mono ?_
   rintro e w1 ⟨rfl,hb1⟩
   have z1:=hb1.size
   try simp at z1
   go_wp2_with fail
   go_ret
   exact ⟨zqj HE.out.symm,bl_⟩
  ·
   have HE:=hd_ (show twoB cs x y = decide (0 ≤ chanIx cs y) by rw [TW.out,hx];rfl)
   go_enter Tryz.func104,Tryz.ntmps104
   go_wp2_with fail
   refine (zjf bt bn bw cs hs os A1 A2 A3 p1 p2 p3 x _ hl ((HR.out.below (bl_)).more (by first | omega | (simp;omega) | (simp;done)))).mono ?_
   rintro e w1 ⟨rfl,hb1⟩
   have z1:=hb1.size
   try simp at z1
   obtain ⟨kh,k0,k1,k2,k3,k4,k5,kf,kz⟩:=own6 (g:=w.heap.size) hb1 (by first | omega | (simp;omega) | (simp;done)) (hp_)
   go_wp2_with fail
   refine (zjf bt bn bw cs hs os A1 A2 A3 p1 p2 p3 y _ hl ((HR.out.below (bl_)).more (by first | omega | (simp;omega) | (simp;done)))).mono ?_
   rintro e w2 ⟨rfl,hb2⟩
   have z2:=hb2.size
   try simp at z2
   go_wp2_with fail
   go_ret
   exact ⟨zqj HE.out.symm,bl_⟩
end Go.Proofs.YtdbmkfmenfcbiaaGreat
namespace Go.Proofs.YtdbmkfmenfcbiaaGreat
open Go.RowKit

def totF (hs : List Htlc) (os : List Circle) (n : Int) (c : Chan) : Int:=n + (c.Local + outOf hs os c.Id)
def totalOf (bt bn bw : Int) (cs : List Chan) (hs : List Htlc) (os : List Circle) : Int:=if bookB bt bn bw cs hs os = true then cs.foldl (totF hs os) bw else 0
theorem BookFacts.local_ {bt bn bw : Int} {cs : List Chan} {hs : List Htlc} {os : List Circle} (F : BookFacts bt bn bw cs hs os) {k : Nat} (hk : k < cs.length) : 0 ≤ cs[k].Local∧cs[k].Local ≤ 1125899906842624:=by
  have:=F.ch k hk
  simp only [chB,Bool.and_eq_true] at this
  exact zxy.1 this.1.1.1.1.1.1.2
theorem BookFacts.tot {bt bn bw : Int} {cs : List Chan} {hs : List Htlc} {os : List Circle} (F : BookFacts bt bn bw cs hs os) :
    ∀ k,k ≤ cs.length → 0 ≤ (cs.take k).foldl (totF hs os) bw∧(cs.take k).foldl (totF hs os) bw ≤ 1125899906842624 + (k : Int) * 113715890591105024
  | 0,_ => by
    obtain ⟨a,b⟩:=F.w
    simp
    exact ⟨a,b⟩
  | k + 1,hk => by
    obtain ⟨h1,h2⟩:=F.tot k (by omega)
    obtain ⟨a,b⟩:=F.local_ (k:=k) (by omega)
    obtain ⟨c,d⟩:=F.small.out_bd cs[k].Id
    rw [zqq cs _ _ (by omega)]
    unfold totF at h1 h2 ⊢
    omega
end Go.Proofs.YtdbmkfmenfcbiaaGreat
namespace Go.Proofs.YtdbmkfmenfcbiaaGreat
open Go.RowKit

end Go.Proofs.YtdbmkfmenfcbiaaGreat
namespace Go.Proofs.YtdbmkfmenfcbiaaGreat
open Go.RowKit

end Go.Proofs.YtdbmkfmenfcbiaaGreat
namespace Go.Proofs.YtdbmkfmenfcbiaaGreat
open Go.RowKit
end Go.Proofs.YtdbmkfmenfcbiaaGreat
namespace Go.Proofs.YtdbmkfmenfcbiaaGreat
open Go.RowKit
end Go.Proofs.YtdbmkfmenfcbiaaGreat
namespace Go.Proofs.YtdbmkfmenfcbiaaGreat
open Go.RowKit
set_option maxRecDepth 100000 in
set_option maxHeartbeats 4000000 in
theorem zyt (bt bn bw : Int) (cs : List Chan) (hs : List Htlc) (os : List Circle) (A1 A2 A3 : Option Addr) (p1 p2 p3 : Nat) (ch : Int) (w : World) (hsm : Small hs os) (hr : RdBook w w.heap.size A1 cs A2 hs A3 os) :
  Calls Tryz.prog 61 #[.agg #[.int .i64 bt,.int .i64 bn,.int .i64 bw,.slice A1 cs.length p1,.slice A2 hs.length p2,.slice A3 os.length p3],.int .i64 ch] w fun e w' => e = .returned (.tuple #[.int .i64 (outOf hs os ch),.int .i64 (inOf hs os ch)])∧Below w.heap.size w w':=by
 have HH:=hd_ hr.h
 have HO:=hd_ hr.o
 have HS:=hd_ hsm
 have h60:=hsm.hl
 have h20:=hsm.ol
 clear hr hsm
 go_enter Tryz.func61,Tryz.ntmps61
 go_wp2_with fail
 go_loopw [6,7,15] (fun vx vy i wr => ∃ (k : Nat) (x y : Int),k ≤ hs.length∧i = .int .i64 k∧vx = .int .i64 x∧vy = .int .i64 y∧Hid ((hs.take k).foldl (outH ch) 0 = x)∧Hid ((hs.take k).foldl (inH ch) 0 = y)∧wr.heap[w.heap.size]? = some (.cells #[.int .i64 bt,.int .i64 bn,.int .i64 bw,.slice A1 cs.length p1,.slice A2 hs.length p2,.slice A3 os.length p3] 39 (0,0))∧Below w.heap.size w wr) (fun _ _ i _ => hs.length - (intOf i).toNat)
 case atStart => exact ⟨0,_,_,Nat.zero_le _,rfl,rfl,rfl,hd_ rfl,hd_ rfl,zqm rfl,bl_⟩
 case round =>
  obtain ⟨k,x,y,hk,rfl,rfl,rfl,Hx,Hy,hbox,hbw⟩:=hrel
  have hbz:=hbw.size
  obtain ⟨eh,e0,e1,e2,e3,e4,e5,ef,ezz⟩:=own6 (Below.refl wr.heap.size wr) (gz_ hbox).1 hbox
  have EH:=hd_ eh
  clear eh hbox
  have bd_x:=HS.out.outH_bd ch k hk
  rw [Hx.out] at bd_x
  obtain ⟨x1,x2⟩:=bd_x
  have bd_y:=HS.out.inH_bd ch k hk
  rw [Hy.out] at bd_y
  obtain ⟨y1,y2⟩:=bd_y
  by_cases hlt : k < hs.length
  ·
   obtain ⟨b,off,rfl,hbB,c0,c1,c2,c3,c4,c5,c6⟩:=Htlc.rd (HH.out.below hbw) hlt
   obtain ⟨⟨m1,m2⟩,m3,m4⟩:=HS.out.h k hlt
   clear e0 e1 e2 e3 e4 e5 ef
   have Fx:=hd_ (zqq hs (outH ch) 0 hlt)
   have Fy:=hd_ (zqq hs (inH ch) 0 hlt)
   cases tx : (hs[k].Out == ch)
   ·
    have Kx:=hd_ (show outH ch x hs[k] = x by simp [outH,tx])
    cases ty : (hs[k].In == ch)
    ·
     have Ky:=hd_ (show inH ch y hs[k] = y by simp [inH,ty])
     go_wp2_with fail
     go_roundw
     case rel => exact ⟨k + 1,_,_,by omega,by go_num,by first | rfl | go_num,by first | rfl | go_num,hd_ (by first | (rw [Fx.out,Hx.out,Kx.out];done) | (rw [Fx.out,Hx.out,Kx.out];omega)),hd_ (by first | (rw [Fy.out,Hy.out,Ky.out];done) | (rw [Fy.out,Hy.out,Ky.out];omega)),zqg ezz EH.out,bl_⟩
     case measure => simp [intOf];omega
    ·
     have Ky:=hd_ (show inH ch y hs[k] = y + hs[k].AmtIn by simp [inH,ty])
     go_wp2_with fail
     go_roundw
     case rel => exact ⟨k + 1,_,_,by omega,by go_num,by first | rfl | go_num,by first | rfl | go_num,hd_ (by first | (rw [Fx.out,Hx.out,Kx.out];done) | (rw [Fx.out,Hx.out,Kx.out];omega)),hd_ (by first | (rw [Fy.out,Hy.out,Ky.out];done) | (rw [Fy.out,Hy.out,Ky.out];omega)),zqg ezz EH.out,bl_⟩
     case measure => simp [intOf];omega
   ·
    have Kx:=hd_ (show outH ch x hs[k] = x + hs[k].AmtOut by simp [outH,tx])
    cases ty : (hs[k].In == ch)
    ·
     have Ky:=hd_ (show inH ch y hs[k] = y by simp [inH,ty])
     go_wp2_with fail
     go_roundw
     case rel => exact ⟨k + 1,_,_,by omega,by go_num,by first | rfl | go_num,by first | rfl | go_num,hd_ (by first | (rw [Fx.out,Hx.out,Kx.out];done) | (rw [Fx.out,Hx.out,Kx.out];omega)),hd_ (by first | (rw [Fy.out,Hy.out,Ky.out];done) | (rw [Fy.out,Hy.out,Ky.out];omega)),zqg ezz EH.out,bl_⟩
     case measure => simp [intOf];omega
    ·
     have Ky:=hd_ (show inH ch y hs[k] = y + hs[k].AmtIn by simp [inH,ty])
     go_wp2_with fail
     go_roundw
     case rel => exact ⟨k + 1,_,_,by omega,by go_num,by first | rfl | go_num,by first | rfl | go_num,hd_ (by first | (rw [Fx.out,Hx.out,Kx.out];done) | (rw [Fx.out,Hx.out,Kx.out];omega)),hd_ (by first | (rw [Fy.out,Hy.out,Ky.out];done) | (rw [Fy.out,Hy.out,Ky.out];omega)),zqg ezz EH.out,bl_⟩
     case measure => simp [intOf];omega
  ·
   obtain rfl : k = hs.length:=by omega
   have qx:=Hx.out
   rw [List.take_length] at qx
   have Qx:=hd_ qx
   clear qx
   have qy:=Hy.out
   rw [List.take_length] at qy
   have Qy:=hd_ qy
   clear qy
   have HZx : Hid (hs.foldl (outH ch) 0 = x):=Qx
   have HZy : Hid (hs.foldl (inH ch) 0 = y):=Qy
   go_wp2_with fail
   obtain ⟨wo,rfl⟩ : ∃ wo : World,wo = wr:=⟨_,rfl⟩
   go_loopw [6,7,39] (fun vu vq i wr => ∃ (k : Nat) (u q : Int),k ≤ os.length∧i = .int .i64 k∧vu = .int .i64 u∧vq = .int .i64 q∧Hid ((os.take k).foldl (outC ch) x = u)∧Hid ((os.take k).foldl (inC ch) y = q)∧wr.heap[w.heap.size]? = some (.cells #[.int .i64 bt,.int .i64 bn,.int .i64 bw,.slice A1 cs.length p1,.slice A2 hs.length p2,.slice A3 os.length p3] 39 (0,0))∧Below w.heap.size w wr) (fun _ _ i _ => os.length - (intOf i).toNat)
   case atStart => exact ⟨0,_,_,Nat.zero_le _,rfl,rfl,rfl,hd_ rfl,hd_ rfl,EH.out,bl_⟩
   case round =>
    obtain ⟨k,u,q,hk,rfl,rfl,rfl,Hu,Hq,hbox,hbw⟩:=hrel
    have hbz:=hbw.size
    obtain ⟨eh,e0,e1,e2,e3,e4,e5,ef,ezz⟩:=own6 (Below.refl wr.heap.size wr) (gz_ hbox).1 hbox
    have EH:=hd_ eh
    clear eh hbox
    have bd_u:=HS.out.outC_bd ch x (by omega) k hk
    rw [Hu.out] at bd_u
    obtain ⟨u1,u2⟩:=bd_u
    have bd_q:=HS.out.inC_bd ch y (by omega) k hk
    rw [Hq.out] at bd_q
    obtain ⟨q1,q2⟩:=bd_q
    by_cases hlt : k < os.length
    ·
     obtain ⟨b,off,rfl,hbB,c0,c1,c2,c3,c4⟩:=Circle.rd (HO.out.below hbw) hlt
     obtain ⟨⟨m1,m2⟩,m3,m4⟩:=HS.out.o k hlt
     clear e0 e1 e2 e3 e4 e5 ef
     have Fu:=hd_ (zqq os (outC ch) x hlt)
     have Fq:=hd_ (zqq os (inC ch) y hlt)
     cases tu : (os[k].From == ch)
     ·
      have Ku:=hd_ (show outC ch u os[k] = u by simp [outC,tu])
      cases tq : (os[k].To == ch)
      ·
       have Kq:=hd_ (show inC ch q os[k] = q by simp [inC,tq])
       go_wp2_with fail
       go_roundw
       case rel => exact ⟨k + 1,_,_,by omega,by go_num,by first | rfl | go_num,by first | rfl | go_num,hd_ (by first | (rw [Fu.out,Hu.out,Ku.out];done) | (rw [Fu.out,Hu.out,Ku.out];omega)),hd_ (by first | (rw [Fq.out,Hq.out,Kq.out];done) | (rw [Fq.out,Hq.out,Kq.out];omega)),zqg ezz EH.out,bl_⟩
       case measure => simp [intOf];omega
      ·
       have Kq:=hd_ (show inC ch q os[k] = q + os[k].Amt by simp [inC,tq])
       go_wp2_with fail
       go_roundw
       case rel => exact ⟨k + 1,_,_,by omega,by go_num,by first | rfl | go_num,by first | rfl | go_num,hd_ (by first | (rw [Fu.out,Hu.out,Ku.out];done) | (rw [Fu.out,Hu.out,Ku.out];omega)),hd_ (by first | (rw [Fq.out,Hq.out,Kq.out];done) | (rw [Fq.out,Hq.out,Kq.out];omega)),zqg ezz EH.out,bl_⟩
       case measure => simp [intOf];omega
     ·
      have Ku:=hd_ (show outC ch u os[k] = u + (os[k].Amt + os[k].Fee) by simp [outC,tu])
      cases tq : (os[k].To == ch)
      ·
       have Kq:=hd_ (show inC ch q os[k] = q by simp [inC,tq])
       go_wp2_with fail
       go_roundw
       case rel => exact ⟨k + 1,_,_,by omega,by go_num,by first | rfl | go_num,by first | rfl | go_num,hd_ (by first | (rw [Fu.out,Hu.out,Ku.out];done) | (rw [Fu.out,Hu.out,Ku.out];omega)),hd_ (by first | (rw [Fq.out,Hq.out,Kq.out];done) | (rw [Fq.out,Hq.out,Kq.out];omega)),zqg ezz EH.out,bl_⟩
       case measure => simp [intOf];omega
      ·
       have Kq:=hd_ (show inC ch q os[k] = q + os[k].Amt by simp [inC,tq])
       go_wp2_with fail
       go_roundw
       case rel => exact ⟨k + 1,_,_,by omega,by go_num,by first | rfl | go_num,by first | rfl | go_num,hd_ (by first | (rw [Fu.out,Hu.out,Ku.out];done) | (rw [Fu.out,Hu.out,Ku.out];omega)),hd_ (by first | (rw [Fq.out,Hq.out,Kq.out];done) | (rw [Fq.out,Hq.out,Kq.out];omega)),zqg ezz EH.out,bl_⟩
       case measure => simp [intOf];omega
    ·
     obtain rfl : k = os.length:=by omega
     have qu:=Hu.out
     rw [List.take_length] at qu
     have Qu:=hd_ qu
     clear qu
     have qq:=Hq.out
     rw [List.take_length] at qq
     have Qq:=hd_ qq
     clear qq
     go_wp2_with fail
     go_ret2
     have Ex : outOf hs os ch = u:=by unfold outOf;rw [HZx.out,Qu.out]
     have Ey : inOf hs os ch = q:=by unfold inOf;rw [HZy.out,Qq.out]
     refine ⟨?_,bl_⟩
     rw [Ex,Ey]
     rfl
end Go.Proofs.YtdbmkfmenfcbiaaGreat
namespace Go.Proofs.YtdbmkfmenfcbiaaGreat
open Go.RowKit
set_option maxRecDepth 100000 in
set_option maxHeartbeats 4000000 in
theorem s_l07Out (bt bn bw : Int) (cs : List Chan) (hs : List Htlc) (os : List Circle) (A1 A2 A3 : Option Addr) (p1 p2 p3 : Nat) (ch : Int) (w : World) (hsm : Small hs os) (hr : RdBook w w.heap.size A1 cs A2 hs A3 os) :
  Calls Tryz.prog 59 #[.agg #[.int .i64 bt,.int .i64 bn,.int .i64 bw,.slice A1 cs.length p1,.slice A2 hs.length p2,.slice A3 os.length p3],.int .i64 ch] w fun e w' => e = .returned (.int .i64 (outOf hs os ch))∧Below w.heap.size w w':=by
 have HH:=hd_ hr.h
 have HO:=hd_ hr.o
 have HS:=hd_ hsm
 have h60:=hsm.hl
 have h20:=hsm.ol
 clear hr hsm
 go_enter Tryz.func59,Tryz.ntmps59
 go_wp2_with fail
 go_loopw [5,13] (fun vx i wr => ∃ (k : Nat) (x : Int),k ≤ hs.length∧i = .int .i64 k∧vx = .int .i64 x∧Hid ((hs.take k).foldl (outH ch) 0 = x)∧wr.heap[w.heap.size]? = some (.cells #[.int .i64 bt,.int .i64 bn,.int .i64 bw,.slice A1 cs.length p1,.slice A2 hs.length p2,.slice A3 os.length p3] 39 (0,0))∧Below w.heap.size w wr) (fun _ i _ => hs.length - (intOf i).toNat)
 case atStart => exact ⟨0,_,Nat.zero_le _,rfl,rfl,hd_ rfl,zqm rfl,bl_⟩
 case round =>
  obtain ⟨k,x,hk,rfl,rfl,Hx,hbox,hbw⟩:=hrel
  have hbz:=hbw.size
  obtain ⟨eh,e0,e1,e2,e3,e4,e5,ef,ezz⟩:=own6 (Below.refl wr.heap.size wr) (gz_ hbox).1 hbox
  have EH:=hd_ eh
  clear eh hbox
  have bd_x:=HS.out.outH_bd ch k hk
  rw [Hx.out] at bd_x
  obtain ⟨x1,x2⟩:=bd_x
  by_cases hlt : k < hs.length
  ·
   obtain ⟨b,off,rfl,hbB,c0,c1,c2,c3,c4,c5,c6⟩:=Htlc.rd (HH.out.below hbw) hlt
   obtain ⟨⟨m1,m2⟩,m3,m4⟩:=HS.out.h k hlt
   clear e0 e1 e2 e3 e4 e5 ef
   have Fx:=hd_ (zqq hs (outH ch) 0 hlt)
   cases tx : (hs[k].Out == ch)
   ·
    have Kx:=hd_ (show outH ch x hs[k] = x by simp [outH,tx])
    go_wp2_with fail
    go_roundw
    case rel => exact ⟨k + 1,_,by omega,by go_num,by first | rfl | go_num,hd_ (by first | (rw [Fx.out,Hx.out,Kx.out];done) | (rw [Fx.out,Hx.out,Kx.out];omega)),zqg ezz EH.out,bl_⟩
    case measure => simp [intOf];omega
   ·
    have Kx:=hd_ (show outH ch x hs[k] = x + hs[k].AmtOut by simp [outH,tx])
    go_wp2_with fail
    go_roundw
    case rel => exact ⟨k + 1,_,by omega,by go_num,by first | rfl | go_num,hd_ (by first | (rw [Fx.out,Hx.out,Kx.out];done) | (rw [Fx.out,Hx.out,Kx.out];omega)),zqg ezz EH.out,bl_⟩
    case measure => simp [intOf];omega
  ·
   obtain rfl : k = hs.length:=by omega
   have qx:=Hx.out
   rw [List.take_length] at qx
   have Qx:=hd_ qx
   clear qx
   have HZx : Hid (hs.foldl (outH ch) 0 = x):=Qx
   go_wp2_with fail
   obtain ⟨wo,rfl⟩ : ∃ wo : World,wo = wr:=⟨_,rfl⟩
   go_loopw [5,29] (fun vu i wr => ∃ (k : Nat) (u : Int),k ≤ os.length∧i = .int .i64 k∧vu = .int .i64 u∧Hid ((os.take k).foldl (outC ch) x = u)∧wr.heap[w.heap.size]? = some (.cells #[.int .i64 bt,.int .i64 bn,.int .i64 bw,.slice A1 cs.length p1,.slice A2 hs.length p2,.slice A3 os.length p3] 39 (0,0))∧Below w.heap.size w wr) (fun _ i _ => os.length - (intOf i).toNat)
   case atStart => exact ⟨0,_,Nat.zero_le _,rfl,rfl,hd_ rfl,EH.out,bl_⟩
   case round =>
    obtain ⟨k,u,hk,rfl,rfl,Hu,hbox,hbw⟩:=hrel
    have hbz:=hbw.size
    obtain ⟨eh,e0,e1,e2,e3,e4,e5,ef,ezz⟩:=own6 (Below.refl wr.heap.size wr) (gz_ hbox).1 hbox
    have EH:=hd_ eh
    clear eh hbox
    have bd_u:=HS.out.outC_bd ch x (by omega) k hk
    rw [Hu.out] at bd_u
    obtain ⟨u1,u2⟩:=bd_u
    by_cases hlt : k < os.length
    ·
     obtain ⟨b,off,rfl,hbB,c0,c1,c2,c3,c4⟩:=Circle.rd (HO.out.below hbw) hlt
     obtain ⟨⟨m1,m2⟩,m3,m4⟩:=HS.out.o k hlt
     clear e0 e1 e2 e3 e4 e5 ef
     have Fu:=hd_ (zqq os (outC ch) x hlt)
     cases tu : (os[k].From == ch)
     ·
      have Ku:=hd_ (show outC ch u os[k] = u by simp [outC,tu])
      go_wp2_with fail
      go_roundw
      case rel => exact ⟨k + 1,_,by omega,by go_num,by first | rfl | go_num,hd_ (by first | (rw [Fu.out,Hu.out,Ku.out];done) | (rw [Fu.out,Hu.out,Ku.out];omega)),zqg ezz EH.out,bl_⟩
      case measure => simp [intOf];omega
     ·
      have Ku:=hd_ (show outC ch u os[k] = u + (os[k].Amt + os[k].Fee) by simp [outC,tu])
      go_wp2_with fail
      go_roundw
      case rel => exact ⟨k + 1,_,by omega,by go_num,by first | rfl | go_num,hd_ (by first | (rw [Fu.out,Hu.out,Ku.out];done) | (rw [Fu.out,Hu.out,Ku.out];omega)),zqg ezz EH.out,bl_⟩
      case measure => simp [intOf];omega
    ·
     obtain rfl : k = os.length:=by omega
     have qu:=Hu.out
     rw [List.take_length] at qu
     have Qu:=hd_ qu
     clear qu
     go_wp2_with fail
     go_ret
     have Ex : outOf hs os ch = u:=by unfold outOf;rw [HZx.out,Qu.out]
     refine ⟨?_,bl_⟩
     rw [Ex]
     rfl
set_option maxRecDepth 100000 in
set_option maxHeartbeats 4000000 in
theorem s_l07In (bt bn bw : Int) (cs : List Chan) (hs : List Htlc) (os : List Circle) (A1 A2 A3 : Option Addr) (p1 p2 p3 : Nat) (ch : Int) (w : World) (hsm : Small hs os) (hr : RdBook w w.heap.size A1 cs A2 hs A3 os) :
  Calls Tryz.prog 60 #[.agg #[.int .i64 bt,.int .i64 bn,.int .i64 bw,.slice A1 cs.length p1,.slice A2 hs.length p2,.slice A3 os.length p3],.int .i64 ch] w fun e w' => e = .returned (.int .i64 (inOf hs os ch))∧Below w.heap.size w w':=by
 have HH:=hd_ hr.h
 have HO:=hd_ hr.o
 have HS:=hd_ hsm
 have h60:=hsm.hl
 have h20:=hsm.ol
 clear hr hsm
 go_enter Tryz.func60,Tryz.ntmps60
 go_wp2_with fail
 go_loopw [5,13] (fun vy i wr => ∃ (k : Nat) (y : Int),k ≤ hs.length∧i = .int .i64 k∧vy = .int .i64 y∧Hid ((hs.take k).foldl (inH ch) 0 = y)∧wr.heap[w.heap.size]? = some (.cells #[.int .i64 bt,.int .i64 bn,.int .i64 bw,.slice A1 cs.length p1,.slice A2 hs.length p2,.slice A3 os.length p3] 39 (0,0))∧Below w.heap.size w wr) (fun _ i _ => hs.length - (intOf i).toNat)
 case atStart => exact ⟨0,_,Nat.zero_le _,rfl,rfl,hd_ rfl,zqm rfl,bl_⟩
 case round =>
  obtain ⟨k,y,hk,rfl,rfl,Hy,hbox,hbw⟩:=hrel
  have hbz:=hbw.size
  obtain ⟨eh,e0,e1,e2,e3,e4,e5,ef,ezz⟩:=own6 (Below.refl wr.heap.size wr) (gz_ hbox).1 hbox
  have EH:=hd_ eh
  clear eh hbox
  have bd_y:=HS.out.inH_bd ch k hk
  rw [Hy.out] at bd_y
  obtain ⟨y1,y2⟩:=bd_y
  by_cases hlt : k < hs.length
  ·
   obtain ⟨b,off,rfl,hbB,c0,c1,c2,c3,c4,c5,c6⟩:=Htlc.rd (HH.out.below hbw) hlt
   obtain ⟨⟨m1,m2⟩,m3,m4⟩:=HS.out.h k hlt
   clear e0 e1 e2 e3 e4 e5 ef
   have Fy:=hd_ (zqq hs (inH ch) 0 hlt)
   cases ty : (hs[k].In == ch)
   ·
    have Ky:=hd_ (show inH ch y hs[k] = y by simp [inH,ty])
    go_wp2_with fail
    go_roundw
    case rel => exact ⟨k + 1,_,by omega,by go_num,by first | rfl | go_num,hd_ (by first | (rw [Fy.out,Hy.out,Ky.out];done) | (rw [Fy.out,Hy.out,Ky.out];omega)),zqg ezz EH.out,bl_⟩
    case measure => simp [intOf];omega
   ·
    have Ky:=hd_ (show inH ch y hs[k] = y + hs[k].AmtIn by simp [inH,ty])
    go_wp2_with fail
    go_roundw
    case rel => exact ⟨k + 1,_,by omega,by go_num,by first | rfl | go_num,hd_ (by first | (rw [Fy.out,Hy.out,Ky.out];done) | (rw [Fy.out,Hy.out,Ky.out];omega)),zqg ezz EH.out,bl_⟩
    case measure => simp [intOf];omega
  ·
   obtain rfl : k = hs.length:=by omega
   have qy:=Hy.out
   rw [List.take_length] at qy
   have Qy:=hd_ qy
   clear qy
   have HZy : Hid (hs.foldl (inH ch) 0 = y):=Qy
   go_wp2_with fail
   obtain ⟨wo,rfl⟩ : ∃ wo : World,wo = wr:=⟨_,rfl⟩
   go_loopw [5,29] (fun vq i wr => ∃ (k : Nat) (q : Int),k ≤ os.length∧i = .int .i64 k∧vq = .int .i64 q∧Hid ((os.take k).foldl (inC ch) y = q)∧wr.heap[w.heap.size]? = some (.cells #[.int .i64 bt,.int .i64 bn,.int .i64 bw,.slice A1 cs.length p1,.slice A2 hs.length p2,.slice A3 os.length p3] 39 (0,0))∧Below w.heap.size w wr) (fun _ i _ => os.length - (intOf i).toNat)
   case atStart => exact ⟨0,_,Nat.zero_le _,rfl,rfl,hd_ rfl,EH.out,bl_⟩
   case round =>
    obtain ⟨k,q,hk,rfl,rfl,Hq,hbox,hbw⟩:=hrel
    have hbz:=hbw.size
    obtain ⟨eh,e0,e1,e2,e3,e4,e5,ef,ezz⟩:=own6 (Below.refl wr.heap.size wr) (gz_ hbox).1 hbox
    have EH:=hd_ eh
    clear eh hbox
    have bd_q:=HS.out.inC_bd ch y (by omega) k hk
    rw [Hq.out] at bd_q
    obtain ⟨q1,q2⟩:=bd_q
    by_cases hlt : k < os.length
    ·
     obtain ⟨b,off,rfl,hbB,c0,c1,c2,c3,c4⟩:=Circle.rd (HO.out.below hbw) hlt
     obtain ⟨⟨m1,m2⟩,m3,m4⟩:=HS.out.o k hlt
     clear e0 e1 e2 e3 e4 e5 ef
     have Fq:=hd_ (zqq os (inC ch) y hlt)
     cases tq : (os[k].To == ch)
     ·
      have Kq:=hd_ (show inC ch q os[k] = q by simp [inC,tq])
      go_wp2_with fail
      go_roundw
      case rel => exact ⟨k + 1,_,by omega,by go_num,by first | rfl | go_num,hd_ (by first | (rw [Fq.out,Hq.out,Kq.out];done) | (rw [Fq.out,Hq.out,Kq.out];omega)),zqg ezz EH.out,bl_⟩
      case measure => simp [intOf];omega
     ·
      have Kq:=hd_ (show inC ch q os[k] = q + os[k].Amt by simp [inC,tq])
      go_wp2_with fail
      go_roundw
      case rel => exact ⟨k + 1,_,by omega,by go_num,by first | rfl | go_num,hd_ (by first | (rw [Fq.out,Hq.out,Kq.out];done) | (rw [Fq.out,Hq.out,Kq.out];omega)),zqg ezz EH.out,bl_⟩
      case measure => simp [intOf];omega
    ·
     obtain rfl : k = os.length:=by omega
     have qq:=Hq.out
     rw [List.take_length] at qq
     have Qq:=hd_ qq
     clear qq
     go_wp2_with fail
     go_ret
     have Ey : inOf hs os ch = q:=by unfold inOf;rw [HZy.out,Qq.out]
     refine ⟨?_,bl_⟩
     rw [Ey]
     rfl
end Go.Proofs.YtdbmkfmenfcbiaaGreat
namespace Go.Proofs.YtdbmkfmenfcbiaaGreat
open Go.RowKit

def postingB (z : Int) (l : List Line) : Bool:=inB z 1 1125899906842624 && decide (2 ≤ l.length) && decide (l.length ≤ 8) && linesB l
end Go.Proofs.YtdbmkfmenfcbiaaGreat
namespace Go.Proofs.YtdbmkfmenfcbiaaGreat
open Go.RowKit Go.Deep

structure OwB (w : World) (B : Nat) (b : Bk) (A1 A2 A3 : Option Addr) (p1 p2 p3 : Nat) : Prop where
  c : Ow w B 103 7 (.slice A1 b.cs.length p1) (b.cs.map Chan.cells)
  h : Ow w B 70 7 (.slice A2 b.hs.length p2) (b.hs.map Htlc.cells)
  o : Ow w B 93 5 (.slice A3 b.os.length p3) (b.os.map Circle.cells)
section
variable {w w' : World} {B B' : Nat} {b : Bk} {A1 A2 A3 : Option Addr} {p1 p2 p3 : Nat}
theorem OwB.below (h : OwB w B b A1 A2 A3 p1 p2 p3) (hb : Below w.heap.size w w') : OwB w' B b A1 A2 A3 p1 p2 p3:=⟨h.c.below hb,h.h.below hb,h.o.below hb⟩
theorem OwB.more (h : OwB w B b A1 A2 A3 p1 p2 p3) (hB : B' ≤ B) : OwB w B' b A1 A2 A3 p1 p2 p3:=⟨h.c.more hB,h.h.more hB,h.o.more hB⟩
theorem OwB.alloc (h : OwB w B b A1 A2 A3 p1 p2 p3) (o : Obj) : OwB (w.alloc o) B b A1 A2 A3 p1 p2 p3:=⟨h.c.alloc o,h.h.alloc o,h.o.alloc o⟩
theorem OwB.rd (h : OwB w B b A1 A2 A3 p1 p2 p3) : RdBook w w.heap.size A1 b.cs A2 b.hs A3 b.os:=⟨h.c.rd,h.h.rd,h.o.rd⟩
theorem OwB.aside (h : OwB w B b A1 A2 A3 p1 p2 p3) {X i : Nat} {t : TypeId} {cs : Array Value} (hx : w.heap[X]? = some (.cells cs t (0,0))) (h1 : 103 ≠ t) (h2 : 70 ≠ t) (h3 : 93 ≠ t) (u : Value) : OwB (w.setCell ⟨X,i,none⟩ u) B b A1 A2 A3 p1 p2 p3 :=
  ⟨h.c.aside hx h1 u,h.h.aside hx h2 u,h.o.aside hx h3 u⟩
theorem OwB.drew (h : OwB w B b A1 A2 A3 p1 p2 p3) : OwB w.drew B b A1 A2 A3 p1 p2 p3:=⟨h.c,h.h,h.o⟩
end
theorem OwB.nil_ (w : World) (B : Nat) (t n u : Int) : OwB w B ⟨t,n,u,[],[],[]⟩ none none none 0 0 0:=⟨Ow.nil_,Ow.nil_,Ow.nil_⟩
end Go.Proofs.YtdbmkfmenfcbiaaGreat
namespace Go.Proofs.YtdbmkfmenfcbiaaGreat
open Go.RowKit

theorem zjv {α : Type} (f : α → Int) : ∀ (l : List α) (z : Int),l.foldl (fun n x => n + f x) z = z + (l.map f).sum
  | [],z => by simp
  | x :: l,z => by
    rw [List.foldl_cons,zjv f l,List.map_cons,List.sum_cons]
    omega
def pickF (x a ch : Int) : Int:=if (x == ch) = true then a else 0
theorem zyz (hs : List Htlc) (os : List Circle) (ch : Int) : outOf hs os ch = (hs.map (fun h => pickF h.Out h.AmtOut ch)).sum + (os.map (fun c => pickF c.From (c.Amt + c.Fee) ch)).sum:=by
  have e1 : outH ch = fun n h => n + pickF h.Out h.AmtOut ch:=by funext n h;unfold outH pickF;split <;> omega
  have e2 : outC ch = fun n c => n + pickF c.From (c.Amt + c.Fee) ch:=by funext n c;unfold outC pickF;split <;> omega
  unfold outOf
  rw [e1,e2,zjv,zjv]
  omega
theorem zmo (hs : List Htlc) (os : List Circle) (ch : Int) : inOf hs os ch = (hs.map (fun h => pickF h.In h.AmtIn ch)).sum + (os.map (fun c => pickF c.To c.Amt ch)).sum:=by
  have e1 : inH ch = fun n h => n + pickF h.In h.AmtIn ch:=by funext n h;unfold inH pickF;split <;> omega
  have e2 : inC ch = fun n c => n + pickF c.To c.Amt ch:=by funext n c;unfold inC pickF;split <;> omega
  unfold inOf
  rw [e1,e2,zjv,zjv]
  omega
theorem zmn {bt bn bw : Int} {cs : List Chan} {hs : List Htlc} {os : List Circle} (h : bookB bt bn bw cs hs os = true) : cs.Pairwise (fun p q => p.Id < q.Id):=by
  simp only [bookB,Bool.and_eq_true] at h
  have h8:=everyTo_iff.1 h.2
  have step : ∀ j,(hj : j + 1 < cs.length) → cs[j].Id < cs[j + 1].Id:=fun j hj => by
    have:=h8 (j + 1) hj
    rw [zjz hj (by omega),Bool.and_eq_true,decide_eq_true_eq] at this
    exact this.2
  have far : ∀ d i,(hi : i + d + 1 < cs.length) → cs[i].Id < cs[i + d + 1].Id:=by
    intro d
    induction d with
    | zero => exact fun i hi => step i hi
    | succ d ih =>
      intro i hi
      have h1:=ih i (by omega)
      have h2:=step (i + d + 1) (by omega)
      exact Int.lt_trans h1 h2
  rw [List.pairwise_iff_getElem]
  intro i j hi hj hij
  obtain ⟨d,rfl⟩ : ∃ d,j = i + d + 1:=⟨j - i - 1,by omega⟩
  exact far d i hj
/-! no sum of the law wraps -/
end Go.Proofs.YtdbmkfmenfcbiaaGreat
namespace Go.Proofs.YtdbmkfmenfcbiaaGreat
open Go.RowKit
theorem zwe : (Tryz.prog.info? 3).map (fun i => (i.zero,i.size,i.bytes)) = some (some (.int .i64 0),1,8):=by kernel_rfl
theorem zky {α : Type} (z : List Int) (l : List α) (f : α → Int) {k : Nat} (hk : k < l.length) : z ++ (l.take (k + 1)).map f = (z ++ (l.take k).map f) ++ [f l[k]]:=by
 rw [List.take_succ_eq_append_getElem hk,List.map_append,List.append_assoc]
 rfl
theorem zvk {α : Type} (z : List Int) (l : List α) (f : α → Int) {k : Nat} (hk : k ≤ l.length) : (z ++ (l.take k).map f).length = z.length + k:=by
 simp;omega
set_option maxRecDepth 100000 in
set_option maxHeartbeats 4000000 in
theorem zwx (bt bn bw : Int) (cs : List Chan) (hs : List Htlc) (os : List Circle) (A1 A2 A3 : Option Addr) (p1 p2 p3 : Nat) (w : World) (h60 : hs.length ≤ 60) (h20 : os.length ≤ 20) (hr : RdBook w w.heap.size A1 cs A2 hs A3 os) :
  Calls Tryz.prog 105 #[.agg #[.int .i64 bt,.int .i64 bn,.int .i64 bw,.slice A1 cs.length p1,.slice A2 hs.length p2,.slice A3 os.length p3]] w fun e w' => ∃ A cap,e = .returned (.slice A (keysOf hs os).length cap)∧Ow w' w.heap.size 3 1 (.slice A (keysOf hs os).length cap) ((keysOf hs os).map intCells)∧Below w.heap.size w w':=by
 have HH:=hd_ hr.h
 have HO:=hd_ hr.o
 clear hr
 obtain ⟨i0,hi,hz0,hz1,hz2⟩:=info_parts zwe
 have HI:=hd_ hi
 have HZ0:=hd_ hz0
 have HZ1:=hd_ hz1
 have HZ2:=hd_ hz2
 clear hi hz0 hz1 hz2
 go_enter Tryz.func105,Tryz.ntmps105
 go_wp2_with fail
 go_loopw [3,12] (fun vk i wr => ∃ (k : Nat) (B : Option Addr) (cp : Nat),k ≤ hs.length∧i = .int .i64 k∧vk = .slice B ([] ++ (hs.take k).map Htlc.Key).length cp∧Ow wr (w.heap.size + 1) 3 1 (.slice B ([] ++ (hs.take k).map Htlc.Key).length cp) (([] ++ (hs.take k).map Htlc.Key).map intCells)∧wr.heap[w.heap.size]? = some (.cells #[.int .i64 bt,.int .i64 bn,.int .i64 bw,.slice A1 cs.length p1,.slice A2 hs.length p2,.slice A3 os.length p3] 39 (0,0))∧Below w.heap.size w wr) (fun _ i _ => hs.length - (intOf i).toNat)
 case atStart =>
  refine ⟨0,_,_,Nat.zero_le _,rfl,rfl,?_,zqg (by simp) (zqm rfl),bl_⟩
  exact Ow.empty_ (by simp) (Nat.le_refl _)
 case round =>
  obtain ⟨k,B,cp,hk,rfl,rfl,how,hbox,hbw⟩:=hrel
  have hbz:=hbw.size
  obtain ⟨eh,e0,e1,e2,e3,e4,e5,ef,ezz⟩:=own6 (Below.refl wr.heap.size wr) (gz_ hbox).1 hbox
  have EH:=hd_ eh
  clear eh hbox
  have hrl : ([] ++ (hs.take k).map Htlc.Key).length ≤ 80:=by rw [zvk _ _ _ hk];simp;omega
  have NE:=hd_ (how.ne_ EH.out (by decide))
  have OB:=hd_ how.block
  have HW:=hd_ how
  clear how
  by_cases hlt : k < hs.length
  ·
   obtain ⟨b,off,rfl,hbB,c0,c1,c2,c3,c4,c5,c6⟩:=Htlc.rd (HH.out.below hbw) hlt
   have HK:=hd_ (zky [] hs Htlc.Key hlt)
   obtain ⟨ROWS,hROWS⟩ : ∃ R,([] ++ (hs.take k).map Htlc.Key) = R:=⟨_,rfl⟩
   rw [hROWS] at hrl NE OB HW HK ⊢
   clear hROWS
   have KE:=hd_ (fun o1 o2 (w6 : World) (hgr : ((wr.alloc o1).alloc o2).grownBy w6 (Value.slice B ROWS.length cp).ownBlock) => ownG6 hgr NE.out (zqg (by simp;omega) (zqg ezz EH.out)))
   have KB:=hd_ (fun o1 o2 (w6 : World) (hgr : ((wr.alloc o1).alloc o2).grownBy w6 (Value.slice B ROWS.length cp).ownBlock) => ((hbw.alloc (Nat.le_trans (Nat.le_refl _) hbz) o1).alloc (by simp;omega) o2).grown hgr (by simp;omega) (fun k e => by have:=(OB.out k e).1;omega))
   go_wp2_with (at_builtin;refine zqr rfl _ _ _ rfl (w.heap.size + 1) 3 i0 _ 1 8 Tryz.underlying41 HI.out HZ0.out HZ1.out HZ2.out rfl (by decide) (.slice B ROWS.length cp) (ROWS.map intCells) rfl ((HW.out.alloc _).alloc _) (wr.heap.size + 1) 1 [.int .i64 hs[k].Key] 3 rfl (zqm (by first | rfl | (simp;done))) rfl (by simp [Value.oneCell']) (by rw [List.length_map];omega) (by decide) (by first | omega | (simp;omega) | (simp;done)) ?_;intro g cap' w6 how6 hgr6 hat6 hlt6;rw [List.length_map] at how6;rw [List.length_map];obtain ⟨xh,x0,x1,x2,x3,x4,x5,xf,xz⟩:=KE.out _ _ _ hgr6;have hb6:=KB.out _ _ _ hgr6;have XH:=hd_ xh;have O6:=hd_ how6;clear xh how6 hgr6 hat6)
   go_roundw
   case rel =>
    refine ⟨k + 1,some ⟨g,0,none⟩,cap',by omega,by go_num,by rw [HK.out,List.length_append];rfl,?_,XH.out,hb6⟩
    rw [HK.out,List.map_append,List.length_append]
    exact O6.out
   case measure => simp [intOf];omega
  ·
   obtain rfl : k = hs.length:=by omega
   rw [List.take_length,List.nil_append] at HW hrl ⊢
   rw [List.length_map] at hrl
   go_wp2_with fail
   obtain ⟨wo,rfl⟩ : ∃ wo : World,wo = wr:=⟨_,rfl⟩
   go_loopw [3,25] (fun vk i wr => ∃ (k : Nat) (B : Option Addr) (cp : Nat),k ≤ os.length∧i = .int .i64 k∧vk = .slice B ((hs.map Htlc.Key) ++ (os.take k).map Circle.Key).length cp∧Ow wr (w.heap.size + 1) 3 1 (.slice B ((hs.map Htlc.Key) ++ (os.take k).map Circle.Key).length cp) (((hs.map Htlc.Key) ++ (os.take k).map Circle.Key).map intCells)∧wr.heap[w.heap.size]? = some (.cells #[.int .i64 bt,.int .i64 bn,.int .i64 bw,.slice A1 cs.length p1,.slice A2 hs.length p2,.slice A3 os.length p3] 39 (0,0))∧Below w.heap.size w wr) (fun _ i _ => os.length - (intOf i).toNat)
   case atStart => exact ⟨0,B,cp,Nat.zero_le _,rfl,by simp,by simpa using HW.out,EH.out,hbw⟩
   case round =>
    obtain ⟨k,B,cp,hk,rfl,rfl,how,hbox,hbw⟩:=hrel
    have hbz:=hbw.size
    obtain ⟨eh,e0,e1,e2,e3,e4,e5,ef,ezz⟩:=own6 (Below.refl wr.heap.size wr) (gz_ hbox).1 hbox
    have EH:=hd_ eh
    clear eh hbox
    have hrl : ((hs.map Htlc.Key) ++ (os.take k).map Circle.Key).length ≤ 80:=by rw [zvk _ _ _ hk];rw [List.length_map];omega
    have NE:=hd_ (how.ne_ EH.out (by decide))
    have OB:=hd_ how.block
    have HW:=hd_ how
    clear how
    by_cases hlt : k < os.length
    ·
     obtain ⟨b,off,rfl,hbB,c0,c1,c2,c3,c4⟩:=Circle.rd (HO.out.below hbw) hlt
     have HK:=hd_ (zky (hs.map Htlc.Key) os Circle.Key hlt)
     obtain ⟨ROWS,hROWS⟩ : ∃ R,((hs.map Htlc.Key) ++ (os.take k).map Circle.Key) = R:=⟨_,rfl⟩
     rw [hROWS] at hrl NE OB HW HK ⊢
     clear hROWS
     have KE:=hd_ (fun o1 o2 (w6 : World) (hgr : ((wr.alloc o1).alloc o2).grownBy w6 (Value.slice B ROWS.length cp).ownBlock) => ownG6 hgr NE.out (zqg (by simp;omega) (zqg ezz EH.out)))
     have KB:=hd_ (fun o1 o2 (w6 : World) (hgr : ((wr.alloc o1).alloc o2).grownBy w6 (Value.slice B ROWS.length cp).ownBlock) => ((hbw.alloc (Nat.le_trans (Nat.le_refl _) hbz) o1).alloc (by simp;omega) o2).grown hgr (by simp;omega) (fun k e => by have:=(OB.out k e).1;omega))
     go_wp2_with (at_builtin;refine zqr rfl _ _ _ rfl (w.heap.size + 1) 3 i0 _ 1 8 Tryz.underlying41 HI.out HZ0.out HZ1.out HZ2.out rfl (by decide) (.slice B ROWS.length cp) (ROWS.map intCells) rfl ((HW.out.alloc _).alloc _) (wr.heap.size + 1) 1 [.int .i64 os[k].Key] 3 rfl (zqm (by first | rfl | (simp;done))) rfl (by simp [Value.oneCell']) (by rw [List.length_map];omega) (by decide) (by first | omega | (simp;omega) | (simp;done)) ?_;intro g cap' w6 how6 hgr6 hat6 hlt6;rw [List.length_map] at how6;rw [List.length_map];obtain ⟨xh,x0,x1,x2,x3,x4,x5,xf,xz⟩:=KE.out _ _ _ hgr6;have hb6:=KB.out _ _ _ hgr6;have XH:=hd_ xh;have O6:=hd_ how6;clear xh how6 hgr6 hat6)
     go_roundw
     case rel =>
      refine ⟨k + 1,some ⟨g,0,none⟩,cap',by omega,by go_num,by rw [HK.out,List.length_append];rfl,?_,XH.out,hb6⟩
      rw [HK.out,List.map_append,List.length_append]
      exact O6.out
     case measure => simp [intOf];omega
    ·
     obtain rfl : k = os.length:=by omega
     have hkeys : (hs.map Htlc.Key) ++ (os.take os.length).map Circle.Key = keysOf hs os:=by rw [List.take_length];rfl
     rw [hkeys] at HW ⊢
     clear hkeys
     go_wp2_with fail
     go_ret
     exact ⟨_,_,rfl,HW.out.more (by omega),bl_⟩
end Go.Proofs.YtdbmkfmenfcbiaaGreat
namespace Go.Proofs.YtdbmkfmenfcbiaaGreat
open Go.RowKit
theorem zvl {k c k' c' : Int} : lessB k c k' c' = true ↔ k < k' ∨ (k = k'∧c < c'):=by
 simp [lessB]
theorem zgt {k c k' c' : Int} (h1 : lessB k c k' c' = false) (h2 : lessB k' c' k c = false) : k = k'∧c = c':=by
 rw [← Bool.not_eq_true,zvl] at h1 h2
 omega
def lessL (x y : Line) : Prop:=lessB x.Kind x.Ch y.Kind y.Ch = true
theorem zyw {x y : Line} : lessL x y ↔ x.Kind < y.Kind ∨ (x.Kind = y.Kind∧x.Ch < y.Ch):=zvl
theorem zws {x y z : Line} (h1 : lessL x y) (h2 : lessL y z) : lessL x z:=by
 rw [zyw] at *
 omega
def lineOk (x : Line) : Bool:=accB x.Kind x.Ch && !(x.Amt == 0) && rangeB x.Amt
theorem zkk : ∀ (l : List Line) (s : Int),l.foldl (fun s x => s + x.Amt) s = s + lineSum l
 | [],s => by simp [lineSum]
 | x :: l,s => by
  unfold lineSum
  rw [List.foldl_cons,List.foldl_cons,zkk l,zkk l (0 + x.Amt)]
  omega
theorem zxn (x : Line) (l : List Line) : lineSum (x :: l) = x.Amt + lineSum l:=by
 show (x :: l).foldl (fun s x => s + x.Amt) 0 = _
 rw [List.foldl_cons,zkk]
 omega
def mergeF : List Line → List Line → Option (List Line)
 | [],[] => some []
 | x :: a,[] => (mergeF a []).map (x :: ·)
 | [],y :: b => (mergeF [] b).map (y :: ·)
 | x :: a,y :: b =>
  if lessB x.Kind x.Ch y.Kind y.Ch = true then (mergeF a (y :: b)).map (x :: ·)
  else if lessB y.Kind y.Ch x.Kind x.Ch = true then (mergeF (x :: a) b).map (y :: ·)
  else if rangeB (x.Amt + y.Amt) = true then (if x.Amt + y.Amt = 0 then mergeF a b else (mergeF a b).map (⟨x.Kind,x.Ch,x.Amt + y.Amt⟩ :: ·))
  else none
termination_by a b => a.length + b.length
def bal (k c : Int) : List Line → Int
 | [] => 0
 | x :: l => (if x.Kind = k∧x.Ch = c then x.Amt else 0) + bal k c l
structure Merged (a b r : List Line) : Prop where
 sum : lineSum r = lineSum a + lineSum b
 len : r.length ≤ a.length + b.length
 bal : ∀ k c,bal k c r = bal k c a + bal k c b
 ok : (∀ x ∈ a,lineOk x = true) → (∀ x ∈ b,lineOk x = true) → ∀ x ∈ r,lineOk x = true
 low : ∀ p,(∀ x ∈ a,lessL p x) → (∀ x ∈ b,lessL p x) → ∀ x ∈ r,lessL p x
 sorted : a.Pairwise lessL → b.Pairwise lessL → r.Pairwise lessL
theorem zkz : ∀ (a b r : List Line),mergeF a b = some r → Merged a b r
 | [],[],r,h => by
  rw [mergeF] at h
  cases h
  exact ⟨rfl,Nat.le_refl _,fun _ _ => rfl,by simp,by simp,by simp⟩
 | x :: a,[],r,h => by
  rw [mergeF,Option.map_eq_some_iff] at h
  obtain ⟨r',h',rfl⟩:=h
  have m:=zkz a [] r' h'
  refine ⟨by rw [zxn,zxn,m.sum];omega,by have:=m.len;simp at this ⊢;omega,fun k c => by simp only [bal,m.bal k c];omega,?_,?_,?_⟩
  ·
   intro h1 h2 y hy
   rcases List.mem_cons.1 hy with rfl | hy
   ·
    exact h1 _ (by simp)
   ·
    exact m.ok (fun z hz => h1 z (by simp [hz])) h2 y hy
  ·
   intro p h1 h2 y hy
   rcases List.mem_cons.1 hy with rfl | hy
   ·
    exact h1 _ (by simp)
   ·
    exact m.low p (fun z hz => h1 z (by simp [hz])) h2 y hy
  ·
   intro h1 h2
   rw [List.pairwise_cons] at h1 ⊢
   exact ⟨m.low x h1.1 (by simp),m.sorted h1.2 h2⟩
 | [],y :: b,r,h => by
  rw [mergeF,Option.map_eq_some_iff] at h
  obtain ⟨r',h',rfl⟩:=h
  have m:=zkz [] b r' h'
  refine ⟨by rw [zxn,zxn,m.sum];omega,by have:=m.len;simp at this ⊢;omega,fun k c => by simp only [bal,m.bal k c];omega,?_,?_,?_⟩
  ·
   intro h1 h2 z hz
   rcases List.mem_cons.1 hz with rfl | hz
   ·
    exact h2 _ (by simp)
   ·
    exact m.ok h1 (fun z hz => h2 z (by simp [hz])) z hz
  ·
   intro p h1 h2 z hz
   rcases List.mem_cons.1 hz with rfl | hz
   ·
    exact h2 _ (by simp)
   ·
    exact m.low p h1 (fun z hz => h2 z (by simp [hz])) z hz
  ·
   intro h1 h2
   rw [List.pairwise_cons] at h2 ⊢
   exact ⟨m.low y (by simp) h2.1,m.sorted h1 h2.2⟩
 | x :: a,y :: b,r,h => by
  rw [mergeF] at h
  by_cases c1 : lessB x.Kind x.Ch y.Kind y.Ch = true
  ·
   rw [if_pos c1,Option.map_eq_some_iff] at h
   obtain ⟨r',h',rfl⟩:=h
   have m:=zkz a (y :: b) r' h'
   refine ⟨by rw [zxn,zxn x a,m.sum];omega,by have:=m.len;simp at this ⊢;omega,fun k c => by simp only [bal,m.bal k c];omega,?_,?_,?_⟩
   ·
    intro h1 h2 z hz
    rcases List.mem_cons.1 hz with rfl | hz
    ·
     exact h1 _ (by simp)
    ·
     exact m.ok (fun z hz => h1 z (by simp [hz])) h2 z hz
   ·
    intro p h1 h2 z hz
    rcases List.mem_cons.1 hz with rfl | hz
    ·
     exact h1 _ (by simp)
    ·
     exact m.low p (fun z hz => h1 z (by simp [hz])) h2 z hz
   ·
    intro h1 h2
    have h2':=h2
    rw [List.pairwise_cons] at h1 h2 ⊢
    refine ⟨m.low x h1.1 (fun z hz => ?_),m.sorted h1.2 h2'⟩
    rcases List.mem_cons.1 hz with rfl | hz
    ·
     exact c1
    ·
     exact zws c1 (h2.1 z hz)
  ·
   rw [if_neg c1] at h
   by_cases c2 : lessB y.Kind y.Ch x.Kind x.Ch = true
   ·
    rw [if_pos c2,Option.map_eq_some_iff] at h
    obtain ⟨r',h',rfl⟩:=h
    have m:=zkz (x :: a) b r' h'
    refine ⟨by rw [zxn,zxn y b,m.sum];omega,by have:=m.len;simp at this ⊢;omega,fun k c => by simp only [bal,m.bal k c];omega,?_,?_,?_⟩
    ·
     intro h1 h2 z hz
     rcases List.mem_cons.1 hz with rfl | hz
     ·
      exact h2 _ (by simp)
     ·
      exact m.ok h1 (fun z hz => h2 z (by simp [hz])) z hz
    ·
     intro p h1 h2 z hz
     rcases List.mem_cons.1 hz with rfl | hz
     ·
      exact h2 _ (by simp)
     ·
      exact m.low p h1 (fun z hz => h2 z (by simp [hz])) z hz
    ·
     intro h1 h2
     have h1':=h1
     rw [List.pairwise_cons] at h1 h2 ⊢
     refine ⟨m.low y (fun z hz => ?_) h2.1,m.sorted h1' h2.2⟩
     rcases List.mem_cons.1 hz with rfl | hz
     ·
      exact c2
     ·
      exact zws c2 (h1.1 z hz)
   ·
    rw [if_neg c2] at h
    obtain ⟨e1,e2⟩:=zgt (Bool.eq_false_iff.2 c1) (Bool.eq_false_iff.2 c2)
    by_cases c3 : rangeB (x.Amt + y.Amt) = true
    ·
     rw [if_pos c3] at h
     by_cases c4 : x.Amt + y.Amt = 0
     ·
      rw [if_pos c4] at h
      have m:=zkz a b r h
      refine ⟨by rw [zxn,zxn,m.sum];omega,by have:=m.len;simp at this ⊢;omega,fun k c => ?_,?_,?_,?_⟩
      ·
       simp only [bal,m.bal k c,e1,e2]
       split <;> omega
      ·
       intro h1 h2
       exact m.ok (fun z hz => h1 z (by simp [hz])) (fun z hz => h2 z (by simp [hz]))
      ·
       intro p h1 h2
       exact m.low p (fun z hz => h1 z (by simp [hz])) (fun z hz => h2 z (by simp [hz]))
      ·
       intro h1 h2
       rw [List.pairwise_cons] at h1 h2
       exact m.sorted h1.2 h2.2
     ·
      rw [if_neg c4,Option.map_eq_some_iff] at h
      obtain ⟨r',h',rfl⟩:=h
      have m:=zkz a b r' h'
      refine ⟨by rw [zxn,zxn,zxn,m.sum];simp only;omega,by have:=m.len;simp at this ⊢;omega,fun k c => ?_,?_,?_,?_⟩
      ·
       simp only [bal,m.bal k c,e1,e2]
       split <;> omega
      ·
       intro h1 h2 z hz
       rcases List.mem_cons.1 hz with rfl | hz
       ·
        have:=h1 x (by simp)
        unfold lineOk at this ⊢
        simp only [Bool.and_eq_true] at this ⊢
        exact ⟨⟨this.1.1,by simp [c4]⟩,c3⟩
       ·
        exact m.ok (fun z hz => h1 z (by simp [hz])) (fun z hz => h2 z (by simp [hz])) z hz
      ·
       intro p h1 h2 z hz
       rcases List.mem_cons.1 hz with rfl | hz
       ·
        exact h1 x (by simp)
       ·
        exact m.low p (fun z hz => h1 z (by simp [hz])) (fun z hz => h2 z (by simp [hz])) z hz
      ·
       intro h1 h2
       rw [List.pairwise_cons] at h1 h2 ⊢
       refine ⟨m.low _ h1.1 (fun z hz => ?_),m.sorted h1.2 h2.2⟩
       have:=zyw.1 (h2.1 z hz)
       rw [zyw]
       simp only
       omega
    ·
     rw [if_neg c3] at h
     cases h
termination_by a b => a.length + b.length
/-! ### One posting posted; postings posted one after the other -/
/-! ### The past of an account -/
def pastL (k c : Int) : List Line → Int → List Int → Option (Int × List Int)
 | [],s,o => some (s,o)
 | x :: l,s,o => if x.Kind = k∧x.Ch = c then (if rangeB (s + x.Amt) = true then pastL k c l (s + x.Amt) (o ++ [s + x.Amt]) else none) else pastL k c l s o
def pastP (k c : Int) : List (Int × List Line) → Int → List Int → Option (List Int)
 | [],_,o => some o
 | p :: ps,s,o => if postingB p.1 p.2 = true then (match pastL k c p.2 s o with | none => none | some x => pastP k c ps x.1 x.2) else none
def past (ps : List (Int × List Line)) (k c : Int) : List Int:=if accB k c = true then (pastP k c ps 0 []).getD [] else []
end Go.Proofs.YtdbmkfmenfcbiaaGreat
namespace Go.Proofs.YtdbmkfmenfcbiaaGreat
open Go.ChangeShapes Go.WideShapes Go.ChangeAt Go.RowKit Go.Joins Go.Deep
structure Pst where
 Id : Int
 A : Option Addr
 cap : Nat
 L : List Line
instance : Inhabited Pst:=⟨⟨0,none,0,[]⟩⟩
def Pst.cells (p : Pst) : List Value:=[.int .i64 p.Id,.slice p.A p.L.length p.cap]
def Pst.pl (p : Pst) : Int × List Line:=(p.Id,p.L)
def Pst.val (p : Pst) : Value:=.slice p.A p.L.length p.cap
theorem Pst.uni (l : List Pst) : ∀ r ∈ l.map Pst.cells,r.length = 2:=by
 intro r hr
 obtain ⟨d,_,rfl⟩:=List.mem_map.1 hr
 rfl
def RdP (w : World) (B : Nat) (A : Option Addr) (ps : List Pst) : Prop:=Rd w B 2 A (ps.map Pst.cells)∧∀ p ∈ ps,Rd w B 3 p.A (p.L.map Line.cells)
section
variable {w w' : World} {B B' : Nat} {A : Option Addr} {ps : List Pst}
theorem RdP.below (h : RdP w B A ps) (hb : Below B w w') : RdP w' B A ps:=⟨h.1.below hb,fun p hp => (h.2 p hp).below hb⟩
theorem RdP.more (h : RdP w B A ps) (hB : B ≤ B') : RdP w B' A ps:=⟨h.1.more hB,fun p hp => (h.2 p hp).more hB⟩
theorem RdP.keep (h : RdP w B A ps) (hk : ∀ p : Addr,p.block < B → w'.cell? p = w.cell? p) : RdP w' B A ps:=⟨h.1.keep hk,fun p hp => (h.2 p hp).keep hk⟩
theorem RdP.at_ (h : RdP w B A ps) {k : Nat} (hk : k < ps.length) :
  ∃ b off,A = some ⟨b,off,none⟩∧b < B∧w.cell? ⟨b,off + k * 2,none⟩ = some (.int .i64 ps[k].Id)∧w.cell? ⟨b,off + k * 2 + 1,none⟩ = some (.slice ps[k].A ps[k].L.length ps[k].cap):=by
 obtain ⟨b,off,e,hb,hc⟩:=h.1.2 (by rw [List.length_map];omega)
 have hk' : (ps.map Pst.cells)[k]? = some ps[k].cells:=by rw [List.getElem?_map,List.getElem?_eq_getElem hk];rfl
 exact ⟨b,off,e,hb,hc k _ 0 _ hk' rfl,hc k _ 1 _ hk' rfl⟩
theorem RdP.lines (h : RdP w B A ps) {k : Nat} (hk : k < ps.length) : Rd w B 3 ps[k].A (ps[k].L.map Line.cells):=h.2 _ (List.getElem_mem hk)
theorem RdP.nil_ : RdP w B A []:=⟨Rd.nil_,by simp⟩
end
def OwL (w : World) (B : Nat) (ps : List Pst) : Prop :=
 (∀ p ∈ ps,Ow w B 99 3 p.val (p.L.map Line.cells))∧ps.Pairwise fun p q => ∀ i j,p.val.ownBlock = some i → q.val.ownBlock = some j → i < j
def OwP (w : World) (B : Nat) (A : Option Addr) (cap : Nat) (ps : List Pst) : Prop:=Ow w B 66 2 (.slice A ps.length cap) (ps.map Pst.cells)∧OwL w B ps
section
variable {w w' : World} {B B' : Nat} {A : Option Addr} {cap : Nat} {ps : List Pst}
theorem OwL.below (h : OwL w B ps) (hb : Below w.heap.size w w') : OwL w' B ps:=⟨fun p hp => (h.1 p hp).below hb,h.2⟩
theorem OwL.more (h : OwL w B ps) (hB : B' ≤ B) : OwL w B' ps:=⟨fun p hp => (h.1 p hp).more hB,h.2⟩
theorem OwL.nil_ : OwL w B []:=⟨by simp,.nil⟩
theorem OwL.far (h : OwL w B ps) {a : Addr} (ha : a.block < B) (u : Value) : OwL (w.setCell a u) B ps:=⟨fun p hp => (h.1 p hp).far ha u,h.2⟩
theorem OwL.alloc (h : OwL w B ps) (o : Obj) : OwL (w.alloc o) B ps:=⟨fun p hp => (h.1 p hp).alloc o,h.2⟩
theorem OwP.below (h : OwP w B A cap ps) (hb : Below w.heap.size w w') : OwP w' B A cap ps:=⟨h.1.below hb,h.2.below hb⟩
theorem OwP.more (h : OwP w B A cap ps) (hB : B' ≤ B) : OwP w B' A cap ps:=⟨h.1.more hB,h.2.more hB⟩
theorem OwP.rd (h : OwP w B A cap ps) : RdP w w.heap.size A ps:=⟨h.1.rd,fun p hp => (h.2.1 p hp).rd⟩
theorem OwP.nil_ : OwP w B none 0 []:=⟨Ow.nil_,OwL.nil_⟩
theorem OwL.lt (h : OwL w B ps) {p : Pst} (hp : p ∈ ps) {i : Nat} (hi : p.val.ownBlock = some i) : B ≤ i∧i < w.heap.size:=(h.1 p hp).block i hi
theorem OwL.push {q : Pst} (h : OwL w B ps) (hb : Below w.heap.size w w') (hq : Ow w' w.heap.size 99 3 q.val (q.L.map Line.cells)) (hB : B ≤ w.heap.size) : OwL w' B (ps ++ [q]):=by
 refine ⟨fun p hp => ?_,?_⟩
 ·
  rcases List.mem_append.1 hp with hp | hp
  ·
   exact (h.1 p hp).below hb
  ·
   rw [List.mem_singleton.1 hp]
   exact hq.more hB
 ·
  rw [List.pairwise_append]
  refine ⟨h.2,.cons (by simp) .nil,fun p hp r hr i j hi hj => ?_⟩
  rw [List.mem_singleton.1 hr] at hj
  have h1:=h.lt hp hi
  have h2:=hq.block j hj
  omega
end
structure Inside (w w' : World) (B C : Nat) : Prop where
 os : w'.os = w.os
 tape : w'.tape = w.tape
 output : w'.output = w.output
 size : w.heap.size ≤ w'.heap.size
 block : ∀ k,k < w.heap.size → (k < B ∨ C ≤ k) → w'.heap[k]? = w.heap[k]?
section
variable {w w' w'' : World} {B C : Nat}
theorem Inside.refl (w : World) (B C : Nat) : Inside w w B C:=⟨rfl,rfl,rfl,Nat.le_refl _,fun _ _ _ => rfl⟩
theorem Inside.trans (h : Inside w w' B C) (k : Inside w' w'' B C) : Inside w w'' B C :=
 ⟨k.os.trans h.os,k.tape.trans h.tape,k.output.trans h.output,Nat.le_trans h.size k.size,fun i hi ho => (k.block i (Nat.lt_of_lt_of_le hi h.size) ho).trans (h.block i hi ho)⟩
theorem Inside.of_grown {r : Option Nat} (h : w.grownBy w' r) (hr : ∀ k,r = some k → B ≤ k∧k < C) : Inside w w' B C :=
 ⟨h.os,h.tape,h.output,h.size,fun i hi ho => h.block i hi (fun e => by have:=hr i e.symm;omega)⟩
theorem Inside.below (h : Inside w w' B C) {a : World} {D : Nat} (hb : Below D a w) (hD : D ≤ B) (hDs : D ≤ a.heap.size) : Below D a w' :=
 ⟨h.os.trans hb.os,h.tape.trans hb.tape,h.output.trans hb.output,Nat.le_trans hb.size h.size,fun k hk => (h.block k (by have:=hb.size;omega) (.inl (by omega))).trans (hb.block k hk)⟩
end
/-! ### Postings that come in -/
end Go.Proofs.YtdbmkfmenfcbiaaGreat
namespace Go.Proofs.YtdbmkfmenfcbiaaGreat
open Go.RowKit

def agedF (age : Int) (hs : List Htlc) : List Int:=(hs.filter (fun h => decide (age ≤ h.Age))).map Htlc.Key
def agedOf (bt bn bw : Int) (cs : List Chan) (hs : List Htlc) (os : List Circle) (age : Int) : List Int:=if bookB bt bn bw cs hs os = true then agedF age hs else []
theorem zmh {age : Int} {hs : List Htlc} {k : Nat} (hk : k < hs.length) (h : decide (age ≤ hs[k].Age) = true) : agedF age (hs.take (k + 1)) = agedF age (hs.take k) ++ [hs[k].Key]:=by
  unfold agedF
  rw [List.take_succ_eq_append_getElem hk,List.filter_append,List.map_append]
  simp [h]
theorem zyh {age : Int} {hs : List Htlc} {k : Nat} (hk : k < hs.length) (h : decide (age ≤ hs[k].Age) = false) : agedF age (hs.take (k + 1)) = agedF age (hs.take k):=by
  unfold agedF
  rw [List.take_succ_eq_append_getElem hk,List.filter_append,List.map_append]
  simp [h]
theorem zwi (age : Int) (hs : List Htlc) (k : Nat) : (agedF age (hs.take k)).length ≤ k:=by
  unfold agedF
  rw [List.length_map]
  exact Nat.le_trans (List.length_filter_le _ _) (List.length_take_le _ _)
theorem zvt (bt bn bw : Int) (cs : List Chan) (hs : List Htlc) (os : List Circle) (age : Int) : (agedOf bt bn bw cs hs os age).length ≤ hs.length:=by
  unfold agedOf
  split
  · have:=zwi age hs hs.length
    rwa [List.take_length] at this
  · simp
end Go.Proofs.YtdbmkfmenfcbiaaGreat
namespace Go.Proofs.YtdbmkfmenfcbiaaGreat
open Go.RowKit
structure Event where
 Kind : Int
 Key : Int
 Ch : Int
 To : Int
 Amt : Int
 Fee : Int
 Yes : Bool
def Event.cells (d : Event) : List Value:=[.int .i64 d.Kind,.int .i64 d.Key,.int .i64 d.Ch,.int .i64 d.To,.int .i64 d.Amt,.int .i64 d.Fee,.bool d.Yes]
theorem Event.uni (l : List Event) : ∀ r ∈ l.map Event.cells,r.length = 7:=by
 intro r hr
 obtain ⟨d,_,rfl⟩:=List.mem_map.1 hr
 rfl
theorem Event.of_flat {cs : List Value} (h0 : flat [true,true,true,true,true,true,false] cs) : ∃ d : Event,cs = d.cells∧True:=by
 obtain ⟨a0,cs0,e0,h1⟩:=zxz h0
 obtain ⟨a1,cs1,e1,h2⟩:=zxz h1
 obtain ⟨a2,cs2,e2,h3⟩:=zxz h2
 obtain ⟨a3,cs3,e3,h4⟩:=zxz h3
 obtain ⟨a4,cs4,e4,h5⟩:=zxz h4
 obtain ⟨a5,cs5,e5,h6⟩:=zxz h5
 obtain ⟨a6,cs6,e6,h7⟩:=flat_b h6
 have e7:=zvg h7
 subst e0 e1 e2 e3 e4 e5 e6 e7
 exact ⟨⟨a0,a1,a2,a3,a4,a5,a6⟩,rfl,trivial⟩
theorem Event.rd {w : World} {B : Nat} {A : Option Addr} {l : List Event} (h : Rd w B 7 A (l.map Event.cells)) {k : Nat} (hk : k < l.length) :
  ∃ b off,A = some ⟨b,off,none⟩∧b < B∧w.cell? ⟨b,off + k * 7,none⟩ = some (.int .i64 l[k].Kind)∧w.cell? ⟨b,off + k * 7 + 1,none⟩ = some (.int .i64 l[k].Key)∧w.cell? ⟨b,off + k * 7 + 2,none⟩ = some (.int .i64 l[k].Ch)∧w.cell? ⟨b,off + k * 7 + 3,none⟩ = some (.int .i64 l[k].To)∧w.cell? ⟨b,off + k * 7 + 4,none⟩ = some (.int .i64 l[k].Amt)∧w.cell? ⟨b,off + k * 7 + 5,none⟩ = some (.int .i64 l[k].Fee)∧w.cell? ⟨b,off + k * 7 + 6,none⟩ = some (.bool l[k].Yes):=by
 obtain ⟨b,off,e,hb,hc⟩:=h.2 (by rw [List.length_map];omega)
 have hk' : (l.map Event.cells)[k]? = some l[k].cells:=by rw [List.getElem?_map,List.getElem?_eq_getElem hk];rfl
 exact ⟨b,off,e,hb,hc k _ 0 _ hk' rfl,hc k _ 1 _ hk' rfl,hc k _ 2 _ hk' rfl,hc k _ 3 _ hk' rfl,hc k _ 4 _ hk' rfl,hc k _ 5 _ hk' rfl,hc k _ 6 _ hk' rfl⟩
theorem Event.fl (l : List Event) {k : Nat} (hk : k < l.length) : (l.map Event.cells).flatten[k * 7]? = some (.int .i64 l[k].Kind)∧(l.map Event.cells).flatten[k * 7 + 1]? = some (.int .i64 l[k].Key)∧(l.map Event.cells).flatten[k * 7 + 2]? = some (.int .i64 l[k].Ch)∧(l.map Event.cells).flatten[k * 7 + 3]? = some (.int .i64 l[k].To)∧(l.map Event.cells).flatten[k * 7 + 4]? = some (.int .i64 l[k].Amt)∧(l.map Event.cells).flatten[k * 7 + 5]? = some (.int .i64 l[k].Fee)∧(l.map Event.cells).flatten[k * 7 + 6]? = some (.bool l[k].Yes):=by
 have hk' : (l.map Event.cells)[k]? = some l[k].cells:=by rw [List.getElem?_map,List.getElem?_eq_getElem hk];rfl
 exact ⟨zxa _ 7 (Event.uni l) k 0 _ hk' (by omega),zxa _ 7 (Event.uni l) k 1 _ hk' (by omega),zxa _ 7 (Event.uni l) k 2 _ hk' (by omega),zxa _ 7 (Event.uni l) k 3 _ hk' (by omega),zxa _ 7 (Event.uni l) k 4 _ hk' (by omega),zxa _ 7 (Event.uni l) k 5 _ hk' (by omega),zxa _ 7 (Event.uni l) k 6 _ hk' (by omega)⟩
def evOf (key : Int) : Event:=⟨7,key,0,0,0,0,false⟩
def sweepOf (bt bn bw : Int) (cs : List Chan) (hs : List Htlc) (os : List Circle) (age : Int) : List Event:=(agedOf bt bn bw cs hs os age).map evOf
theorem zmd (bt bn bw : Int) (cs : List Chan) (hs : List Htlc) (os : List Circle) (age : Int) : (sweepOf bt bn bw cs hs os age).length ≤ hs.length:=by
 unfold sweepOf
 rw [List.length_map]
 exact zvt bt bn bw cs hs os age
theorem Ow.differ {w : World} {B B' n n' : Nat} {e e' : TypeId} {v v' : Value} {rows rows' : List (List Value)} (h : Ow w B e n v rows) (h' : Ow w B' e' n' v' rows') (hne : e ≠ e') : v.ownBlock = none ∨ v.ownBlock ≠ v'.ownBlock:=by
 rcases h.2.2 with ⟨rfl,_⟩ | ⟨g,cap,cur,rfl,_,hh,_⟩
 ·
  exact .inl rfl
 ·
  exact .inr (h'.ne_ hh (fun e => hne e.symm))
abbrev evC (e : Event) : Array Value:=#[.int .i64 e.Kind,.int .i64 e.Key,.int .i64 e.Ch,.int .i64 e.To,.int .i64 e.Amt,.int .i64 e.Fee,.bool e.Yes]
abbrev kqE (w : World) (g : Nat) (e : Event) (R : Prop) : Prop:=w.cell? ⟨g,0,none⟩ = some (.int .i64 e.Kind)∧w.cell? ⟨g,1,none⟩ = some (.int .i64 e.Key)∧w.cell? ⟨g,2,none⟩ = some (.int .i64 e.Ch)∧w.cell? ⟨g,3,none⟩ = some (.int .i64 e.To)∧w.cell? ⟨g,4,none⟩ = some (.int .i64 e.Amt)∧w.cell? ⟨g,5,none⟩ = some (.int .i64 e.Fee)∧w.cell? ⟨g,6,none⟩ = some (.bool e.Yes)∧R
abbrev kqE_ (w : World) (g : Nat) (e : Event) : Prop:=w.cell? ⟨g,0,none⟩ = some (.int .i64 e.Kind)∧w.cell? ⟨g,1,none⟩ = some (.int .i64 e.Key)∧w.cell? ⟨g,2,none⟩ = some (.int .i64 e.Ch)∧w.cell? ⟨g,3,none⟩ = some (.int .i64 e.To)∧w.cell? ⟨g,4,none⟩ = some (.int .i64 e.Amt)∧w.cell? ⟨g,5,none⟩ = some (.int .i64 e.Fee)∧w.cell? ⟨g,6,none⟩ = some (.bool e.Yes)
end Go.Proofs.YtdbmkfmenfcbiaaGreat
