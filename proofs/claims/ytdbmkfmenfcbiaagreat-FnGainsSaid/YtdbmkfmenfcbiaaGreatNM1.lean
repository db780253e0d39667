/- AccEq · Amt · Base2 · Bits · Last · Steady · Tk · App · BookF · Divp · Draw · Fr · Gain · Last2 · Line · Mul · Accs · App2 · App3 · Bookp · Div · GainS · LedgerF · SortG · Sq · Bk · BookA · BookU0 · LedgerM · Linesi · Liness · MulI: each text proves what its theorems say, with no conditions but theirs. -/
import Derived.Test.YtdbmkfmenfcbiaaGreatRows
import Derived.Test.YtdbmkfmenfcbiaaGreatNBase
import Derived.Laws.StructEq
import Derived.Laws.AppendOwnNone
import Derived.Lib.Mul64
import Derived.Laws.Bits64b
import Derived.Test.YtdbmkfmenfcbiaaGreatNLen
import Derived.Deep.RegionHeld3
import Derived.Still
import Derived.StillTail
import Derived.Deep.AppendLies
import Derived.StillTailTactics
import Derived.Lib.ItoaNum
import Derived.Deep.QuietTactic
import Derived.BigQuiet
import Derived.Laws.Bits128
import Derived.IntWalk
import Derived.Deep.Cut
import Derived.Deep.CutBlock
import Derived.Test.YtdbmkfmenfcbiaaGreatNShelf
import Derived.Shelf.SlSortFuncK.WholeK
import Derived.Shelf.GgSortFunc.Tiny
namespace Go.Proofs.YtdbmkfmenfcbiaaGreat
open Go.RowKit

theorem eq_acc (w : World) (a b k c : Int) : (binOp .eql 55 (.agg #[.int .i64 a,.int .i64 b]) (.agg #[.int .i64 k,.int .i64 c])).run Tryz.prog w = .ok (.bool (a == k && b == c)) w:=by
  rw [run_eql_struct,show (10000 : Nat) = 9999 + 1 from rfl,run_equalIn_struct w 9999 _ _ _ (by kernel_rfl) (by kernel_rfl)]
  cases h1 : (a == k) <;> cases h2 : (b == c) <;> simp [go_sem,h1,h2,Tryz.underlying55,Tryz.underlying3]
theorem neq_acc (w : World) (a b k c : Int) : (binOp .neq 55 (.agg #[.int .i64 a,.int .i64 b]) (.agg #[.int .i64 k,.int .i64 c])).run Tryz.prog w = .ok (.bool (!(a == k && b == c))) w:=by
  rw [run_neq_struct,show (10000 : Nat) = 9999 + 1 from rfl,run_equalIn_struct w 9999 _ _ _ (by kernel_rfl) (by kernel_rfl)]
  cases h1 : (a == k) <;> cases h2 : (b == c) <;> simp [go_sem,h1,h2,Tryz.underlying55,Tryz.underlying3]
theorem zmq {a b k c : Int} (h : a = k∧b = c) : (a == k && b == c) = true:=by rw [h.1,h.2];simp
theorem zyd {a b k c : Int} (h : ¬(a = k∧b = c)) : (a == k && b == c) = false:=by
  rw [Bool.eq_false_iff]
  intro he
  rw [Bool.and_eq_true,beq_iff_eq,beq_iff_eq] at he
  exact h he
def inB (n lo hi : Int) : Bool:=decide (lo ≤ n∧n ≤ hi)
theorem zjj {n lo hi : Int} : inB n lo hi = true ↔ lo ≤ n∧n ≤ hi:=by simp [inB]
theorem i_in (n lo hi : Int) (w : World) :
  Calls Tryz.prog 82 #[.int .i64 n,.int .i64 lo,.int .i64 hi] w fun e w' => e = .returned (.bool (inB n lo hi))∧w = w':=by
 by_cases h1 : lo ≤ n <;> by_cases h2 : n ≤ hi
 all_goals
  go_enter Tryz.func82,Tryz.ntmps82
  go_wp2
  all_goals go_ret
  all_goals exact ⟨by simp [inB,h1,h2] <;> omega,rfl⟩
def amtB (n : Int) : Bool:=inB n 0 1125899906842624
theorem zja {n : Int} : amtB n = true ↔ 0 ≤ n∧n ≤ 1125899906842624:=zjj
theorem zqo (n : Int) (w : World) :
  Calls Tryz.prog 50 #[.int .i64 n] w fun e w' => e = .returned (.bool (amtB n))∧w = w':=by
 go_enter Tryz.func50,Tryz.ntmps50
 go_wp2_with (go_at_call 82;refine (i_in _ _ _ _).mono ?_;rintro e w' ⟨rfl,rfl⟩)
 go_ret
 exact ⟨rfl,rfl⟩
theorem zqx (n : Int) (w : World) :
  Calls Tryz.prog 56 #[.int .i64 n] w fun e w' => e = .returned (.bool (amtB n))∧w = w':=by
 by_cases h1 : 0 ≤ n <;> by_cases h2 : n ≤ 1125899906842624
 all_goals
  go_enter Tryz.func56,Tryz.ntmps56
  go_wp2
  all_goals go_ret
  all_goals exact ⟨by simp [amtB,inB,h1,h2] <;> omega,rfl⟩
def isChanB (n : Int) : Bool:=inB n 1 99
theorem isChanB_iff {n : Int} : isChanB n = true ↔ 1 ≤ n∧n ≤ 99:=zjj
theorem zxa (n : Int) (w : World) :
  Calls Tryz.prog 84 #[.int .i64 n] w fun e w' => e = .returned (.bool (isChanB n))∧w = w':=by
 go_enter Tryz.func84,Tryz.ntmps84
 go_wp2_with (go_at_call 82;refine (i_in _ _ _ _).mono ?_;rintro e w' ⟨rfl,rfl⟩)
 go_ret
 exact ⟨rfl,rfl⟩
theorem zgq (n : Int) (w : World) (h1 : amtB n = true) :
  Calls Tryz.prog 51 #[.int .i64 n] w fun e w' => e = .returned (.tuple #[.int .i64 n,.bool true])∧w = w':=by
 go_enter Tryz.func51,Tryz.ntmps51
 go_wp2_with (go_at_call 50;refine (zqo _ _).mono ?_;rintro e w' ⟨rfl,rfl⟩)
 go_ret2
 exact ⟨rfl,rfl⟩
theorem i_amt_no (n : Int) (w : World) (h1 : amtB n = false) :
  Calls Tryz.prog 51 #[.int .i64 n] w fun e w' => e = .returned (.tuple #[.int .i64 0,.bool false])∧w = w':=by
 go_enter Tryz.func51,Tryz.ntmps51
 go_wp2_with (go_at_call 50;refine (zqo _ _).mono ?_;rintro e w' ⟨rfl,rfl⟩)
 go_ret2
 exact ⟨rfl,rfl⟩
theorem zvp (a b : Int) (w : World) (h1 : amtB a = true) (h2 : amtB b = true) (h3 : amtB (a + b) = true) :
  Calls Tryz.prog 146 #[.int .i64 a,.int .i64 b] w fun e w' => e = .returned (.tuple #[.int .i64 (a + b),.bool true])∧w = w':=by
 obtain ⟨a1,a2⟩:=zja.1 h1
 obtain ⟨b1,b2⟩:=zja.1 h2
 go_enter Tryz.func146,Tryz.ntmps146
 go_wp2_with (first | (go_at_call 50;refine (zqo _ _).mono ?_;rintro e w' ⟨rfl,rfl⟩) | (go_at_call 51;refine (zgq _ _ h3).mono ?_;rintro e w' ⟨rfl,rfl⟩))
 go_ret2
 exact ⟨rfl,rfl⟩
theorem zwn (a b : Int) (w : World) (h : (amtB a && amtB b && amtB (a + b)) = false) :
  Calls Tryz.prog 146 #[.int .i64 a,.int .i64 b] w fun e w' => e = .returned (.tuple #[.int .i64 0,.bool false])∧w = w':=by
 cases h1 : amtB a
 ·
  clear h
  go_enter Tryz.func146,Tryz.ntmps146
  go_wp2_with (go_at_call 50;refine (zqo _ _).mono ?_;rintro e w' ⟨rfl,rfl⟩)
  go_ret2
  exact ⟨rfl,rfl⟩
 cases h2 : amtB b
 ·
  clear h
  go_enter Tryz.func146,Tryz.ntmps146
  go_wp2_with (go_at_call 50;refine (zqo _ _).mono ?_;rintro e w' ⟨rfl,rfl⟩)
  go_ret2
  exact ⟨rfl,rfl⟩
 have h3 : amtB (a + b) = false:=by simpa [h1,h2] using h
 clear h
 obtain ⟨a1,a2⟩:=zja.1 h1
 obtain ⟨b1,b2⟩:=zja.1 h2
 go_enter Tryz.func146,Tryz.ntmps146
 go_wp2_with (first | (go_at_call 50;refine (zqo _ _).mono ?_;rintro e w' ⟨rfl,rfl⟩) | (go_at_call 51;refine (i_amt_no _ _ h3).mono ?_;rintro e w' ⟨rfl,rfl⟩))
 go_ret2
 exact ⟨rfl,rfl⟩
theorem zjv (a b : Int) (w : World) (h1 : amtB a = true) (h2 : amtB b = true) (h3 : amtB (a + b) = true) :
  Calls Tryz.prog 65 #[.int .i64 a,.int .i64 b] w fun e w' => e = .returned (.tuple #[.int .i64 (a + b),.bool true])∧w = w':=by
 obtain ⟨a1,a2⟩:=zja.1 h1
 obtain ⟨b1,b2⟩:=zja.1 h2
 go_enter Tryz.func65,Tryz.ntmps65
 go_wp2_with (go_at_call 56;refine (zqx _ _).mono ?_;rintro e w' ⟨rfl,rfl⟩)
 go_ret2
 exact ⟨rfl,rfl⟩
theorem zka (a b : Int) (w : World) (h : (amtB a && amtB b && amtB (a + b)) = false) :
  Calls Tryz.prog 65 #[.int .i64 a,.int .i64 b] w fun e w' => e = .returned (.tuple #[.int .i64 0,.bool false])∧w = w':=by
 cases h1 : amtB a
 ·
  clear h
  go_enter Tryz.func65,Tryz.ntmps65
  go_wp2_with (go_at_call 56;refine (zqx _ _).mono ?_;rintro e w' ⟨rfl,rfl⟩)
  go_ret2
  exact ⟨rfl,rfl⟩
 cases h2 : amtB b
 ·
  clear h
  go_enter Tryz.func65,Tryz.ntmps65
  go_wp2_with (go_at_call 56;refine (zqx _ _).mono ?_;rintro e w' ⟨rfl,rfl⟩)
  go_ret2
  exact ⟨rfl,rfl⟩
 have h3 : amtB (a + b) = false:=by simpa [h1,h2] using h
 clear h
 obtain ⟨a1,a2⟩:=zja.1 h1
 obtain ⟨b1,b2⟩:=zja.1 h2
 go_enter Tryz.func65,Tryz.ntmps65
 go_wp2_with (go_at_call 56;refine (zqx _ _).mono ?_;rintro e w' ⟨rfl,rfl⟩)
 go_ret2
 exact ⟨rfl,rfl⟩
theorem zxr {α : Type} (l : List α) (p : α → Bool) {k : Nat} (hk : k < l.length) : (l.take (k + 1)).all p = ((l.take k).all p && p l[k]):=by
 rw [List.take_succ_eq_append_getElem hk,List.all_append]
 simp
theorem zyh {α : Type} (l : List α) (p : α → Bool) {k : Nat} (hk : k < l.length) (h : p l[k] = false) : l.all p = false:=by
 rw [List.all_eq_false]
 exact ⟨l[k],List.getElem_mem hk,by simp [h]⟩
theorem zqq {α β : Type} (l : List α) (f : β → α → β) (b : β) {k : Nat} (hk : k < l.length) : (l.take (k + 1)).foldl f b = f ((l.take k).foldl f b) l[k]:=by
 rw [List.take_succ_eq_append_getElem hk,List.foldl_append]
 rfl
end Go.Proofs.YtdbmkfmenfcbiaaGreat
namespace Go.Proofs.YtdbmkfmenfcbiaaGreat
open Go.RowKit Go.Deep
theorem zwt {P : Program} {w : World} {ops : Array Oper} {rest : List Oper} {o : Oper} {a : Act} {Q : Exit → Act → World → Prop} (hgd : o.guard = none) (s x : Operand) (t : TypeId)
  (ho : o.op = .call { callee:=.builtin .append,args:=#[s,x],argTypes:=#[t,t] })
  (e : TypeId) (i : TypeInfo) (ht : P.underlying t = some (.slice e)) (hi : P.info? e = some i)
  (A : Option Addr) (c : Nat) (hs : a.eval s = .slice none 0 0) (hx : a.eval x = .slice A 0 c)
  (h : wpList P ops Q rest (a.put o.dst (.slice none 0 0)) w) : wpList P ops Q (o :: rest) a w:=by
 refine wpList_plain hgd fun K hK => ?_
 have hrun : (Builtin.append_ #[t,t] o.type #[.slice none 0 0,.slice A 0 c]).run P w = .ok (.slice none 0 0) w:=by
  cases A <;> simp [Builtin.append_,run_underlying ht,sizeOf,typeInfo,hi,Builtin.lenOf,Builtin.firstCells,loadCells,loadCellsFrom]
 unfold Oper.wp
 simp [execOp,ho,resolve,invoke,builtin,hs,hx,hrun,Result.andThen]
 exact hK _ _ h
section
variable {w : World} {B size : Nat} {A : Option Addr} {rows : List (List Value)}
theorem Rd.flat (h : Rd w B size A rows) (hs : 0 < size) (hn : 0 < rows.length) : ∃ b off,A = some ⟨b,off,none⟩∧b < B∧∀ j u,rows.flatten[j]? = some u → w.cell? ⟨b,off + j,none⟩ = some u:=by
 obtain ⟨b,off,e,hb,hc⟩:=h.2 hn
 refine ⟨b,off,e,hb,fun j u hu => ?_⟩
 have hj : j < rows.length * size:=by
  have:=(List.getElem?_eq_some_iff.1 hu).1
  rwa [zxt rows size h.1] at this
 have hi : j / size < rows.length:=(Nat.div_lt_iff_lt_mul hs).2 hj
 have e1 : rows[j / size]? = some rows[j / size]:=List.getElem?_eq_getElem hi
 have e2:=zqw rows size h.1 (j / size) (j % size) _ e1 (Nat.mod_lt _ hs)
 rw [Nat.div_add_mod' j size,hu] at e2
 have:=hc (j / size) _ (j % size) u e1 e2.symm
 rwa [Nat.add_assoc,Nat.div_add_mod' j size] at this
end
theorem Rd.take {w : World} {B size : Nat} {A : Option Addr} {rows : List (List Value)} (h : Rd w B size A rows) (k : Nat) : Rd w B size A (rows.take k) :=
 ⟨fun r hr => h.1 r (List.mem_of_mem_take hr),fun hn => by
  obtain ⟨b,off,e,hb,hc⟩:=h.2 (by rw [List.length_take] at hn;omega)
  refine ⟨b,off,e,hb,fun i r j v h1 h2 => hc i r j v ?_ h2⟩
  rw [List.getElem?_take] at h1
  split at h1
  ·
   exact h1
  cases h1⟩
theorem zhw {P : Program} {w : World} {ops : Array Oper} {rest : List Oper} {o : Oper} {a : Act} {Q : Exit → Act → World → Prop} (hgd : o.guard = none) (s x : Operand) (t : TypeId)
  (ho : o.op = .call { callee:=.builtin .append,args:=#[s,x],argTypes:=#[t,t] })
  (e : TypeId) (i : TypeInfo) (z : Value) (size bytes : Nat) (ht : P.underlying t = some (.slice e)) (hi : P.info? e = some i) (hz : i.zero = some z)
  (hsize : i.size = size) (hby : i.bytes = bytes) (hzs : z.cells.size = size) (hsz : 0 < size) (hb4 : bytes ≤ 4096)
  (A : Option Addr) (c : Nat) (rows : List (List Value)) (hs : a.eval s = .slice none 0 0) (hx : a.eval x = .slice A rows.length c) (hr : Rd w w.heap.size size A rows)
  (h1 : ∀ u ∈ rows.flatten,u.oneCell' = true) (hlen : rows.length ≤ 4194304)
  (h : ∀ A' cap w',Ow w' w.heap.size e size (.slice A' rows.length cap) rows → Below w.heap.size w w' → wpList P ops Q rest (a.put o.dst (.slice A' rows.length cap)) w') : wpList P ops Q (o :: rest) a w:=by
 by_cases hn : 0 < rows.length
 ·
  obtain ⟨b,off,rfl,hb,hc⟩:=hr.flat hsz hn
  refine wpList_append_lies w hgd s x t ho w.heap.size e i z size bytes ht hi hz hsize hby hzs hsz (.slice none 0 0) 0 [] hs (World.ownsRow_nil _ _ _ _) ⟨b,off,none⟩ rows.length c rows.flatten hx (zxt rows size hr.1)
   (fun j u hu => by
    have:=hc j u hu
    rwa [show (⟨b,off,none⟩ : Addr).add j = ⟨b,off + j,none⟩ by unfold Addr.add;split <;> simp_all]) h1 hn (by simp only [maxLen];omega)
   (by
    have : (0 + rows.length) * bytes ≤ 4194304 * 4096:=Nat.mul_le_mul (by omega) hb4
    omega) (Nat.le_refl _) w.heap.size rfl ?_
  intro g cap w' hown hgr _ _
  rw [Nat.zero_add,List.nil_append] at hown
  rw [Nat.zero_add]
  exact h _ _ _ ⟨hr.1,hown⟩ ⟨hgr.os,hgr.tape,hgr.output,hgr.size,fun k hk => hgr.block k hk (by simp [Value.ownBlock])⟩
 have h0 : rows = []:=List.eq_nil_of_length_eq_zero (by omega)
 subst h0
 exact zwt hgd s x t ho e i ht hi A c hs hx (h none 0 w Ow.nil_ (Below.refl _ _))
theorem zth : ∀ (rows : List (List Value)) (size i j : Nat) (r : List Value) (u : Value),(∀ r ∈ rows,r.length = size) → rows[i]? = some r → j < size → rows.flatten.set (i * size + j) u = (rows.set i (r.set j u)).flatten
 | [],_,_,_,_,_,_,h,_ => by simp at h
 | r0 :: rows,size,0,j,r,u,hu,h,hj => by
  simp only [List.getElem?_cons_zero,Option.some.injEq] at h
  subst h
  have h0:=hu r0 (by simp)
  rw [List.flatten_cons,Nat.zero_mul,Nat.zero_add,List.set_append_left _ _ (by omega),List.set_cons_zero,List.flatten_cons]
 | r0 :: rows,size,i + 1,j,r,u,hu,h,hj => by
  have h0:=hu r0 (by simp)
  have e : (i + 1) * size + j - r0.length = i * size + j:=by rw [h0,Nat.succ_mul];omega
  rw [List.flatten_cons,List.set_append_right _ _ (by rw [h0,Nat.succ_mul];omega),e,zth rows size i j r u (fun r hr => hu r (by simp [hr])) (by simpa using h) hj,List.set_cons_succ,List.flatten_cons]
section
variable {w : World} {B size g n cap : Nat} {e : TypeId} {rows : List (List Value)}
theorem Ow.cellAt (h : Ow w B e size (.slice (some ⟨g,0,none⟩) n cap) rows) {i j : Nat} {r : List Value} (hi : rows[i]? = some r) (hj : j < size) : w.cell? ⟨g,i * size + j,none⟩ = r[j]?:=by
 have hn : n = rows.length:=by
  obtain ⟨A,cap',e1,_⟩:=h.form
  injection e1
 subst hn
 have hi':=(List.getElem?_eq_some_iff.1 hi).1
 rw [h.2.cellAt (i * size + j) (by have:=Nat.mul_le_mul_right size hi';rw [Nat.succ_mul] at this;omega)]
 exact zqw rows size h.1 i j r hi hj
theorem Ow.frozenAt (h : Ow w B e size (.slice (some ⟨g,0,none⟩) n cap) rows) (j : Nat) : w.frozen? ⟨g,j,none⟩ = false:=by
 have hn : n = rows.length:=by
  obtain ⟨A,cap',e1,_⟩:=h.form
  injection e1
 subst hn
 exact h.2.frozenAt j
theorem Ow.stored (h : Ow w B e size (.slice (some ⟨g,0,none⟩) n cap) rows) {i j : Nat} {r : List Value} (hi : rows[i]? = some r) (hj : j < size) (u : Value) :
  Ow (w.setCell ⟨g,i * size + j,none⟩ u) B e size (.slice (some ⟨g,0,none⟩) n cap) (rows.set i (r.set j u)):=by
 have hn : n = rows.length:=by
  obtain ⟨A,cap',e1,_⟩:=h.form
  injection e1
 subst hn
 refine ⟨fun r' hr' => ?_,?_⟩
 ·
  rcases List.mem_or_eq_of_mem_set hr' with h1 | h1
  ·
   exact h.1 _ h1
  subst h1
  rw [List.length_set]
  exact h.1 r (List.mem_of_getElem? hi)
 rw [List.length_set,← zth rows size i j r u h.1 hi hj]
 exact (h.2.stored (i * size + j) u).1
theorem Ow.drew (h : Ow w B e size (.slice (some ⟨g,0,none⟩) n cap) rows) : Ow w.drew B e size (.slice (some ⟨g,0,none⟩) n cap) rows:=h
end
theorem Ow.empty_ {w : World} {B size g : Nat} {e : TypeId} (hg : g = w.heap.size) (hB : B ≤ g) : Ow (w.alloc (.cells #[] e)) B e size (.slice (some ⟨g,0,none⟩) 0 0) []:=by
 subst hg
 exact ⟨by simp,World.ownsRow_lit w #[] 0 hB (Nat.zero_le _) (by simp)⟩
end Go.Proofs.YtdbmkfmenfcbiaaGreat
namespace Go.Proofs.YtdbmkfmenfcbiaaGreat
open Go.RowKit

namespace Mul64
theorem maskN (a : Nat) (ha : a < 18446744073709551616) : bits .and .u64 (a : Int) 4294967295 = ((a % 4294967296 : Nat) : Int):=by
  have h:=bits_and_u64_nat a 4294967295 ha (by omega)
  have e : a &&& 4294967295 = a % 4294967296:=Nat.and_two_pow_sub_one_eq_mod a 32
  rw [e] at h
  exact h
theorem divN (a : Nat) : (a : Int) / 4294967296 = ((a / 4294967296 : Nat) : Int):=by omega
theorem mulN (a b : Nat) : (a : Int) * (b : Int) = ((a * b : Nat) : Int):=(Int.natCast_mul a b).symm
theorem addN (a b : Nat) : (a : Int) + (b : Int) = ((a + b : Nat) : Int):=(Int.natCast_add a b).symm
theorem wrapN (a : Nat) (ha : a < 18446744073709551616) : IntKind.u64.wrap (a : Int) = (a : Int):=by rw [IntKind.wrap_u64];omega
theorem wrapM (a : Nat) : IntKind.u64.wrap (a : Int) = ((a % 18446744073709551616 : Nat) : Int):=by rw [IntKind.wrap_u64];omega
end Mul64

set_option maxHeartbeats 1000000 in
theorem bits_Mul64 (x y : Nat) (hx : x < 18446744073709551616) (hy : y < 18446744073709551616) (w : World) :
    Calls Tryz.prog 170 #[.int .u64 x,.int .u64 y] w fun e w' => e = .returned (.tuple #[.int .u64 ((x * y / 18446744073709551616 : Nat) : Int),.int .u64 ((x * y % 18446744073709551616 : Nat) : Int)])∧w = w':=by
  obtain ⟨bd,bt,bw,hhi⟩:=Lib.mul64_hi x y hx hy
  have ba:=Lib.half_mul_le (a:=x / 4294967296) (b:=y / 4294967296) (by omega) (by omega)
  have bb:=Lib.half_mul_le (a:=x / 4294967296) (b:=y % 4294967296) (by omega) (by omega)
  have bc:=Lib.half_mul_le (a:=x % 4294967296) (b:=y / 4294967296) (by omega) (by omega)
  have ba' : x / 4294967296 * (y / 4294967296) < 18446744073709551616:=by omega
  have bb' : x / 4294967296 * (y % 4294967296) < 18446744073709551616:=by omega
  have bc' : x % 4294967296 * (y / 4294967296) < 18446744073709551616:=by omega
  have bh1 : x / 4294967296 * (y / 4294967296) + (x / 4294967296 * (y % 4294967296) + x % 4294967296 * (y % 4294967296) / 4294967296) / 4294967296 < 18446744073709551616:=by omega
  have bh : x / 4294967296 * (y / 4294967296) + (x / 4294967296 * (y % 4294967296) + x % 4294967296 * (y % 4294967296) / 4294967296) / 4294967296 + ((x / 4294967296 * (y % 4294967296) + x % 4294967296 * (y % 4294967296) / 4294967296) % 4294967296 + x % 4294967296 * (y / 4294967296)) / 4294967296 < 18446744073709551616:=by omega
  go_enter Tryz.func170,Tryz.ntmps170
  go_wp2
  simp only [Mul64.maskN x hx,Mul64.maskN y hy,Mul64.divN,Mul64.mulN,Mul64.addN,Mul64.wrapN _ bd,Mul64.wrapN _ bb',Mul64.wrapN _ bt,Mul64.maskN _ bt,Mul64.wrapN _ bc',Mul64.wrapN _ bw,Mul64.wrapN _ ba',Mul64.wrapN _ bh1,Mul64.wrapN _ bh,Mul64.wrapM (x * y)]
  rw [hhi]
  go_ret2
  exact ⟨rfl,rfl⟩
end Go.Proofs.YtdbmkfmenfcbiaaGreat
namespace Go.Proofs.YtdbmkfmenfcbiaaGreat

section
variable {P : Program} {md : Region.Mode} {ops0 : Array Oper} {o : Oper} {Q : Exit → Act → World → Prop} {S : World → Prop}
def lastQ (P : Program) (ops : Array Oper) (o : Oper) (Q : Exit → Act → World → Prop) : Exit → Act → World → Prop
  | .normal,a,w => ∀ K : Act → World → Prop,(∀ a w,Q .normal a w → K a w) → if Region.wanted o (yielded ops a.tmps) = true then Oper.wp P o a w K Q else K (a.put o.dst undef) w
  | e,a,w => Q e a w
def noGuards (ops0 : Array Oper) : Bool:=ops0.toList.all fun x => x.guard.isNone
def backOnly (md : Region.Mode) (ops0 : Array Oper) : Bool:=(List.range ops0.size).all fun i => match ops0[i]? with
  | some x => x.after.toList.all fun e => !Region.binds md e || decide (e.on < i)
  | none => true
theorem zvt {listed : Array Bool} {i : Nat} {b : Bool} (h : i < listed.size) : (listed.push false).getD i b = listed.getD i b:=by
  simp [Array.getD_eq_getD_getElem?,Array.getElem?_push,Nat.ne_of_lt h]
theorem zto {listed : Array Bool} {b : Bool} : (listed.push false).getD listed.size b = false:=by
  simp [Array.getD_eq_getD_getElem?]
theorem getD_any {listed : Array Bool} {i : Nat} (h : i < listed.size) (b c : Bool) : listed.getD i b = listed.getD i c:=by
  simp [Array.getD_eq_getD_getElem?,h]
theorem ztb {i : Nat} (h : i < ops0.size) : (ops0.push o)[i]? = ops0[i]?:=by
  rw [Array.getElem?_push,if_neg (by omega)]
theorem all_listed (hb : backOnly md ops0 = true) {listed : Array Bool} (hs : listed.size = ops0.size) (hr : Region.ready md ops0 listed = []) : ∀ i,i < ops0.size → listed.getD i false = true:=by
  intro i
  induction i using Nat.strongRecOn with
  | _ i ih =>
    intro hi
    refine Classical.byContradiction fun hc => ?_
    have hc' : listed.getD i true = false:=by
      rw [getD_any (by omega) true false]
      simpa using hc
    have : i ∈ Region.ready md ops0 listed:=by
      refine mem_ready.2 ⟨hc',ops0[i],by simp [hi],fun e he hbe => ?_⟩
      have h1:=List.all_eq_true.1 hb i (List.mem_range.2 hi)
      simp only [Array.getElem?_eq_getElem hi] at h1
      have h2:=List.all_eq_true.1 h1 e (by simpa using he)
      simp only [hbe,Bool.not_true,Bool.false_or,decide_eq_true_eq] at h2
      exact ih e.on h2 (by omega)
    rw [hr] at this
    cases this
theorem upon_Q {P : Program} {x : Oper} {a : Act} {w : World} {K K' : Act → World → Prop} {Q Q' : Exit → Act → World → Prop} (hK : ∀ a w,K a w → K' a w) (hP : ∀ c a w,Q (.panic c) a w → Q' (.panic c) a w) (hO : LetsOut Q → LetsOut Q')
    (h : x.wp P a w K Q) : x.wp P a w K' Q':=by
  unfold Oper.wp at *
  generalize (execOp a.eval x).run P w = r at *
  cases r with
  | ok n w' =>
    cases n <;> simp only [Oper.upon] at h ⊢ <;>
      first
        | exact hK _ _ h
        | exact Calls.mono h (fun e w'' he => by cases e <;> first | exact hK _ _ he | exact hP _ _ _ he | exact hO he)
        | exact Rows.mono h (fun _ _ he => hK _ _ he)
  | halt x w' => cases x <;> simp only [Oper.upon] at h ⊢ <;> first | exact hP _ _ _ h | exact h
end
end Go.Proofs.YtdbmkfmenfcbiaaGreat
namespace Go.Proofs.YtdbmkfmenfcbiaaGreat
open Go.RowKit
section
variable {P : Program} {ops : Array Oper} {md : Region.Mode} {W : World}
def Above (W w : World) : Prop:=Below W.heap.size W w
theorem Above.refl (W : World) : Above W W:=Below.refl _ _
theorem Above.step {w w' : World} (h : Above W w) (hb : Below w.heap.size w w') : Above W w':=Below.trans h (Below.mono hb (Below.size h))
def OpGives (P : Program) (o : Oper) (a : Act) (v : Value) (w : World) : Prop :=
 match (execOp a.eval o).run P w with
 | .ok (.value u) w' => u = v∧Below w.heap.size w w'
 | .ok .skip w' => v = undef∧Below w.heap.size w w'
 | .ok (.enter f args) w' => Below w.heap.size w w'∧Calls P f args w' (fun e w'' => e = .returned v∧Below w'.heap.size w' w'')
 | _ => False
def Steady (P : Program) (ops : Array Oper) (W : World) (o : Oper) (v : Value) (a : Act) : Prop :=
 (Region.wanted o (yielded ops a.tmps) = true∧∀ w,Above W w → OpGives P o a v w) ∨ (Region.wanted o (yielded ops a.tmps) = false∧v = undef)
theorem Steady.of_same {o : Oper} {v : Value} {a a' : Act} (h : Steady P ops W o v a) (he : execOp a'.eval o = execOp a.eval o)
  (hw : Region.wanted o (yielded ops a'.tmps) = Region.wanted o (yielded ops a.tmps)) : Steady P ops W o v a':=by
 unfold Steady OpGives at *
 rw [he,hw]
 exact h
def steadyOp (P : Program) (ops : Array Oper) (W : World) (i : Nat) (K : Act → Prop) (a : Act) : Prop :=
 match ops[i]? with
 | none => K a
 | some o => ∃ v,Steady P ops W o v a∧K (a.put o.dst v)
theorem zpq {i : Nat} {a : Act} {K K' : Act → Prop} (h : ∀ a,K a → K' a) (hh : steadyOp P ops W i K a) : steadyOp P ops W i K' a:=by
 unfold steadyOp at *
 split
 ·
  rename_i ho
  simp only [ho] at hh
  exact h _ hh
 rename_i o ho
 simp only [ho] at hh
 obtain ⟨v,h1,h2⟩:=hh
 exact ⟨v,h1,h _ h2⟩
theorem ztq {i : Nat} {a : Act} {K : Act → Prop} {K' : Act → World → Prop} {Q' : Exit → Act → World → Prop} {w : World} (hw : Above W w) (h : ∀ a w,Above W w → K a → K' a w)
  (hh : steadyOp P ops W i K a) : wpOp P ops Q' i K' a w:=by
 unfold steadyOp at hh
 unfold wpOp
 split
 ·
  rename_i ho
  simp only [ho] at hh
  exact h _ _ hw hh
 rename_i o ho
 simp only [ho] at hh
 obtain ⟨v,hs,hk⟩:=hh
 rcases hs with ⟨hwd,hg⟩ | ⟨hwd,rfl⟩
 rotate_left
 ·
  rw [if_neg (by simp [hwd])]
  exact h _ _ hw hk
 have hgw:=hg w hw
 rw [if_pos hwd]
 left
 unfold OpGives at hgw
 unfold Oper.wp
 generalize (execOp a.eval o).run P w = r at *
 cases r with
 | ok n w' =>
  cases n <;> simp only at hgw <;> simp only [Oper.upon]
  case value u =>
   obtain ⟨rfl,hb⟩:=hgw
   exact h _ _ (hw.step hb) hk
  case skip =>
   obtain ⟨rfl,hb⟩:=hgw
   exact h _ _ (hw.step hb) hk
  case enter f args =>
   obtain ⟨hb,hc⟩:=hgw
   refine hc.mono fun e w'' ⟨he,hb2⟩ => ?_
   subst he
   exact h _ _ ((hw.step hb).step hb2) hk
 | halt x w' => simp only at hgw
def anySteady (P : Program) (md : Region.Mode) (ops : Array Oper) (W : World) (Q : Act → Prop) : Nat → Array Bool → Act → Prop
 | 0,listed,a => Region.ready md ops listed = []∧Q a
 | fuel + 1,listed,a =>
  (Region.ready md ops listed = [] → Q a) ∧
  ∀ i ∈ Region.ready md ops listed,steadyOp P ops W i (anySteady P md ops W Q fuel (listed.setIfInBounds i true)) a
theorem zvv {Q : Act → Prop} {Q' : Exit → Act → World → Prop} (hQ : ∀ a w,Above W w → Q a → Q' .normal a w) : ∀ (fuel : Nat) (listed : Array Bool) (a : Act) (w : World),Above W w →
  anySteady P md ops W Q fuel listed a → wpAny P md ops Q' fuel listed a w
 | 0,_,_,_,hw,h => ⟨h.1,hQ _ _ hw h.2⟩
 | fuel + 1,_,_,_,hw,h => ⟨fun h0 => hQ _ _ hw (h.1 h0),fun i hi => ztq hw (fun a' w' hw' => zvv hQ fuel _ a' w' hw') (h.2 i hi)⟩
theorem zsn {j : Nat} {oi oj : Oper} {v : Value} (hj : ops[j]? = some oj) (hap : oi.apart ops oj = true)
  (hsi : ∀ cs b,oi.op ≠ .select cs b) (hsj : ∀ cs b,oj.op ≠ .select cs b) {K : Act → Prop} {a : Act}
  (hy : Steady P ops W oi v a) (h : steadyOp P ops W j K (a.put oi.dst v)) :
  steadyOp P ops W j (fun a' => Steady P ops W oi v a'∧K (a'.put oi.dst v)) a:=by
 obtain ⟨h1,h2,h3⟩:=Oper.apart_spec hap
 unfold steadyOp at *
 simp only [hj] at *
 obtain ⟨u,hu,hk⟩:=h
 refine ⟨u,hu.of_same (execOp_put oj hsj a oi.dst v h1).symm (wanted_put oj a oi.dst v h1).symm,hy.of_same (execOp_put oi hsi a oj.dst u h3) (wanted_put oi a oj.dst u h3),?_⟩
 rw [← Act.put_comm a v u h2]
 exact hk
theorem zyi {Q : Act → Prop} {i : Nat} {oi : Oper} {v : Value} (hi : ops[i]? = some oi) (hsel : ∀ (j : Nat) (o : Oper) cs b,ops[j]? = some o → o.op ≠ .select cs b) (fuel : Nat) :
  ∀ (listed : Array Bool) (a : Act),
   (∀ j oj,ops[j]? = some oj → j ≠ i → listed.getD j true = false → (∀ e ∈ oj.after,Region.binds md e = true → e.on ≠ i) → oi.apart ops oj = true) →
   i ∈ Region.ready md ops listed → Steady P ops W oi v a →
   anySteady P md ops W Q fuel (listed.setIfInBounds i true) (a.put oi.dst v) → anySteady P md ops W Q (fuel + 1) listed a:=by
 have self : ∀ {K : Act → Prop} {a : Act},Steady P ops W oi v a → K (a.put oi.dst v) → steadyOp P ops W i K a:=fun hy hk => by
  unfold steadyOp
  simp only [hi]
  exact ⟨v,hy,hk⟩
 induction fuel with
 | zero =>
  intro listed a _ hr hy H
  refine ⟨fun h => (by rw [h] at hr;cases hr),fun j hj => ?_⟩
  by_cases hji : j = i
  ·
   subst hji
   exact self hy H
  have hm:=ready_mono hj hji
  rw [H.1] at hm
  cases hm
 | succ fuel ih =>
  intro listed a hfree hr hy H
  refine ⟨fun h => (by rw [h] at hr;cases hr),fun j hj => ?_⟩
  by_cases hji : j = i
  ·
   subst hji
   exact self hy H
  have h1:=H.2 j (ready_mono hj hji)
  obtain ⟨hjun,oj,hoj,hall⟩:=mem_ready.1 hj
  have hnot : ∀ e ∈ oj.after,Region.binds md e = true → e.on ≠ i:=fun e he hb heq => by
   have g1:=hall e he hb
   have g0:=(mem_ready.1 hr).1
   rw [heq,getD_both g0] at g1
   cases g1
  have h2:=zsn hoj (hfree j oj hoj hji hjun hnot) (fun cs b => hsel i oi cs b hi) (fun cs b => hsel j oj cs b hoj) hy h1
  refine zpq (fun a' h3 => ih (listed.setIfInBounds j true) a' (fun k ok hk hki hun hno => hfree k ok hk hki ?_ hno) (ready_mono hr (Ne.symm hji)) h3.1 ?_) h2
  ·
   by_cases hjk : j = k
   ·
    subst hjk
    exact hjun
   rwa [getD_set_ne true hjk] at hun
  rw [Array.setIfInBounds_comm _ _ hji]
  exact h3.2
def wpSteady (P : Program) (ops : Array Oper) (W : World) (Q : Act → Prop) : List Oper → Act → Prop
 | [],a => Q a
 | o :: rest,a => ∃ v,Steady P ops W o v a∧wpSteady P ops W Q rest (a.put o.dst v)
theorem zwv {Q : Act → Prop} (hs : Region.noSelect ops = true) : ∀ (l : List Oper) (k : Nat) (listed : Array Bool) (a : Act),(∀ j,l[j]? = ops[k + j]?) →
  Region.lexFrom md ops l.length k listed = true → wpSteady P ops W Q l a → anySteady P md ops W Q l.length listed a
 | [],_,_,_,_,hB,h => ⟨by simpa [Region.lexFrom] using hB,h⟩
 | o :: l,k,listed,a,hl,hB,h => by
  have h0 : ops[k]? = some o:=by simpa using (hl 0).symm
  simp only [List.length_cons,Region.lexFrom,Bool.and_eq_true] at hB
  obtain ⟨⟨hr,hf⟩,hB'⟩:=hB
  obtain ⟨v,hy,hK⟩:=h
  exact zyi h0 (Region.noSelect_spec hs) l.length listed a (Region.free_spec h0 hf) (by simpa using hr) hy
   (zwv hs l (k + 1) _ _ (fun j => by have:=hl (j + 1);simpa [Nat.add_assoc,Nat.add_comm 1 j] using this) hB' hK)
theorem zxb {id : Nat} {Q : Exit → Act → World → Prop} {a : Act} {w : World} {l : List Oper} (hm : P.follows .mixedOrders = true) (hB : Region.lexB .any l.toArray = true)
  (h : wpSteady P l.toArray w.drew (fun a' => ∀ w',Above w.drew w' → Q .normal a' w') l a) : (Code.region id l.toArray true).wp P Q a w:=by
 simp only [Region.lexB,Bool.and_eq_true] at hB
 refine wp_region_any hm (zvv (W:=w.drew) (Q:=fun a' => ∀ w',Above w.drew w' → Q .normal a' w') (fun _ w' hw' hq => hq w' hw') _ _ _ w.drew (Above.refl _) ?_)
 have:=zwv (md:=.any) (W:=w.drew) hB.1 l 0 (Array.replicate l.toArray.size false) a (by simp) (by simpa using hB.2) h
 simpa using this
/-! ### The steps of the walk -/
theorem zxh {Q : Act → Prop} {a : Act} (h : Q a) : wpSteady P ops W Q [] a:=h
theorem zqj {Q : Act → Prop} {a : Act} {o : Oper} {rest : List Oper} (v : Value) (hw : Region.wanted o (yielded ops a.tmps) = true)
  (h : ∀ w,Above W w → (execOp a.eval o).run P w = .ok (.value v) w) (hr : ∀ K : Act → Prop,(∀ a,wpSteady P ops W Q rest a → K a) → K (a.put o.dst v)) : wpSteady P ops W Q (o :: rest) a :=
 ⟨v,.inl ⟨hw,fun w hww => by unfold OpGives;rw [h w hww];exact ⟨rfl,Below.refl _ _⟩⟩,hr _ (fun _ h => h)⟩
theorem zqk {Q : Act → Prop} {a : Act} {o : Oper} {rest : List Oper} (hw : Region.wanted o (yielded ops a.tmps) = false)
  (hr : ∀ K : Act → Prop,(∀ a,wpSteady P ops W Q rest a → K a) → K (a.put o.dst undef)) : wpSteady P ops W Q (o :: rest) a :=
 ⟨undef,.inr ⟨hw,rfl⟩,hr _ (fun _ h => h)⟩
theorem zqv {Q : Act → Prop} {a : Act} {o : Oper} {rest : List Oper} (f : FuncId) (args : Array Value) (v : Value) (hw : Region.wanted o (yielded ops a.tmps) = true)
  (h : ∀ w,Above W w → (execOp a.eval o).run P w = .ok (.enter f args) w) (hc : ∀ w,Above W w → Calls P f args w (fun e w' => e = .returned v∧Below w.heap.size w w'))
  (hr : ∀ K : Act → Prop,(∀ a,wpSteady P ops W Q rest a → K a) → K (a.put o.dst v)) : wpSteady P ops W Q (o :: rest) a :=
 ⟨v,.inl ⟨hw,fun w hww => by unfold OpGives;rw [h w hww];exact ⟨Below.refl _ _,hc w hww⟩⟩,hr _ (fun _ h => h)⟩
end
end Go.Proofs.YtdbmkfmenfcbiaaGreat
namespace Go.Proofs.YtdbmkfmenfcbiaaGreat
end Go.Proofs.YtdbmkfmenfcbiaaGreat
namespace Go.Proofs.YtdbmkfmenfcbiaaGreat
open Go.ChangeShapes Go.WideShapes Go.ChangeAt Go.RowKit Go.Deep

theorem zks {P : Program} {w : World} {ops : Array Oper} {o : Oper} {a : Act} {K : Act → World → Prop} {Q : Exit → Act → World → Prop} {E : Prop} (hgd : o.guard = none) (s x : Operand) (t : TypeId)
    (ho : o.op = .call { callee:=.builtin .append,args:=#[s,x],argTypes:=#[t,t] })
    (B : Nat) (e : TypeId) (i : TypeInfo) (z : Value) (size bytes : Nat) (ht : P.underlying t = some (.slice e)) (hi : P.info? e = some i) (hz : i.zero = some z)
    (hsize : i.size = size) (hby : i.bytes = bytes) (hzs : z.cells.size = size) (hsz : 0 < size)
    (v : Value) (rows : List (List Value)) (hs : a.eval s = v) (how : Ow w B e size v rows)
    (g0 c : Nat) (row : List Value) (e' : TypeId) (hx : a.eval x = .slice (some ⟨g0,0,none⟩) 1 c) (hblk : w.heap[g0]? = some (.cells row.toArray e' (0,0))) (hrow : row.length = size) (h1 : ∀ u ∈ row,u.oneCell' = true)
    (hlen : rows.length ≤ 4194304) (hbytes : bytes ≤ 4096) (hbase : B ≤ w.heap.size)
    (h : ∀ g cap w',Ow w' B e size (.slice (some ⟨g,0,none⟩) (rows.length + 1) cap) (rows ++ [row]) → w.grownBy w' v.ownBlock → (v.ownBlock = some g ∨ g = w.heap.size) → g < w'.heap.size →
      K (a.put o.dst (.slice (some ⟨g,0,none⟩) (rows.length + 1) cap)) w') : if Region.wanted o (yielded ops a.tmps) = true then Oper.wp P o a w K Q else E:=by
  refine step_append_lies w hgd s x t ho B e i z size bytes ht hi hz hsize hby hzs hsz v rows.length rows.flatten hs how.2 ⟨g0,0,none⟩ 1 c row hx (by rw [Nat.one_mul];exact hrow)
    (by have:=World.news_of_block hblk;simpa using this) h1 (by omega) (by unfold maxLen;omega) (by
      have : (rows.length + 1) * bytes ≤ 4194305 * 4096:=Nat.mul_le_mul (by omega) hbytes
      omega) hbase w.heap.size rfl ?_
  intro g cap w' hown hgr hat hlt
  refine h g cap w' ⟨?_,?_⟩ hgr hat hlt
  · intro r hr
    rcases List.mem_append.1 hr with hr | hr
    · exact how.1 r hr
    · rw [List.mem_singleton.1 hr]
      exact hrow
  · have e1 : (rows ++ [row]).length = rows.length + 1:=by simp
    have e2 : (rows ++ [row]).flatten = rows.flatten ++ row:=by simp
    rw [e1,e2]
    exact hown
theorem Ow.drew_ {w : World} {B size : Nat} {e : TypeId} {v : Value} {rows : List (List Value)} (h : Ow w B e size v rows) : Ow w.drew B e size v rows:=h
end Go.Proofs.YtdbmkfmenfcbiaaGreat
namespace Go.Proofs.YtdbmkfmenfcbiaaGreat
open Go.RowKit
structure Chan where
 Id : Int
 Size : Int
 Local : Int
 Remote : Int
 Base : Int
 Ppm : Int
 Score : Int
def Chan.cells (d : Chan) : List Value:=[.int .i64 d.Id,.int .i64 d.Size,.int .i64 d.Local,.int .i64 d.Remote,.int .i64 d.Base,.int .i64 d.Ppm,.int .i64 d.Score]
theorem Chan.uni (l : List Chan) : ∀ r ∈ l.map Chan.cells,r.length = 7:=by
 intro r hr
 obtain ⟨d,_,rfl⟩:=List.mem_map.1 hr
 rfl
theorem Chan.of_flat {cs : List Value} (h0 : flat [true,true,true,true,true,true,true] cs) : ∃ d : Chan,cs = d.cells∧True:=by
 obtain ⟨a0,cs0,e0,h1⟩:=zxy h0
 obtain ⟨a1,cs1,e1,h2⟩:=zxy h1
 obtain ⟨a2,cs2,e2,h3⟩:=zxy h2
 obtain ⟨a3,cs3,e3,h4⟩:=zxy h3
 obtain ⟨a4,cs4,e4,h5⟩:=zxy h4
 obtain ⟨a5,cs5,e5,h6⟩:=zxy h5
 obtain ⟨a6,cs6,e6,h7⟩:=zxy h6
 have e7:=zwb h7
 subst e0 e1 e2 e3 e4 e5 e6 e7
 exact ⟨⟨a0,a1,a2,a3,a4,a5,a6⟩,rfl,trivial⟩
theorem Chan.rd {w : World} {B : Nat} {A : Option Addr} {l : List Chan} (h : Rd w B 7 A (l.map Chan.cells)) {k : Nat} (hk : k < l.length) :
  ∃ b off,A = some ⟨b,off,none⟩∧b < B∧w.cell? ⟨b,off + k * 7,none⟩ = some (.int .i64 l[k].Id)∧w.cell? ⟨b,off + k * 7 + 1,none⟩ = some (.int .i64 l[k].Size)∧w.cell? ⟨b,off + k * 7 + 2,none⟩ = some (.int .i64 l[k].Local)∧w.cell? ⟨b,off + k * 7 + 3,none⟩ = some (.int .i64 l[k].Remote)∧w.cell? ⟨b,off + k * 7 + 4,none⟩ = some (.int .i64 l[k].Base)∧w.cell? ⟨b,off + k * 7 + 5,none⟩ = some (.int .i64 l[k].Ppm)∧w.cell? ⟨b,off + k * 7 + 6,none⟩ = some (.int .i64 l[k].Score):=by
 obtain ⟨b,off,e,hb,hc⟩:=h.2 (by rw [List.length_map];omega)
 have hk' : (l.map Chan.cells)[k]? = some l[k].cells:=by rw [List.getElem?_map,List.getElem?_eq_getElem hk];rfl
 exact ⟨b,off,e,hb,hc k _ 0 _ hk' rfl,hc k _ 1 _ hk' rfl,hc k _ 2 _ hk' rfl,hc k _ 3 _ hk' rfl,hc k _ 4 _ hk' rfl,hc k _ 5 _ hk' rfl,hc k _ 6 _ hk' rfl⟩
theorem Chan.fl (l : List Chan) {k : Nat} (hk : k < l.length) : (l.map Chan.cells).flatten[k * 7]? = some (.int .i64 l[k].Id)∧(l.map Chan.cells).flatten[k * 7 + 1]? = some (.int .i64 l[k].Size)∧(l.map Chan.cells).flatten[k * 7 + 2]? = some (.int .i64 l[k].Local)∧(l.map Chan.cells).flatten[k * 7 + 3]? = some (.int .i64 l[k].Remote)∧(l.map Chan.cells).flatten[k * 7 + 4]? = some (.int .i64 l[k].Base)∧(l.map Chan.cells).flatten[k * 7 + 5]? = some (.int .i64 l[k].Ppm)∧(l.map Chan.cells).flatten[k * 7 + 6]? = some (.int .i64 l[k].Score):=by
 have hk' : (l.map Chan.cells)[k]? = some l[k].cells:=by rw [List.getElem?_map,List.getElem?_eq_getElem hk];rfl
 exact ⟨zqw _ 7 (Chan.uni l) k 0 _ hk' (by omega),zqw _ 7 (Chan.uni l) k 1 _ hk' (by omega),zqw _ 7 (Chan.uni l) k 2 _ hk' (by omega),zqw _ 7 (Chan.uni l) k 3 _ hk' (by omega),zqw _ 7 (Chan.uni l) k 4 _ hk' (by omega),zqw _ 7 (Chan.uni l) k 5 _ hk' (by omega),zqw _ 7 (Chan.uni l) k 6 _ hk' (by omega)⟩
structure Htlc where
 Key : Int
 In : Int
 Out : Int
 AmtIn : Int
 AmtOut : Int
 Kept : Bool
 Age : Int
def Htlc.cells (d : Htlc) : List Value:=[.int .i64 d.Key,.int .i64 d.In,.int .i64 d.Out,.int .i64 d.AmtIn,.int .i64 d.AmtOut,.bool d.Kept,.int .i64 d.Age]
theorem Htlc.uni (l : List Htlc) : ∀ r ∈ l.map Htlc.cells,r.length = 7:=by
 intro r hr
 obtain ⟨d,_,rfl⟩:=List.mem_map.1 hr
 rfl
theorem Htlc.of_flat {cs : List Value} (h0 : flat [true,true,true,true,true,false,true] cs) : ∃ d : Htlc,cs = d.cells∧True:=by
 obtain ⟨a0,cs0,e0,h1⟩:=zxy h0
 obtain ⟨a1,cs1,e1,h2⟩:=zxy h1
 obtain ⟨a2,cs2,e2,h3⟩:=zxy h2
 obtain ⟨a3,cs3,e3,h4⟩:=zxy h3
 obtain ⟨a4,cs4,e4,h5⟩:=zxy h4
 obtain ⟨a5,cs5,e5,h6⟩:=flat_b h5
 obtain ⟨a6,cs6,e6,h7⟩:=zxy h6
 have e7:=zwb h7
 subst e0 e1 e2 e3 e4 e5 e6 e7
 exact ⟨⟨a0,a1,a2,a3,a4,a5,a6⟩,rfl,trivial⟩
theorem Htlc.rd {w : World} {B : Nat} {A : Option Addr} {l : List Htlc} (h : Rd w B 7 A (l.map Htlc.cells)) {k : Nat} (hk : k < l.length) :
  ∃ b off,A = some ⟨b,off,none⟩∧b < B∧w.cell? ⟨b,off + k * 7,none⟩ = some (.int .i64 l[k].Key)∧w.cell? ⟨b,off + k * 7 + 1,none⟩ = some (.int .i64 l[k].In)∧w.cell? ⟨b,off + k * 7 + 2,none⟩ = some (.int .i64 l[k].Out)∧w.cell? ⟨b,off + k * 7 + 3,none⟩ = some (.int .i64 l[k].AmtIn)∧w.cell? ⟨b,off + k * 7 + 4,none⟩ = some (.int .i64 l[k].AmtOut)∧w.cell? ⟨b,off + k * 7 + 5,none⟩ = some (.bool l[k].Kept)∧w.cell? ⟨b,off + k * 7 + 6,none⟩ = some (.int .i64 l[k].Age):=by
 obtain ⟨b,off,e,hb,hc⟩:=h.2 (by rw [List.length_map];omega)
 have hk' : (l.map Htlc.cells)[k]? = some l[k].cells:=by rw [List.getElem?_map,List.getElem?_eq_getElem hk];rfl
 exact ⟨b,off,e,hb,hc k _ 0 _ hk' rfl,hc k _ 1 _ hk' rfl,hc k _ 2 _ hk' rfl,hc k _ 3 _ hk' rfl,hc k _ 4 _ hk' rfl,hc k _ 5 _ hk' rfl,hc k _ 6 _ hk' rfl⟩
theorem Htlc.fl (l : List Htlc) {k : Nat} (hk : k < l.length) : (l.map Htlc.cells).flatten[k * 7]? = some (.int .i64 l[k].Key)∧(l.map Htlc.cells).flatten[k * 7 + 1]? = some (.int .i64 l[k].In)∧(l.map Htlc.cells).flatten[k * 7 + 2]? = some (.int .i64 l[k].Out)∧(l.map Htlc.cells).flatten[k * 7 + 3]? = some (.int .i64 l[k].AmtIn)∧(l.map Htlc.cells).flatten[k * 7 + 4]? = some (.int .i64 l[k].AmtOut)∧(l.map Htlc.cells).flatten[k * 7 + 5]? = some (.bool l[k].Kept)∧(l.map Htlc.cells).flatten[k * 7 + 6]? = some (.int .i64 l[k].Age):=by
 have hk' : (l.map Htlc.cells)[k]? = some l[k].cells:=by rw [List.getElem?_map,List.getElem?_eq_getElem hk];rfl
 exact ⟨zqw _ 7 (Htlc.uni l) k 0 _ hk' (by omega),zqw _ 7 (Htlc.uni l) k 1 _ hk' (by omega),zqw _ 7 (Htlc.uni l) k 2 _ hk' (by omega),zqw _ 7 (Htlc.uni l) k 3 _ hk' (by omega),zqw _ 7 (Htlc.uni l) k 4 _ hk' (by omega),zqw _ 7 (Htlc.uni l) k 5 _ hk' (by omega),zqw _ 7 (Htlc.uni l) k 6 _ hk' (by omega)⟩
structure Circle where
 Key : Int
 From : Int
 To : Int
 Amt : Int
 Fee : Int
def Circle.cells (d : Circle) : List Value:=[.int .i64 d.Key,.int .i64 d.From,.int .i64 d.To,.int .i64 d.Amt,.int .i64 d.Fee]
theorem Circle.uni (l : List Circle) : ∀ r ∈ l.map Circle.cells,r.length = 5:=by
 intro r hr
 obtain ⟨d,_,rfl⟩:=List.mem_map.1 hr
 rfl
theorem Circle.of_flat {cs : List Value} (h0 : flat [true,true,true,true,true] cs) : ∃ d : Circle,cs = d.cells∧True:=by
 obtain ⟨a0,cs0,e0,h1⟩:=zxy h0
 obtain ⟨a1,cs1,e1,h2⟩:=zxy h1
 obtain ⟨a2,cs2,e2,h3⟩:=zxy h2
 obtain ⟨a3,cs3,e3,h4⟩:=zxy h3
 obtain ⟨a4,cs4,e4,h5⟩:=zxy h4
 have e5:=zwb h5
 subst e0 e1 e2 e3 e4 e5
 exact ⟨⟨a0,a1,a2,a3,a4⟩,rfl,trivial⟩
theorem Circle.rd {w : World} {B : Nat} {A : Option Addr} {l : List Circle} (h : Rd w B 5 A (l.map Circle.cells)) {k : Nat} (hk : k < l.length) :
  ∃ b off,A = some ⟨b,off,none⟩∧b < B∧w.cell? ⟨b,off + k * 5,none⟩ = some (.int .i64 l[k].Key)∧w.cell? ⟨b,off + k * 5 + 1,none⟩ = some (.int .i64 l[k].From)∧w.cell? ⟨b,off + k * 5 + 2,none⟩ = some (.int .i64 l[k].To)∧w.cell? ⟨b,off + k * 5 + 3,none⟩ = some (.int .i64 l[k].Amt)∧w.cell? ⟨b,off + k * 5 + 4,none⟩ = some (.int .i64 l[k].Fee):=by
 obtain ⟨b,off,e,hb,hc⟩:=h.2 (by rw [List.length_map];omega)
 have hk' : (l.map Circle.cells)[k]? = some l[k].cells:=by rw [List.getElem?_map,List.getElem?_eq_getElem hk];rfl
 exact ⟨b,off,e,hb,hc k _ 0 _ hk' rfl,hc k _ 1 _ hk' rfl,hc k _ 2 _ hk' rfl,hc k _ 3 _ hk' rfl,hc k _ 4 _ hk' rfl⟩
theorem Circle.fl (l : List Circle) {k : Nat} (hk : k < l.length) : (l.map Circle.cells).flatten[k * 5]? = some (.int .i64 l[k].Key)∧(l.map Circle.cells).flatten[k * 5 + 1]? = some (.int .i64 l[k].From)∧(l.map Circle.cells).flatten[k * 5 + 2]? = some (.int .i64 l[k].To)∧(l.map Circle.cells).flatten[k * 5 + 3]? = some (.int .i64 l[k].Amt)∧(l.map Circle.cells).flatten[k * 5 + 4]? = some (.int .i64 l[k].Fee):=by
 have hk' : (l.map Circle.cells)[k]? = some l[k].cells:=by rw [List.getElem?_map,List.getElem?_eq_getElem hk];rfl
 exact ⟨zqw _ 5 (Circle.uni l) k 0 _ hk' (by omega),zqw _ 5 (Circle.uni l) k 1 _ hk' (by omega),zqw _ 5 (Circle.uni l) k 2 _ hk' (by omega),zqw _ 5 (Circle.uni l) k 3 _ hk' (by omega),zqw _ 5 (Circle.uni l) k 4 _ hk' (by omega)⟩
structure RdBook (w : World) (B : Nat) (A1 : Option Addr) (cs : List Chan) (A2 : Option Addr) (hs : List Htlc) (A3 : Option Addr) (os : List Circle) : Prop where
 c : Rd w B 7 A1 (cs.map Chan.cells)
 h : Rd w B 7 A2 (hs.map Htlc.cells)
 o : Rd w B 5 A3 (os.map Circle.cells)
section
variable {w w' : World} {B B' : Nat} {A1 A2 A3 : Option Addr} {cs : List Chan} {hs : List Htlc} {os : List Circle}
theorem RdBook.below (h : RdBook w B A1 cs A2 hs A3 os) (hb : Below B w w') : RdBook w' B A1 cs A2 hs A3 os:=⟨h.c.below hb,h.h.below hb,h.o.below hb⟩
theorem RdBook.more (h : RdBook w B A1 cs A2 hs A3 os) (hB : B ≤ B') : RdBook w B' A1 cs A2 hs A3 os:=⟨h.c.more hB,h.h.more hB,h.o.more hB⟩
end

theorem ztv {B v n1 n0 U d q r : Nat} (hv : v = n1 * B + n0) (hU : q * n1 + r = U) : (B * r + d < q * n0) ↔ (U * B + d < q * v):=by
  have e : q * v = q * n1 * B + q * n0:=by rw [hv,Nat.mul_add,Nat.mul_assoc]
  have e2 : U * B = q * n1 * B + r * B:=by rw [← hU,Nat.add_mul]
  have e3 : r * B = B * r:=Nat.mul_comm _ _
  omega
theorem digit_first {B v n1 n0 U : Nat} (hv : v = n1 * B + n0) (hn0 : n0 < B) (h1 : B ≤ 2 * n1) (hUv : U < v) : U / n1 ≤ B + 1:=by
  have hpos : 0 < n1:=by omega
  refine Nat.le_of_lt_succ ((Nat.div_lt_iff_lt_mul hpos).2 ?_)
  have e : (B + 1 + 1) * n1 = n1 * B + 2 * n1:=by rw [Nat.add_assoc,Nat.add_mul,Nat.mul_comm B n1]
  show U < (B + 1 + 1) * n1
  omega
theorem digit_ge {v q Q T : Nat} (h : T < q * v) (hv : 0 < v) (hQ : Q = T / v) : Q ≤ q - 1:=by
  have : Q < q:=by rw [hQ];exact (Nat.div_lt_iff_lt_mul hv).2 h
  omega
theorem digit_le {v q Q T : Nat} (h : ¬ T < q * v) (hv : 0 < v) (hQ : Q = T / v) : q ≤ Q:=by
  rw [hQ]
  exact (Nat.le_div_iff_mul_le hv).2 (Nat.le_of_not_lt h)
theorem zmw {B v U d Q : Nat} (hd : d < B) (hU : U < v) (hQ : Q = (U * B + d) / v) : Q < B:=by
  rw [hQ]
  refine (Nat.div_lt_iff_lt_mul (by omega)).2 ?_
  have : U * B + B ≤ v * B:=by rw [← Nat.succ_mul];exact Nat.mul_le_mul_right _ hU
  rw [Nat.mul_comm B v]
  omega
def DigAt (v n1 U d q r : Nat) : Prop:=q * n1 + r = U∧(U * 4294967296 + d) / v ≤ q∧q ≤ 4294967297
theorem zym {v n1 n0 U d : Nat} (hv : v = n1 * 4294967296 + n0) (hn0 : n0 < 4294967296) (hd : d < 4294967296) (h1 : 4294967296 ≤ 2 * n1) (hUv : U < v) : DigAt v n1 U d (U / n1) (U % n1):=by
  refine ⟨Nat.div_add_mod' U n1,?_,digit_first hv hn0 h1 hUv⟩
  have hpos : 0 < n1:=by omega
  refine (Nat.le_div_iff_mul_le hpos).2 ?_
  have h2 : (U * 4294967296 + d) / v * v ≤ U * 4294967296 + d:=Nat.div_mul_le_self _ _
  generalize (U * 4294967296 + d) / v = Q at *
  have e : Q * v = Q * n1 * 4294967296 + Q * n0:=by rw [hv,Nat.mul_add,Nat.mul_assoc]
  omega
theorem zwx {v n1 n0 U d q r : Nat} (hv : v = n1 * 4294967296 + n0) (hd : d < 4294967296) (hv0 : 0 < v) (hUv : U < v) (h : DigAt v n1 U d q r)
    (ht : 4294967296 ≤ q ∨ 4294967296 * r + d < q * n0) : 1 ≤ q∧DigAt v n1 U d (q - 1) (r + n1):=by
  obtain ⟨h1,h2,h3⟩:=h
  have hlt : (U * 4294967296 + d) / v ≤ q - 1∧1 ≤ q:=by
    rcases ht with ht | ht
    · have:=zmw hd hUv rfl
      omega
    · have hq : 1 ≤ q:=by
        cases q with
        | zero => simp at ht
        | succ q => omega
      exact ⟨digit_ge ((ztv hv h1).1 ht) hv0 rfl,hq⟩
  refine ⟨hlt.2,?_,hlt.1,by omega⟩
  obtain ⟨p,rfl⟩ : ∃ p,q = p + 1:=⟨q - 1,by omega⟩
  rw [Nat.add_sub_cancel,← h1,Nat.succ_mul]
  omega
theorem zmx {v n1 n0 U d q r : Nat} (hv : v = n1 * 4294967296 + n0) (hv0 : 0 < v) (h : DigAt v n1 U d q r) (ht : ¬ 4294967296 * r + d < q * n0) : q = (U * 4294967296 + d) / v:=by
  obtain ⟨h1,h2,h3⟩:=h
  have:=digit_le (fun hh => ht ((ztv hv h1).2 hh)) hv0 rfl
  omega
theorem zvd {v n1 n0 U d q r : Nat} (hv : v = n1 * 4294967296 + n0) (hn0 : n0 < 4294967296) (hv0 : 0 < v) (h : DigAt v n1 U d q r) (hq : q ≤ 4294967296) (hr : 4294967296 ≤ r) : q = (U * 4294967296 + d) / v:=by
  refine zmx hv hv0 h ?_
  have h1 : q * n0 ≤ 4294967296 * n0:=Nat.mul_le_mul_right _ hq
  omega

/-! ### The frame: shifts -/
theorem zmt (y s : Nat) (hy : y < 18446744073709551616) (h1 : 1 ≤ y) (hs : Lib.bitLen y + s = 64) : s ≤ 63∧9223372036854775808 ≤ y * 2 ^ s∧y * 2 ^ s < 18446744073709551616:=by
  obtain ⟨b1,b2,b3⟩:=Lib.bitLenAux_bounds 64 y hy (by omega)
  have hb : Lib.bitLenAux 64 y = Lib.bitLen y:=rfl
  rw [hb] at b1 b2 b3
  have e1 : 2 ^ (Lib.bitLen y - 1) * 2 ^ s = 9223372036854775808:=by rw [← Nat.pow_add,show Lib.bitLen y - 1 + s = 63 by omega]
  have e2 : 2 ^ Lib.bitLen y * 2 ^ s = 18446744073709551616:=by rw [← Nat.pow_add,hs]
  have p : 0 < 2 ^ s:=Nat.pow_pos (by decide)
  refine ⟨by omega,?_,?_⟩
  · rw [← e1];exact Nat.mul_le_mul_right _ b2
  · rw [← e2];exact Nat.mul_lt_mul_of_pos_right b3 p
theorem zmu (a s : Nat) : (a : Int) * 2 ^ s = ((a * 2 ^ s : Nat) : Int):=by simp
theorem cast_shr (a s : Nat) : (a : Int) / 2 ^ s = ((a / 2 ^ s : Nat) : Int):=by simp
theorem or_add {a b s : Nat} (ha : a * 2 ^ s < 18446744073709551616) (hb : b < 2 ^ s) (hs : s ≤ 63) : bits .or .u64 ((a * 2 ^ s : Nat) : Int) (b : Int) = ((a * 2 ^ s + b : Nat) : Int):=by
  have h64 : 2 ^ s ≤ 2 ^ 63:=Nat.pow_le_pow_right (by decide) hs
  have h:=bits_or_u64_nat (a * 2 ^ s) b ha (by omega)
  rw [h,Nat.mul_comm a,Nat.two_pow_add_eq_or_of_lt hb]
theorem shifted (hi lo s : Nat) (hs : s ≤ 63) : (hi * 18446744073709551616 + lo) * 2 ^ s = (hi * 2 ^ s + lo / 2 ^ (64 - s)) * 18446744073709551616 + lo * 2 ^ s % 18446744073709551616:=by
  have e : lo * 2 ^ s / 18446744073709551616 = lo / 2 ^ (64 - s):=by
    have : 18446744073709551616 = 2 ^ (64 - s) * 2 ^ s:=by rw [← Nat.pow_add,show 64 - s + s = 64 by omega]
    rw [this,Nat.mul_div_mul_right _ _ (Nat.pow_pos (by decide))]
  have:=Nat.div_add_mod (lo * 2 ^ s) 18446744073709551616
  rw [e] at this
  rw [Nat.add_mul,Nat.add_mul,Nat.mul_right_comm]
  omega
theorem shifted_lt (hi lo y s : Nat) (hl : lo < 18446744073709551616) (h : hi < y) (hs : s ≤ 63) : hi * 2 ^ s + lo / 2 ^ (64 - s) < y * 2 ^ s∧lo / 2 ^ (64 - s) < 2 ^ s:=by
  have h2 : lo / 2 ^ (64 - s) < 2 ^ s:=by
    rw [Nat.div_lt_iff_lt_mul (Nat.pow_pos (by decide)),← Nat.pow_add,show s + (64 - s) = 64 by omega]
    exact hl
  have : (hi + 1) * 2 ^ s ≤ y * 2 ^ s:=Nat.mul_le_mul_right _ h
  rw [Nat.add_mul,Nat.one_mul] at this
  exact ⟨by omega,h2⟩
theorem two_digits {U d1 d0 v : Nat} (hv : 0 < v) : (U * 18446744073709551616 + (d1 * 4294967296 + d0)) / v = (U * 4294967296 + d1) / v * 4294967296 + ((U * 4294967296 + d1) % v * 4294967296 + d0) / v∧(U * 18446744073709551616 + (d1 * 4294967296 + d0)) % v = ((U * 4294967296 + d1) % v * 4294967296 + d0) % v:=by
  have e : U * 18446744073709551616 + (d1 * 4294967296 + d0) = v * ((U * 4294967296 + d1) / v * 4294967296) + ((U * 4294967296 + d1) % v * 4294967296 + d0):=by
    have h:=Nat.div_add_mod (U * 4294967296 + d1) v
    generalize (U * 4294967296 + d1) / v = a at *
    generalize (U * 4294967296 + d1) % v = b at *
    rw [← Nat.mul_assoc]
    generalize v * a = c at *
    omega
  rw [e]
  exact ⟨Nat.mul_add_div hv _ _,Nat.mul_add_mod _ _ _⟩
theorem zsh {U d v Q : Nat} (hv : v < 18446744073709551616) (hv0 : 0 < v) (hQ : Q = (U * 4294967296 + d) / v) :
    IntKind.u64.wrap (IntKind.u64.wrap (IntKind.u64.wrap ((U : Int) * 4294967296) + (d : Int)) - IntKind.u64.wrap ((Q : Int) * (v : Int))) = (((U * 4294967296 + d) % v : Nat) : Int):=by
  have h:=Nat.div_add_mod (U * 4294967296 + d) v
  have hlt:=Nat.mod_lt (U * 4294967296 + d) hv0
  rw [← hQ,Nat.mul_comm v Q] at h
  generalize (U * 4294967296 + d) % v = R at *
  simp only [Mul64.mulN,IntKind.wrap_u64]
  generalize Q * v = m at *
  omega
theorem div_all {hi lo y s v U d1 d0 Q1 R1 Q0 R0 : Nat} (hs : s ≤ 63) (hy : 1 ≤ y) (hv : v = y * 2 ^ s) (hU : U = hi * 2 ^ s + lo / 2 ^ (64 - s)) (h1 : d1 = lo * 2 ^ s % 18446744073709551616 / 4294967296) (h0 : d0 = lo * 2 ^ s % 18446744073709551616 % 4294967296)
    (hQ1 : Q1 = (U * 4294967296 + d1) / v) (hR1 : R1 = (U * 4294967296 + d1) % v) (hQ0 : Q0 = (R1 * 4294967296 + d0) / v) (hR0 : R0 = (R1 * 4294967296 + d0) % v) :
    (hi * 18446744073709551616 + lo) / y = Q1 * 4294967296 + Q0∧(hi * 18446744073709551616 + lo) % y = R0 / 2 ^ s:=by
  have p : 0 < 2 ^ s:=Nat.pow_pos (by decide)
  have hv0 : 0 < v:=by rw [hv];exact Nat.mul_pos hy p
  have e:=shifted hi lo s hs
  have ed : d1 * 4294967296 + d0 = lo * 2 ^ s % 18446744073709551616:=by omega
  rw [← hU,← ed] at e
  obtain ⟨t1,t2⟩:=two_digits (U:=U) (d1:=d1) (d0:=d0) hv0
  rw [← hR1,← hQ1,← hQ0,← e,hv,Nat.mul_div_mul_right _ _ p] at t1
  rw [← hR1,← hR0,← e,hv,Nat.mul_mod_mul_right] at t2
  refine ⟨t1,?_⟩
  rw [← t2,Nat.mul_div_cancel _ p]

structure DivFrame (hi lo y s v n1 n0 U u d1 d0 q r m Q1 R1 q2 r2 m2 Q0 R0 : Nat) : Prop where
  hs1 : s ≤ 63
  hv1 : 9223372036854775808 ≤ v
  hv2 : v < 18446744073709551616
  E1 : IntKind.u64.wrap ((y : Int) * 2 ^ s) = (v : Int)
  E2 : IntKind.u64.wrap ((hi : Int) * 2 ^ s) = ((hi * 2 ^ s : Nat) : Int)
  E3 : (lo : Int) / 2 ^ (64 - s) = ((lo / 2 ^ (64 - s) : Nat) : Int)
  E4 : bits .or .u64 ((hi * 2 ^ s : Nat) : Int) ((lo / 2 ^ (64 - s) : Nat) : Int) = (U : Int)
  E5 : IntKind.u64.wrap ((lo : Int) * 2 ^ s) = (u : Int)
  E6 : bits .and .u64 (v : Int) 4294967295 = (n0 : Int)
  E7 : bits .and .u64 (u : Int) 4294967295 = (d0 : Int)
  E8 : (v : Int) / 4294967296 = (n1 : Int)
  E9 : (u : Int) / 4294967296 = (d1 : Int)
  hv : v = n1 * 4294967296 + n0
  n0l : n0 < 4294967296
  n1l : 4294967296 ≤ 2 * n1
  n1u : n1 < 4294967296
  d1l : d1 < 4294967296
  d0l : d0 < 4294967296
  hv0 : 0 < v
  hU1 : U < v
  ul : u < 18446744073709551616
  DS : DigAt v n1 U d1 q r
  E10 : (U : Int) / (n1 : Int) = (q : Int)
  E11 : IntKind.u64.wrap ((q : Int) * (n1 : Int)) = (m : Int)
  mU : m ≤ U
  rU : U - m = r
  rl : r < 4294967296
  ql : q ≤ 4294967297
  E12 : IntKind.u64.wrap (IntKind.u64.wrap (IntKind.u64.wrap ((U : Int) * 4294967296) + (d1 : Int)) - IntKind.u64.wrap ((Q1 : Int) * (v : Int))) = (R1 : Int)
  hQ1 : (U * 4294967296 + d1) / v = Q1
  Q1l : Q1 < 4294967296
  U2 : R1 < v
  DT : DigAt v n1 R1 d0 q2 r2
  E13 : (R1 : Int) / (n1 : Int) = (q2 : Int)
  E14 : IntKind.u64.wrap ((q2 : Int) * (n1 : Int)) = (m2 : Int)
  mR : m2 ≤ R1
  rR : R1 - m2 = r2
  rl2 : r2 < 4294967296
  ql2 : q2 ≤ 4294967297
  E15 : IntKind.u64.wrap (IntKind.u64.wrap (IntKind.u64.wrap ((R1 : Int) * 4294967296) + (d0 : Int)) - IntKind.u64.wrap ((Q0 : Int) * (v : Int))) = (R0 : Int)
  hQ0 : (R1 * 4294967296 + d0) / v = Q0
  Q0l : Q0 < 4294967296
  E16 : (R0 : Int) / 2 ^ s = (((hi * 18446744073709551616 + lo) % y : Nat) : Int)
  E17 : (hi * 18446744073709551616 + lo) / y = Q1 * 4294967296 + Q0
theorem div_frame (hi lo y s : Nat) (hl : lo < 18446744073709551616) (hy : y < 18446744073709551616) (h1 : hi < y) (hs : Lib.bitLen y + s = 64) :
    ∃ v n1 n0 U u d1 d0 q r m Q1 R1 q2 r2 m2 Q0 R0 : Nat,DivFrame hi lo y s v n1 n0 U u d1 d0 q r m Q1 R1 q2 r2 m2 Q0 R0:=by
  obtain ⟨hs1,hv1,hv2⟩:=zmt y s hy (by omega) hs
  obtain ⟨hU1,hU2⟩:=shifted_lt hi lo y s hl h1 hs1
  have hhi : hi * 2 ^ s < 18446744073709551616:=Nat.lt_of_le_of_lt (Nat.le_add_right _ _) (Nat.lt_trans hU1 hv2)
  have ALL:=@div_all hi lo y s (y * 2 ^ s) (hi * 2 ^ s + lo / 2 ^ (64 - s)) _ _ _ _ _ _ hs1 (by omega) rfl rfl rfl rfl rfl rfl rfl rfl
  have E1 : IntKind.u64.wrap ((y : Int) * 2 ^ s) = ((y * 2 ^ s : Nat) : Int):=by rw [zmu,Mul64.wrapN _ hv2]
  have E2 : IntKind.u64.wrap ((hi : Int) * 2 ^ s) = ((hi * 2 ^ s : Nat) : Int):=by rw [zmu,Mul64.wrapN _ hhi]
  have E3:=cast_shr lo (64 - s)
  have E4:=or_add (a:=hi) (b:=lo / 2 ^ (64 - s)) (s:=s) hhi hU2 hs1
  have E5 : IntKind.u64.wrap ((lo : Int) * 2 ^ s) = ((lo * 2 ^ s % 18446744073709551616 : Nat) : Int):=by rw [zmu,Mul64.wrapM]
  have hu : lo * 2 ^ s % 18446744073709551616 < 18446744073709551616:=Nat.mod_lt _ (by decide)
  obtain ⟨U,hU⟩ : ∃ U,U = hi * 2 ^ s + lo / 2 ^ (64 - s):=⟨_,rfl⟩
  obtain ⟨u,hu'⟩ : ∃ u,u = lo * 2 ^ s % 18446744073709551616:=⟨_,rfl⟩
  obtain ⟨v,hv'⟩ : ∃ v,v = y * 2 ^ s:=⟨_,rfl⟩
  rw [← hU,← hu',← hv'] at ALL
  rw [← hU] at E4
  rw [← hU,← hv'] at hU1
  rw [← hv'] at E1 hv1 hv2
  rw [← hu'] at E5 hu
  have n1l : 4294967296 ≤ 2 * (v / 4294967296):=by omega
  have hv0 : 0 < v:=by omega
  have hn1 : 0 < v / 4294967296:=by omega
  have hv : v = v / 4294967296 * 4294967296 + v % 4294967296:=by omega
  have n0l : v % 4294967296 < 4294967296:=by omega
  have d1l : u / 4294967296 < 4294967296:=by omega
  have d0l : u % 4294967296 < 4294967296:=by omega
  have DS:=zym (d:=u / 4294967296) hv n0l d1l n1l hU1
  have R1l : (U * 4294967296 + u / 4294967296) % v < v:=Nat.mod_lt _ hv0
  have DT:=zym (d:=u % 4294967296) hv n0l d0l n1l R1l
  have a1 : U / (v / 4294967296) * (v / 4294967296) ≤ U:=Nat.div_mul_le_self _ _
  have a2 : U % (v / 4294967296) < v / 4294967296:=Nat.mod_lt _ hn1
  have a3:=Nat.div_add_mod' U (v / 4294967296)
  obtain ⟨R1,hR1⟩ : ∃ R1,R1 = (U * 4294967296 + u / 4294967296) % v:=⟨_,rfl⟩
  rw [← hR1] at DT R1l ALL
  have b1 : R1 / (v / 4294967296) * (v / 4294967296) ≤ R1:=Nat.div_mul_le_self _ _
  have b2 : R1 % (v / 4294967296) < v / 4294967296:=Nat.mod_lt _ hn1
  have b3:=Nat.div_add_mod' R1 (v / 4294967296)
  refine ⟨v,v / 4294967296,v % 4294967296,U,u,u / 4294967296,u % 4294967296,U / (v / 4294967296),U % (v / 4294967296),U / (v / 4294967296) * (v / 4294967296),(U * 4294967296 + u / 4294967296) / v,R1,R1 / (v / 4294967296),R1 % (v / 4294967296),R1 / (v / 4294967296) * (v / 4294967296),(R1 * 4294967296 + u % 4294967296) / v,(R1 * 4294967296 + u % 4294967296) % v,?_⟩
  exact { hs1 := hs1, hv1 := hv1, hv2 := hv2, E1 := E1, E2 := E2, E3 := E3, E4 := E4, E5 := E5, E6 := Mul64.maskN v hv2, E7 := Mul64.maskN u hu, E8 := Mul64.divN v, E9 := Mul64.divN u, hv := hv, n0l := n0l, n1l := n1l, n1u := (by omega), d1l := d1l, d0l := d0l, hv0 := hv0, hU1 := hU1, ul := hu, DS := DS,
          E10:=(Int.natCast_ediv U _).symm,E11:=(by rw [Mul64.mulN,Mul64.wrapN _ (by omega)]),mU:=a1,rU:=(by omega),rl:=(by omega),ql:=DS.2.2,E12:=(by rw [hR1];exact zsh hv2 hv0 rfl),hQ1:=rfl,Q1l:=zmw d1l hU1 rfl,U2:=R1l,DT:=DT,
          E13:=(Int.natCast_ediv R1 _).symm,E14:=(by rw [Mul64.mulN,Mul64.wrapN _ (by omega)]),mR:=b1,rR:=(by omega),rl2:=(by omega),ql2:=DT.2.2,E15:=zsh hv2 hv0 rfl,hQ0:=rfl,Q0l:=zmw d0l R1l rfl,E16:=(by rw [cast_shr,ALL.2]),E17:=ALL.1 }
end Go.Proofs.YtdbmkfmenfcbiaaGreat
namespace Go.Proofs.YtdbmkfmenfcbiaaGreat
open Go.ChangeShapes Go.WideShapes Go.RowKit
def byteC (z : Int) : List Value:=[.int .u8 z]
theorem bytes_uni (l : List Int) : ∀ r ∈ l.map byteC,r.length = 1:=by
 intro r hr
 obtain ⟨d,_,rfl⟩:=List.mem_map.1 hr
 rfl
theorem bytes_rd {w : World} {B : Nat} {A : Option Addr} {l : List Int} (h : Rd w B 1 A (l.map byteC)) {k : Nat} (hk : k < l.length) :
  ∃ b off,A = some ⟨b,off,none⟩∧b < B∧w.cell? ⟨b,off + k,none⟩ = some (.int .u8 l[k]):=by
 obtain ⟨b,off,e,hb,hc⟩:=h.2 (by rw [List.length_map];omega)
 have hk' : (l.map byteC)[k]? = some (byteC l[k]):=by rw [List.getElem?_map,List.getElem?_eq_getElem hk];rfl
 have:=hc k _ 0 _ hk' rfl
 rw [Nat.mul_one,Nat.add_zero] at this
 exact ⟨b,off,e,hb,this⟩
def Code (w : World) (B : Nat) (A : Option Addr) (n cap : Nat) : Prop:=∃ zs : List Int,zs.length = n∧n ≤ cap∧n ≤ 1048576∧(∀ z ∈ zs,0 ≤ z∧z ≤ 255)∧Rd w B 1 A (zs.map byteC)
theorem Code.below {w w' : World} {B : Nat} {A : Option Addr} {n cap : Nat} (h : Code w B A n cap) (hb : Below B w w') : Code w' B A n cap:=by
 obtain ⟨zs,h1,h2,h3,h4,h5⟩:=h
 exact ⟨zs,h1,h2,h3,h4,h5.below hb⟩
theorem Code.more {w : World} {B B' : Nat} {A : Option Addr} {n cap : Nat} (h : Code w B A n cap) (hB : B ≤ B') : Code w B' A n cap:=by
 obtain ⟨zs,h1,h2,h3,h4,h5⟩:=h
 exact ⟨zs,h1,h2,h3,h4,h5.more hB⟩
theorem Code.at_ {w : World} {B : Nat} {A : Option Addr} {n cap : Nat} (h : Code w B A n cap) {k : Nat} (hk : k < n) : ∃ b off z,A = some ⟨b,off,none⟩∧b < B∧w.cell? ⟨b,off + k,none⟩ = some (.int .u8 z)∧0 ≤ z∧z ≤ 255:=by
 obtain ⟨zs,h1,h2,h3,h4,h5⟩:=h
 subst h1
 obtain ⟨b,off,e,hb,hc⟩:=bytes_rd h5 hk
 have:=h4 _ (List.getElem_mem hk)
 exact ⟨b,off,_,e,hb,hc,this.1,this.2⟩
def CodeIn (w : World) (A : Option Addr) (n cap : Nat) : Prop:=∃ zs : List Int,zs.length = n∧n ≤ cap∧cap ≤ maxLen∧(∀ z ∈ zs,0 ≤ z∧z ≤ 255)∧Rd w w.heap.size 1 A (zs.map byteC)
theorem CodeIn.code {w : World} {A : Option Addr} {n cap : Nat} (h : CodeIn w A n cap) (hn : n ≤ 1048576) : Code w w.heap.size A n cap:=by
 obtain ⟨zs,h1,h2,_,h4,h5⟩:=h
 exact ⟨zs,h1,h2,hn,h4,h5⟩
theorem CodeIn.len {w : World} {A : Option Addr} {n cap : Nat} (h : CodeIn w A n cap) : n ≤ maxLen:=by
 obtain ⟨zs,h1,h2,h3,_⟩:=h
 exact Nat.le_trans h2 h3
theorem wf_u8_le {x : Int} (h : (Lit.int .u8 x).wf = true) : 0 ≤ x∧x ≤ 255:=by
 simp [Lit.wf,IntKind.min,IntKind.max,IntKind.signed,IntKind.bits] at h
 omega
theorem zge {H : Type} {enc : TypeId × Value → H} {P : Program} {w : World} {base : Nat} {spare : Nat → Bool} {held : Bool} {t e : TypeId} {fuel : Nat} {A : Option Addr} {len cap : Nat} {x : DataW H × List MemPlace}
  (hu : P.underlying t = some (.slice e)) (he : P.underlying e = some (.int .u8)) (hc : P.cellsOf e = 1) (h : DataW.trod enc P w base spare held fuel t [.slice A len cap] = some x) : CodeIn w A len cap:=by
 rcases open_ints hu he hc h with ⟨hcs,_⟩ | ⟨a,len',cap',zs,hcs,_,hl,hm,hz,_,hcell,hwz⟩
 ·
  simp only [List.cons.injEq,Value.slice.injEq,and_true] at hcs
  obtain ⟨rfl,rfl,rfl⟩:=hcs
  exact ⟨[],rfl,Nat.le_refl _,Nat.zero_le _,by simp,Rd.nil_⟩
 simp only [List.cons.injEq,Value.slice.injEq,and_true] at hcs
 obtain ⟨rfl,rfl,rfl⟩:=hcs
 have hle : len ≤ zs.length:=by rw [hz];split <;> omega
 refine ⟨zs.take len,by rw [List.length_take];omega,hl,hm,fun z hz' => wf_u8_le (hwz z (List.mem_of_mem_take hz')),bytes_uni _,fun hn => ?_⟩
 rw [List.length_map,List.length_take] at hn
 obtain ⟨b,off,spot⟩:=a
 have hc0:=hcell 0 (by omega)
 have hspot : spot = none:=by simpa [Addr.add] using World.cell?_spot hc0
 subst hspot
 have hadd : ∀ k,(⟨b,off,none⟩ : Addr).add k = ⟨b,off + k,none⟩:=by intro k;unfold Addr.add;split <;> simp_all
 refine ⟨b,off,rfl,?_,?_⟩
 ·
  rw [hadd] at hc0
  by_cases hb : b < w.heap.size
  ·
   exact hb
  simp [World.cell?,Array.getElem?_eq_none (show w.heap.size ≤ b by omega)] at hc0
 intro i r j v hr hv
 rw [List.getElem?_map] at hr
 have hi : i < (zs.take len).length:=by
  refine Nat.lt_of_not_le fun hh => ?_
  rw [List.getElem?_eq_none hh] at hr
  cases hr
 have hi2 : i < zs.length:=by rw [List.length_take] at hi;omega
 rw [List.getElem?_eq_getElem hi] at hr
 simp only [Option.map_some,Option.some.injEq,List.getElem_take] at hr
 subst hr
 match j,hv with
 | 0,hv =>
  simp only [byteC,List.getElem?_cons_zero,Option.some.injEq] at hv
  subst hv
  have:=hcell i hi2
  rw [hadd,List.getD_eq_getElem?_getD,List.getElem?_eq_getElem hi2] at this
  rw [Nat.mul_one,Nat.add_zero]
  exact this
 | j + 1,hv => simp [byteC] at hv
def Crs (w : World) (g : Nat) : Prop:=∃ (A : Option Addr) (n cap : Nat) (i : Nat) (h : Int),i ≤ n∧w.heap[g]? = some (.cells #[.slice A n cap,.int .i64 i,.int .i64 h] 129 (0,0))∧Code w g A n cap
theorem Crs.lt {w : World} {g : Nat} (h : Crs w g) : g < w.heap.size:=by
 obtain ⟨_,_,_,_,_,_,h,_⟩:=h
 exact (gz_ h).1
theorem Crs.grown {w w' : World} {g : Nat} {row : Option Nat} (h : Crs w g) (hg : w.grownBy w' row) (hr : ∀ k,row = some k → g < k) : Crs w' g:=by
 have hlt:=h.lt
 obtain ⟨A,n,cap,i,x,h1,h2,h3⟩:=h
 exact ⟨A,n,cap,i,x,h1,zqe hg (fun e => by have:=hr _ e.symm;omega) h2,h3.below ((Below.refl g w).grown hg (by omega) (fun k e => by have:=hr k e;omega))⟩
theorem Crs.below {w w' : World} {g : Nat} (h : Crs w g) (hb : Below w.heap.size w w') : Crs w' g:=h.grown (row:=none) (zwi hb) (fun _ e => by cases e)
theorem Crs.alloc {w : World} {g : Nat} (h : Crs w g) (o : Obj) : Crs (w.alloc o) g:=h.below ((Below.refl _ _).alloc (Nat.le_refl _) o)
theorem Crs.set {w : World} {g b i : Nat} {u : Value} (h : Crs w g) (hb : g < b) : Crs (w.setCell ⟨b,i,none⟩ u) g:=h.grown (zqg (World.grownBy.refl w (some b)) i u) (fun k e => by cases e;exact hb)
def DrewI (g : Nat) (w : World) (lo hi : Int) (e : Ending) (w' : World) : Prop:=∃ x : Int,lo ≤ x∧x ≤ hi∧e = .returned (.int .i64 x)∧Crs w' g∧w.grownBy w' (some g)
theorem i64_and255 (n : Int) : bits .and .i64 n 255 = n % 256:=by
 have h255 : (BitVec.ofInt 64 255).toNat = 2 ^ 8 - 1:=by decide
 have key : (BitVec.ofInt 64 n &&& BitVec.ofInt 64 255).toNat = (n % ((2 ^ 64 : Nat) : Int)).toNat % 2 ^ 8:=by
  rw [BitVec.toNat_and,BitVec.toNat_ofInt,h255,Nat.and_two_pow_sub_one_eq_mod]
 show IntKind.i64.wrap ((BitVec.ofInt 64 n &&& BitVec.ofInt 64 255).toNat : Nat) = n % 256
 rw [key,IntKind.wrap_i64]
 omega
set_option maxRecDepth 100000 in
set_option maxHeartbeats 2000000 in
theorem s_l01New (A : Option Addr) (n cap : Nat) (w : World) (hc : Code w w.heap.size A n cap) :
  Calls Tryz.prog 40 #[.slice A n cap] w fun e w' => e = .returned (.pointer (some ⟨w.heap.size,0,none⟩))∧Crs w' w.heap.size∧Below w.heap.size w w'∧w'.heap.size = w.heap.size + 1:=by
 have HC:=hd_ hc
 have hn : n ≤ 1048576:=by obtain ⟨_,_,_,h,_⟩:=hc;exact h
 clear hc
 go_enter Tryz.func40,Tryz.ntmps40
 go_wp2_with fail
 go_loop [3,4] (fun h i => ∃ (k : Nat) (H : Int),k ≤ n∧i = .int .i64 k∧h = .int .i64 H) (fun _ i => n - (intOf i).toNat)
 case atStart => exact ⟨0,_,Nat.zero_le _,rfl,rfl⟩
 case round =>
  obtain ⟨k,H,hk,rfl,rfl⟩:=hrel
  by_cases hlt : k < n
  ·
   obtain ⟨b,off,z,rfl,hb,c0,z1,z2⟩:=HC.out.at_ hlt
   have i1 : (0 : Int) ≤ (k : Int):=by omega
   have i2 : (k : Int) < (n : Int):=by omega
   by_cases h4 : (k : Int) < 4000
   ·
    go_wp2_with fail
    go_round
    case rel => exact ⟨k + 1,_,by omega,by go_num,rfl⟩
    case measure => simp [intOf];omega
   go_wp2_with fail
   go_ret
   exact ⟨rfl,⟨_,n,cap,0,H,Nat.zero_le _,zqi rfl,HC.out.below ((Below.refl _ _).alloc (Nat.le_refl _) _)⟩,(Below.refl _ _).alloc (Nat.le_refl _) _,by simp⟩
  obtain rfl : k = n:=by omega
  go_wp2_with fail
  go_ret
  exact ⟨rfl,⟨A,k,cap,0,H,Nat.zero_le _,zqi rfl,HC.out.below ((Below.refl _ _).alloc (Nat.le_refl _) _)⟩,(Below.refl _ _).alloc (Nat.le_refl _) _,by simp⟩
theorem zwm {a w : World} {r : Option Nat} (h : a.grownBy w r) (n : Nat) : a.grownBy (w.drewN n) r:=⟨h.os,h.tape,h.output,h.size,h.block⟩
set_option maxRecDepth 100000 in
set_option maxHeartbeats 4000000 in
theorem zvu (g : Nat) (w : World) (hc : Crs w g) :
  Calls Tryz.prog 137 #[.pointer (some ⟨g,0,none⟩)] w (DrewI g w 0 255):=by
 have hlt0:=hc.lt
 obtain ⟨A,n,cap,i,h,hin,hh,hcode⟩:=hc
 obtain ⟨kh,k0,k1,k2,kf,kz⟩:=own3 (Below.refl w.heap.size w) (gz_ hh).1 hh
 have hn : n ≤ 1048576:=by obtain ⟨_,_,_,h,_⟩:=hcode;exact h
 have KH:=hd_ kh
 have HC:=hd_ hcode
 have AND:=fun X => i64_and255 X
 clear kh hh hcode
 by_cases hlt : i < n
 ·
  obtain ⟨b,off,z,rfl,hb,c0,z1,z2⟩:=HC.out.at_ hlt
  have c1 : ∀ v,(w.setCell ⟨g,2,none⟩ v).cell? ⟨b,off + i,none⟩ = some (.int .u8 z):=fun v => by
   rw [((Below.refl g w).setCell (p:=⟨g,2,none⟩) (Nat.le_refl _) v).cell hb]
   exact c0
  have i1 : (0 : Int) ≤ (i : Int):=by omega
  have i2 : (i : Int) < (n : Int):=by omega
  go_enter Tryz.func137,Tryz.ntmps137
  go_wp2_with fail
  go_quiet (fail)
  go_wp2_with fail
  go_quiet (fail)
  go_wp2_with fail
  go_quiet (fail)
  go_wp2_with fail
  go_ret
  refine ⟨_,?_,?_,rfl,?_,?_⟩
  ·
   exact Int.emod_nonneg _ (by decide)
  ·
   exact Int.le_of_lt_add_one (Int.emod_lt_of_pos _ (by decide))
  ·
   have e1 : ((i + 1 : Nat) : Int) = (i : Int) + 1:=by omega
   refine ⟨?A,n,cap,i + 1,?h,by omega,?c1,?c2⟩
   case c1 =>
    rw [e1]
    exact zxs (zqa (zqa KH.out))
   case c2 =>
    refine HC.out.below ?_
    exact zkm (((Below.refl g w).setCell (p:=⟨g,2,none⟩) (Nat.le_refl _) _).setCell (p:=⟨g,1,none⟩) (Nat.le_refl _) _) _
  exact zwm (zqg (zqg (World.grownBy.refl w (some g)) 2 _) 1 _) _
 obtain rfl : i = n:=by omega
 go_enter Tryz.func137,Tryz.ntmps137
 go_wp2_with fail
 go_quiet (fail)
 go_wp2_with fail
 go_quiet (fail)
 go_wp2_with fail
 go_ret
 refine ⟨_,?_,?_,rfl,?_,?_⟩
 ·
  exact Int.emod_nonneg _ (by decide)
 ·
  exact Int.le_of_lt_add_one (Int.emod_lt_of_pos _ (by decide))
 ·
  refine ⟨A,i,cap,i,_,Nat.le_refl _,zxs (zqa KH.out),HC.out.below ?_⟩
  exact zkm (zkm ((Below.refl g w).setCell (p:=⟨g,2,none⟩) (Nat.le_refl _) _) _) _
 exact zwm (zwm (zqg (World.grownBy.refl w (some g)) 2 _) _) _
set_option maxRecDepth 100000 in
set_option maxHeartbeats 2000000 in
theorem zxd (g : Nat) (n : Int) (w : World) (hc : Crs w g) (h1 : 1 ≤ n) (h2 : n ≤ 9223372036854775807) :
  Calls Tryz.prog 81 #[.pointer (some ⟨g,0,none⟩),.int .i64 n] w (DrewI g w 0 (n - 1)):=by
 by_cases hs : n ≤ 256
 ·
  go_enter Tryz.func81,Tryz.ntmps81
  go_wp2_with fail
  refine (zvu g _ hc).mono ?_
  rintro e w1 ⟨x,x1,x2,rfl,hc1,hg1⟩
  go_wp2_with fail
  go_ret
  exact ⟨x % n,Int.emod_nonneg _ (by omega),by have:=Int.emod_lt_of_pos x (show 0 < n by omega);omega,rfl,hc1,hg1⟩
 go_enter Tryz.func81,Tryz.ntmps81
 go_wp2_with fail
 refine (zvu g _ hc).mono ?_
 rintro e w1 ⟨x,x1,x2,rfl,hc1,hg1⟩
 go_wp2_with fail
 refine (zvu g _ hc1).mono ?_
 rintro e w2 ⟨y,y1,y2,rfl,hc2,hg2⟩
 go_wp2_with fail
 refine (zvu g _ hc2).mono ?_
 rintro e w3 ⟨z,z1,z2,rfl,hc3,hg3⟩
 go_wp2_with fail
 refine (zvu g _ hc3).mono ?_
 rintro e w4 ⟨v,v1,v2,rfl,hc4,hg4⟩
 go_wp2_with fail
 go_ret
 exact ⟨(x * 16777216 + y * 65536 + z * 256 + v) % n,Int.emod_nonneg _ (by omega),by have:=Int.emod_lt_of_pos (x * 16777216 + y * 65536 + z * 256 + v) (show 0 < n by omega);omega,rfl,hc4,zqt (zqt (zqt hg1 hg2) hg3) hg4⟩
end Go.Proofs.YtdbmkfmenfcbiaaGreat
namespace Go.Proofs.YtdbmkfmenfcbiaaGreat
open Go.RowKit Go.Deep

def Fr (ts : List TypeId) (w w' : World) : Prop:=∀ (k : Nat) (cs : Array Value) (t : TypeId),w.heap[k]? = some (.cells cs t (0,0)) → t ∉ ts → w'.heap[k]? = some (.cells cs t (0,0))
section
variable {ts ts' : List TypeId} {w w' w'' : World}
theorem Fr.refl (ts : List TypeId) (w : World) : Fr ts w w:=fun _ _ _ h _ => h
theorem Fr.trans (h : Fr ts w w') (h' : Fr ts w' w'') : Fr ts w w'':=fun k cs t h1 h2 => h' k cs t (h k cs t h1 h2) h2
theorem Fr.mono (h : Fr ts w w') (hs : ∀ t,t ∈ ts → t ∈ ts') : Fr ts' w w':=fun k cs t h1 h2 => h k cs t h1 (fun e => h2 (hs t e))
theorem Fr.below (h : Fr ts w w') (hb : Below w'.heap.size w' w'') : Fr ts w w'':=fun k cs t h1 h2 => by
  have h3:=h k cs t h1 h2
  exact (hb.block k (gz_ h3).1).trans h3
theorem Fr.of_below (hb : Below w.heap.size w w') : Fr ts w w':=(Fr.refl ts w).below hb
theorem Fr.alloc (h : Fr ts w w') (o : Obj) : Fr ts w (w'.alloc o):=h.below ((Below.refl _ _).alloc (Nat.le_refl _) o)
theorem Fr.drew (h : Fr ts w w') : Fr ts w w'.drew:=h
theorem Fr.drewN (h : Fr ts w w') (n : Nat) : Fr ts w (w'.drewN n):=h
theorem Fr.set (h : Fr ts w w') {X i : Nat} {t : TypeId} {cs : Array Value} (hX : w'.heap[X]? = some (.cells cs t (0,0))) (ht : t ∈ ts) (u : Value) : Fr ts w (w'.setCell ⟨X,i,none⟩ u):=fun k cs' t' h1 h2 => by
  have h3:=h k cs' t' h1 h2
  refine zjp (a:=⟨X,i,none⟩) ?_ h3
  rintro rfl
  rw [hX] at h3
  injection h3 with h3
  injection h3 with _ h3
  exact h2 (h3 ▸ ht)
theorem Fr.grown (h : Fr ts w w') {B n : Nat} {e : TypeId} {v : Value} {rows : List (List Value)} (how : Ow w' B e n v rows) (he : e ∈ ts) (hg : w'.grownBy w'' v.ownBlock) : Fr ts w w'':=fun k cs t h1 h2 => by
  have h3:=h k cs t h1 h2
  refine zqe hg ?_ h3
  refine how.ne_ h3 ?_
  rintro rfl
  exact h2 he
theorem Fr.ow {B n : Nat} {e : TypeId} {v : Value} {rows : List (List Value)} (h : Fr ts w w') (how : Ow w B e n v rows) (he : e ∉ ts) : Ow w' B e n v rows:=by
  refine ⟨how.1,how.2.1,?_⟩
  rcases how.2.2 with hn | ⟨g,cap,cur,rfl,hg,hh,r⟩
  · exact .inl hn
  · exact .inr ⟨g,cap,cur,rfl,hg,h _ _ _ hh he,r⟩
theorem Fr.box {k : Nat} {cs : Array Value} {t : TypeId} (h : Fr ts w w') (hk : w.heap[k]? = some (.cells cs t (0,0))) (ht : t ∉ ts) : w'.heap[k]? = some (.cells cs t (0,0)):=h k cs t hk ht
end
theorem Ow.apart_ {w w' : World} {B B' n n' : Nat} {e e' : TypeId} {v v' : Value} {rows rows' : List (List Value)} (h : Ow w B e n v rows) (h' : Ow w B' e' n' v' rows') (hne : e ≠ e') (hg : w.grownBy w' v'.ownBlock) : Ow w' B e n v rows:=by
  refine h.grown hg ?_
  cases hv : v.ownBlock with
  | none => exact Or.inl rfl
  | some k =>
    refine Or.inr ?_
    rcases h.2.2 with ⟨rfl,_⟩ | ⟨g,cap,cur,rfl,_,hh,_⟩
    · simp [Value.ownBlock] at hv
    · have : g = k:=by simpa [Value.ownBlock] using hv
      subst this
      exact h'.ne_ hh (fun x => hne x.symm)
theorem Ow.aside {w : World} {B X n i : Nat} {e t : TypeId} {v : Value} {cs : Array Value} {rows : List (List Value)} (h : Ow w B e n v rows) (hx : w.heap[X]? = some (.cells cs t (0,0))) (hne : e ≠ t) (u : Value) : Ow (w.setCell ⟨X,i,none⟩ u) B e n v rows :=
  h.grown (zqg (World.grownBy.refl w (some X)) i u) (Or.inr (h.ne_ hx hne).symm)
theorem zqb {w : World} {X i n : Nat} {u : Value} {x : Obj} (h : n ≠ X) (k : w.heap[n]? = some x) : (w.setCell ⟨X,i,none⟩ u).heap[n]? = some x:=zjp (a:=⟨X,i,none⟩) h k
theorem hf_ {w w' : World} {X i n : Nat} {u : Value} {x : Obj} (hw : w' = w.setCell ⟨X,i,none⟩ u) (h : n ≠ X) (k : Hid (w.heap[n]? = some x)) : Hid (w'.heap[n]? = some x):=hw ▸ zqb h k.out
end Go.Proofs.YtdbmkfmenfcbiaaGreat
namespace Go.Proofs.YtdbmkfmenfcbiaaGreat
open Go.RowKit

structure Gain where
  Ch : Int
  Fees : Int
  Count : Int
  Failed : Int
def Gain.cells (d : Gain) : List Value:=[.int .i64 d.Ch,.int .i64 d.Fees,.int .i64 d.Count,.int .i64 d.Failed]
theorem Gain.uni (l : List Gain) : ∀ r ∈ l.map Gain.cells,r.length = 4:=by
  intro r hr
  obtain ⟨d,_,rfl⟩:=List.mem_map.1 hr
  rfl
theorem Gain.of_flat {cs : List Value} (h0 : flat [true,true,true,true] cs) : ∃ d : Gain,cs = d.cells∧True:=by
  obtain ⟨a0,cs0,e0,h1⟩:=zxy h0
  obtain ⟨a1,cs1,e1,h2⟩:=zxy h1
  obtain ⟨a2,cs2,e2,h3⟩:=zxy h2
  obtain ⟨a3,cs3,e3,h4⟩:=zxy h3
  have e4:=zwb h4
  subst e0 e1 e2 e3 e4
  exact ⟨⟨a0,a1,a2,a3⟩,rfl,trivial⟩
theorem Gain.rd {w : World} {B : Nat} {A : Option Addr} {l : List Gain} (h : Rd w B 4 A (l.map Gain.cells)) {k : Nat} (hk : k < l.length) :
    ∃ b off,A = some ⟨b,off,none⟩∧b < B∧w.cell? ⟨b,off + k * 4,none⟩ = some (.int .i64 l[k].Ch)∧w.cell? ⟨b,off + k * 4 + 1,none⟩ = some (.int .i64 l[k].Fees)∧w.cell? ⟨b,off + k * 4 + 2,none⟩ = some (.int .i64 l[k].Count)∧w.cell? ⟨b,off + k * 4 + 3,none⟩ = some (.int .i64 l[k].Failed):=by
  obtain ⟨b,off,e,hb,hc⟩:=h.2 (by rw [List.length_map];omega)
  have hk' : (l.map Gain.cells)[k]? = some l[k].cells:=by rw [List.getElem?_map,List.getElem?_eq_getElem hk];rfl
  exact ⟨b,off,e,hb,hc k _ 0 _ hk' rfl,hc k _ 1 _ hk' rfl,hc k _ 2 _ hk' rfl,hc k _ 3 _ hk' rfl⟩
theorem Gain.fl (l : List Gain) {k : Nat} (hk : k < l.length) : (l.map Gain.cells).flatten[k * 4]? = some (.int .i64 l[k].Ch)∧(l.map Gain.cells).flatten[k * 4 + 1]? = some (.int .i64 l[k].Fees)∧(l.map Gain.cells).flatten[k * 4 + 2]? = some (.int .i64 l[k].Count)∧(l.map Gain.cells).flatten[k * 4 + 3]? = some (.int .i64 l[k].Failed):=by
  have hk' : (l.map Gain.cells)[k]? = some l[k].cells:=by rw [List.getElem?_map,List.getElem?_eq_getElem hk];rfl
  exact ⟨zqw _ 4 (Gain.uni l) k 0 _ hk' (by omega),zqw _ 4 (Gain.uni l) k 1 _ hk' (by omega),zqw _ 4 (Gain.uni l) k 2 _ hk' (by omega),zqw _ 4 (Gain.uni l) k 3 _ hk' (by omega)⟩
end Go.Proofs.YtdbmkfmenfcbiaaGreat
namespace Go.Proofs.YtdbmkfmenfcbiaaGreat
section
variable {P : Program} {md : Region.Mode} {ops0 : Array Oper} {o : Oper} {Q : Exit → Act → World → Prop} {S : World → Prop}
def waitsAll2 (md : Region.Mode) (ops0 : Array Oper) (o : Oper) : Bool :=
 ((List.range ops0.size).all fun i => (o.after.toList.any fun e => Region.binds md e && (e.on == i)) ||
  ((List.range ops0.size).any fun k => decide (i < k) && match ops0[k]? with | some x => x.after.toList.any fun e' => Region.binds md e' && (e'.on == i) | none => false)) &&
 o.after.toList.all fun e => !Region.binds md e || decide (e.on < ops0.size)
def Closed (md : Region.Mode) (ops0 : Array Oper) (listed : Array Bool) : Prop:=∀ (j : Nat) (x : Oper),ops0[j]? = some x → listed.getD j false = true → ∀ e ∈ x.after,Region.binds md e = true → listed.getD e.on false = true
theorem waits2_all (h : waitsAll2 md ops0 o = true) {listed : Array Bool} (hc : Closed md ops0 listed) (hd : ∀ e ∈ o.after,Region.binds md e = true → listed.getD e.on false = true) : ∀ i,i < ops0.size → listed.getD i false = true:=by
 simp only [waitsAll2,Bool.and_eq_true] at h
 have key : ∀ n i,ops0.size - i = n → i < ops0.size → listed.getD i false = true:=by
  intro n
  induction n using Nat.strongRecOn with
  | _ n ih =>
   intro i hn hi
   have h1:=List.all_eq_true.1 h.1 i (List.mem_range.2 hi)
   simp only [Bool.or_eq_true] at h1
   rcases h1 with h1 | h1
   ·
    obtain ⟨e,he,h2⟩:=List.any_eq_true.1 h1
    simp only [Bool.and_eq_true,beq_iff_eq] at h2
    obtain ⟨hb,rfl⟩:=h2
    exact hd e (by simpa using he) hb
   obtain ⟨k,hk,h2⟩:=List.any_eq_true.1 h1
   have hk:=List.mem_range.1 hk
   simp only [Bool.and_eq_true,decide_eq_true_eq] at h2
   obtain ⟨hik,h3⟩:=h2
   cases hx : ops0[k]? with
   | none => rw [hx] at h3;cases h3
   | some x =>
    rw [hx] at h3
    obtain ⟨e',he',h4⟩:=List.any_eq_true.1 h3
    simp only [Bool.and_eq_true,beq_iff_eq] at h4
    obtain ⟨hb',rfl⟩:=h4
    exact hc k x hx (ih (ops0.size - k) (by omega) k rfl hk) e' (by simpa using he') hb'
 exact fun i hi => key _ i rfl hi
theorem waits2_lt (h : waitsAll2 md ops0 o = true) : ∀ e ∈ o.after,Region.binds md e = true → e.on < ops0.size:=fun e he hb => by
 simp only [waitsAll2,Bool.and_eq_true] at h
 have:=List.all_eq_true.1 h.2 e (by simpa using he)
 simpa [hb] using this
theorem zgd : Closed md ops0 (Array.replicate ops0.size false):=fun j x hx hl => by
 have hj:=(gz_ hx).1
 simp [Array.getD_eq_getD_getElem?,hj] at hl
theorem closed_step {listed : Array Bool} (hs : listed.size = ops0.size) (hc : Closed md ops0 listed) {i : Nat} (hi : i ∈ Region.ready md ops0 listed) : Closed md ops0 (listed.setIfInBounds i true):=by
 obtain ⟨_,y,hy,hall⟩:=mem_ready.1 hi
 have his:=(gz_ hy).1
 have up : ∀ k,listed.getD k false = true → (listed.setIfInBounds i true).getD k false = true:=fun k hk => by
  simp only [Array.getD_eq_getD_getElem?] at hk ⊢
  rw [Array.getElem?_setIfInBounds]
  split
  ·
   split <;> simp_all
  exact hk
 intro j x hx hl e he hb
 by_cases hj : i = j
 ·
  subst hj
  rw [hy] at hx
  cases hx
  exact up _ (hall e he hb)
 have hl' : listed.getD j false = true:=by
  simp only [Array.getD_eq_getD_getElem?] at hl ⊢
  rwa [Array.getElem?_setIfInBounds_ne hj] at hl
 exact up _ (hc j x hx hl' e he hb)
theorem zvj (hw : waitsAll2 md ops0 o = true) (hb : backOnly md ops0 = true) {listed : Array Bool} (hs : listed.size = ops0.size) (hc : Closed md ops0 listed) {j : Nat} :
  j ∈ Region.ready md (ops0.push o) (listed.push false) ↔ (j ∈ Region.ready md ops0 listed ∨ (j = ops0.size∧∀ i,i < ops0.size → listed.getD i false = true)):=by
 have h2:=waits2_lt hw
 rw [mem_ready,mem_ready]
 by_cases hj : j < ops0.size
 ·
  rw [zvt (by omega),ztb hj]
  constructor
  ·
   rintro ⟨ha,x,hx,hall⟩
   refine .inl ⟨ha,x,hx,fun e he hbe => ?_⟩
   have:=hall e he hbe
   have hlt : e.on < ops0.size:=by
    have h3:=List.all_eq_true.1 hb j (List.mem_range.2 hj)
    simp only [hx] at h3
    have h4:=List.all_eq_true.1 h3 e (by simpa using he)
    simp only [hbe,Bool.not_true,Bool.false_or,decide_eq_true_eq] at h4
    omega
   rwa [zvt (by omega)] at this
  rintro (⟨ha,x,hx,hall⟩ | ⟨rfl,_⟩)
  ·
   refine ⟨ha,x,hx,fun e he hbe => ?_⟩
   have hlt : e.on < ops0.size:=by
    have h3:=List.all_eq_true.1 hb j (List.mem_range.2 hj)
    simp only [hx] at h3
    have h4:=List.all_eq_true.1 h3 e (by simpa using he)
    simp only [hbe,Bool.not_true,Bool.false_or,decide_eq_true_eq] at h4
    omega
   rw [zvt (by omega)]
   exact hall e he hbe
  omega
 by_cases he : j = ops0.size
 ·
  subst he
  constructor
  ·
   rintro ⟨_,x,hx,hall⟩
   have hx' : x = o:=by simpa using hx.symm
   subst hx'
   refine .inr ⟨rfl,waits2_all hw hc fun e he hbe => ?_⟩
   have:=hall e he hbe
   rwa [zvt (by have:=h2 e he hbe;omega)] at this
  rintro (⟨_,x,hx,_⟩ | ⟨_,hall⟩)
  ·
   simp at hx
  refine ⟨by rw [← hs];exact zto,o,by simp,fun e he hbe => ?_⟩
  have:=h2 e he hbe
  rw [zvt (by omega)]
  exact hall _ this
 constructor
 ·
  rintro ⟨_,x,hx,_⟩
  rw [Array.getElem?_eq_none (by simp;omega)] at hx
  cases hx
 rintro (⟨_,x,hx,_⟩ | ⟨rfl,_⟩)
 ·
  rw [Array.getElem?_eq_none (by omega)] at hx
  cases hx
 exact absurd rfl he
theorem zvm (hw : waitsAll2 md ops0 o = true) (hb : backOnly md ops0 = true) {listed : Array Bool} (hs : listed.size = ops0.size) (hc : Closed md ops0 listed) (hr : Region.ready md ops0 listed = []) {a : Act} {w : World}
  (h : lastQ P (ops0.push o) o Q .normal a w) (f : Nat) : wpAny P md (ops0.push o) Q (f + 1) (listed.push false) a w:=by
 have hall:=all_listed hb hs hr
 have hend : Region.ready md (ops0.push o) ((listed.push false).setIfInBounds ops0.size true) = []:=by
  refine List.eq_nil_iff_forall_not_mem.2 fun j hj => ?_
  obtain ⟨h1,x,hx,_⟩:=mem_ready.1 hj
  have hjs : j < ops0.size + 1:=by
   have:=(gz_ hx).1
   simpa using this
  rw [← hs] at h1 hjs
  by_cases hjl : j = listed.size
  ·
   subst hjl
   simp [Array.getD_eq_getD_getElem?] at h1
  have hjlt : j < listed.size:=by omega
  have h3:=hall j (by omega)
  simp [Array.getD_eq_getD_getElem?,Array.getElem_push,hjlt,Ne.symm hjl,Nat.lt_succ_of_lt hjlt] at h1 h3
  rw [h3] at h1
  cases h1
 refine ⟨fun h0 => ?_,fun i hi => ?_⟩
 ·
  have : ops0.size ∈ Region.ready md (ops0.push o) (listed.push false):=(zvj hw hb hs hc).2 (.inr ⟨rfl,hall⟩)
  rw [h0] at this
  cases this
 rcases (zvj hw hb hs hc).1 hi with hi | ⟨rfl,_⟩
 ·
  rw [hr] at hi
  cases hi
 have hstep:=h (fun a' w' => wpAny P md (ops0.push o) Q f ((listed.push false).setIfInBounds ops0.size true) a' w') (fun a' w' hq => by
  cases f with
  | zero => exact ⟨hend,hq⟩
  | succ f => exact ⟨fun _ => hq,by rw [hend];simp⟩)
 unfold wpOp
 simp only [Array.getElem?_push_size]
 split
 ·
  rename_i hwd
  rw [if_pos hwd] at hstep
  exact .inl hstep
 rename_i hwd
 rw [if_neg hwd] at hstep
 exact hstep
theorem zwj (hg : noGuards ops0 = true) (hw : waitsAll2 md ops0 o = true) (hb : backOnly md ops0 = true) : ∀ (f : Nat) (listed : Array Bool) (a : Act) (w : World),listed.size = ops0.size → Closed md ops0 listed →
  wpAnyH P md ops0 (lastQ P (ops0.push o) o Q) S f listed a w → wpAny P md (ops0.push o) Q (f + 1) (listed.push false) a w
 | 0,listed,a,w,hs,hc,h => zvm hw hb hs hc h.1 h.2 0
 | f + 1,listed,a,w,hs,hc,h => by
  by_cases hr : Region.ready md ops0 listed = []
  ·
   exact zvm hw hb hs hc hr (h.1 hr) (f + 1)
  obtain ⟨j,hj⟩:=List.exists_mem_of_ne_nil _ hr
  have hnot : ¬ ∀ i,i < ops0.size → listed.getD i false = true:=fun hall => by
   obtain ⟨h1,x,hx,_⟩:=mem_ready.1 hj
   have hjs:=(gz_ hx).1
   have:=hall j hjs
   rw [getD_any (by omega) false true,h1] at this
   cases this
  refine ⟨fun h0 => ?_,fun i hi => ?_⟩
  ·
   have:=(zvj hw hb hs hc).2 (.inl hj)
   rw [h0] at this
   cases this
  rcases (zvj hw hb hs hc).1 hi with hi | ⟨_,hall⟩
  rotate_left
  ·
   exact absurd hall hnot
  have hstep:=h.2 i hi
  obtain ⟨_,x,hx,_⟩:=mem_ready.1 hi
  have his:=(gz_ hx).1
  have hgx : x.guard = none:=by
   have:=List.all_eq_true.1 hg x (by
    have hm : x ∈ ops0:=Array.mem_of_getElem? hx
    simpa using hm)
   simpa using this
  have hset : (listed.push false).setIfInBounds i true = (listed.setIfInBounds i true).push false:=by
   apply Array.ext
   ·
    simp
   intro k h1 h2
   simp only [Array.size_setIfInBounds,Array.size_push] at h1
   by_cases hk : k < listed.size
   ·
    rw [Array.getElem_push,dif_pos (by simpa using hk)]
    rw [Array.getElem_setIfInBounds,Array.getElem_setIfInBounds,Array.getElem_push,dif_pos hk]
    simp
    omega
   have : k = listed.size:=by omega
   subst this
   have hne : i ≠ listed.size:=by omega
   simp [Array.getElem_push,hne]
  have key : ∀ a' w',(S w'∧wpAnyH P md ops0 (lastQ P (ops0.push o) o Q) S f (listed.setIfInBounds i true) a' w') → wpAny P md (ops0.push o) Q (f + 1) ((listed.push false).setIfInBounds i true) a' w':=fun a' w' h' => by
   rw [hset]
   exact zwj hg hw hb f _ a' w' (by simpa using hs) (closed_step hs hc hi) h'.2
  unfold wpOp at hstep ⊢
  rw [ztb his]
  simp only [hx] at hstep ⊢
  have hwd : ∀ y : Nat → Option Bool,Region.wanted x y = true:=fun y => by simp [Region.wanted,hgx]
  rw [if_pos (hwd _)] at hstep ⊢
  rcases hstep with hstep | ⟨h1,h2⟩
  ·
   exact .inl (upon_Q key (fun _ _ _ h => h) (fun h => h) hstep)
  exact .inr ⟨h1,h2⟩
theorem ztm {ops : Array Oper} {id : Nat} {a : Act} {w : World} (he : ops = ops0.push o) (hm : P.follows .mixedOrders = true) (hg : noGuards ops0 = true) (hw : waitsAll2 .any ops0 o = true) (hb : backOnly .any ops0 = true)
  (hS : S w.drew) (h : S w.drew → wpAnyH P .any ops0 (lastQ P ops o Q) S ops0.size (Array.replicate ops0.size false) a w.drew) : (Code.region id ops true).wp P Q a w:=by
 subst he
 refine wp_region_any hm ?_
 have:=zwj hg hw hb ops0.size (Array.replicate ops0.size false) a w.drew (by simp) zgd (h hS)
 rw [Array.size_push,Array.replicate_succ]
 exact this
end
theorem zkh {P : Program} {o : Oper} {Q : Exit → Act → World → Prop} {S : World → Prop} {l : List Oper} {id : Nat} {a : Act} {w : World} (ho : l.getLast? = some o) (hm : P.follows .mixedOrders = true) (hg : noGuards l.dropLast.toArray = true) (hw : waitsAll2 .any l.dropLast.toArray o = true) (hb : backOnly .any l.dropLast.toArray = true)
  (hS : S w.drew) (h : S w.drew → wpAnyH P .any l.dropLast.toArray (lastQ P l.toArray o Q) S l.dropLast.toArray.size (Array.replicate l.dropLast.toArray.size false) a w.drew) : (Code.region id l.toArray true).wp P Q a w:=by
 refine ztm (S:=S) (ops0:=l.dropLast.toArray) (o:=o) ?_ hm hg hw hb hS h
 have hne : l ≠ []:=fun e => by subst e;cases ho
 have h1:=List.dropLast_concat_getLast hne
 have h2 : l.getLast hne = o:=by rw [List.getLast?_eq_some_getLast hne] at ho;injection ho
 rw [h2] at h1
 rw [List.push_toArray,h1]
end Go.Proofs.YtdbmkfmenfcbiaaGreat
namespace Go.Proofs.YtdbmkfmenfcbiaaGreat
open Go.RowKit

structure Line where
  Kind : Int
  Ch : Int
  Amt : Int
def Line.cells (d : Line) : List Value:=[.int .i64 d.Kind,.int .i64 d.Ch,.int .i64 d.Amt]
theorem Line.uni (l : List Line) : ∀ r ∈ l.map Line.cells,r.length = 3:=by
  intro r hr
  obtain ⟨d,_,rfl⟩:=List.mem_map.1 hr
  rfl
theorem Line.of_flat {cs : List Value} (h0 : flat [true,true,true] cs) : ∃ d : Line,cs = d.cells∧True:=by
  obtain ⟨a0,cs0,e0,h1⟩:=zxy h0
  obtain ⟨a1,cs1,e1,h2⟩:=zxy h1
  obtain ⟨a2,cs2,e2,h3⟩:=zxy h2
  have e3:=zwb h3
  subst e0 e1 e2 e3
  exact ⟨⟨a0,a1,a2⟩,rfl,trivial⟩
theorem Line.rd {w : World} {B : Nat} {A : Option Addr} {l : List Line} (h : Rd w B 3 A (l.map Line.cells)) {k : Nat} (hk : k < l.length) :
    ∃ b off,A = some ⟨b,off,none⟩∧b < B∧w.cell? ⟨b,off + k * 3,none⟩ = some (.int .i64 l[k].Kind)∧w.cell? ⟨b,off + k * 3 + 1,none⟩ = some (.int .i64 l[k].Ch)∧w.cell? ⟨b,off + k * 3 + 2,none⟩ = some (.int .i64 l[k].Amt):=by
  obtain ⟨b,off,e,hb,hc⟩:=h.2 (by rw [List.length_map];omega)
  have hk' : (l.map Line.cells)[k]? = some l[k].cells:=by rw [List.getElem?_map,List.getElem?_eq_getElem hk];rfl
  exact ⟨b,off,e,hb,hc k _ 0 _ hk' rfl,hc k _ 1 _ hk' rfl,hc k _ 2 _ hk' rfl⟩
theorem Line.fl (l : List Line) {k : Nat} (hk : k < l.length) : (l.map Line.cells).flatten[k * 3]? = some (.int .i64 l[k].Kind)∧(l.map Line.cells).flatten[k * 3 + 1]? = some (.int .i64 l[k].Ch)∧(l.map Line.cells).flatten[k * 3 + 2]? = some (.int .i64 l[k].Amt):=by
  have hk' : (l.map Line.cells)[k]? = some l[k].cells:=by rw [List.getElem?_map,List.getElem?_eq_getElem hk];rfl
  exact ⟨zqw _ 3 (Line.uni l) k 0 _ hk' (by omega),zqw _ 3 (Line.uni l) k 1 _ hk' (by omega),zqw _ 3 (Line.uni l) k 2 _ hk' (by omega)⟩

def divB (a b c : Int) : Bool:=decide (a * b / c ≤ 1125899906842624)
def divQ (a b c : Int) : Int:=if divB a b c = true then a * b / c else 0
def divR (a b c : Int) : Int:=if divB a b c = true then a * b % c else 0
def DivAt (a b c q r : Int) (i : Nat) : Prop:=q * c + r = a / 2 ^ i * b∧0 ≤ r∧r < c∧0 ≤ q
theorem DivAt.end_ {a b c q r : Int} (h : DivAt a b c q r 0) : q = a * b / c∧r = a * b % c:=by
  obtain ⟨h1,h2,h3,_⟩:=h
  rw [Int.pow_zero,Int.ediv_one] at h1
  have hc : c ≠ 0:=by omega
  rw [← h1]
  constructor
  · rw [Int.add_comm,Int.add_mul_ediv_right _ _ hc,Int.ediv_eq_zero_of_lt h2 h3,Int.zero_add]
  · rw [Int.add_comm,Int.add_mul_emod_self_right,Int.emod_eq_of_lt h2 h3]
theorem half_step (a : Int) (i : Nat) : a / 2 ^ i = 2 * (a / 2 ^ (i + 1)) + a / 2 ^ i % 2:=by
  have : a / 2 ^ (i + 1) = a / 2 ^ i / 2:=by rw [Int.pow_succ,Int.ediv_ediv_of_nonneg (Int.pow_nonneg (by decide))]
  rw [this]
  omega
theorem bit_one (x : Int) (h0 : 0 ≤ x) (h1 : x < 4611686018427387904) : bits .and .i64 x 1 = x % 2:=by
  have h:=bits_mask .i64 62 (by decide) (fun n h0 h1 => IntWalk.i64_in n ⟨by omega,by omega⟩) 1 (by decide) x h0 (by omega)
  simpa using h
theorem divB_no {a b c q r : Int} {i : Nat} (hc : 1 ≤ c) (ha : 0 ≤ a) (hb : 0 ≤ b) (h : q * c + r = a / 2 ^ i * b) (hr : 0 ≤ r) (hq : 1125899906842624 < q) : divB a b c = false:=by
  have h1 : a / 2 ^ i ≤ a:=Int.ediv_le_self _ ha
  have h2 : a / 2 ^ i * b ≤ a * b:=Int.mul_le_mul_of_nonneg_right h1 hb
  have h3 : q ≤ a * b / c:=(Int.le_ediv_iff_mul_le (by omega)).2 (by omega)
  simp only [divB,decide_eq_false_iff_not]
  omega
theorem div_step {a b c q r : Int} {j : Nat} (h : q * c + r = a / 2 ^ (j + 1) * b) : (2 * q + a / 2 ^ j % 2 * (b / c)) * c + (2 * r + a / 2 ^ j % 2 * (b % c)) = a / 2 ^ j * b:=by
  have e:=half_step a j
  have e2 : b / c * c + b % c = b:=by rw [Int.mul_comm];exact Int.mul_ediv_add_emod b c
  generalize a / 2 ^ j % 2 = t at *
  generalize a / 2 ^ (j + 1) = x at *
  rw [e]
  calc (2 * q + t * (b / c)) * c + (2 * r + t * (b % c)) = 2 * (q * c + r) + t * (b / c * c + b % c):=by simp only [Int.add_mul,Int.mul_add,Int.mul_assoc];omega
    _ = (2 * x + t) * b:=by rw [h,e2,Int.add_mul,Int.mul_assoc]
def mulArgs (a b c : Int) : Bool:=amtB a && amtB b && decide (1 ≤ c) && decide (c ≤ 1125899906842624)
def mulOk (a b c : Int) : Bool:=mulArgs a b c && divB a b c
def mulQ (a b c : Int) : Int:=if mulArgs a b c = true then divQ a b c else 0
theorem s_l01Div (a b c : Int) (w : World) (ha : 0 ≤ a∧a ≤ 1125899906842624) (hb : 0 ≤ b∧b ≤ 1125899906842624) (hc : 1 ≤ c∧c ≤ 1125899906842624) :
    Calls Tryz.prog 167 #[.int .i64 a,.int .i64 b,.int .i64 c] w fun e w' => e = .returned (.tuple #[.int .i64 (divQ a b c),.int .i64 (divR a b c),.bool (divB a b c)])∧w = w':=by
  obtain ⟨a1,a2⟩:=ha
  obtain ⟨b1,b2⟩:=hb
  obtain ⟨c1,c2⟩:=hc
  go_enter Tryz.func167,Tryz.ntmps167
  go_wp2_with fail
  go_loopw [9,10,11] (fun q r i wr => ∃ (k : Nat) (q' r' : Int),k ≤ 51∧i = .int .i64 ((k : Int) - 1)∧q = .int .i64 q'∧r = .int .i64 r'∧DivAt a b c q' r' k∧q' ≤ 1125899906842624∧w = wr) (fun _ _ i _ => ((intOf i) + 1).toNat)
  case atStart =>
    refine ⟨51,0,0,by omega,rfl,rfl,rfl,⟨?_,by omega,by omega,by omega⟩,by omega,rfl⟩
    rw [Int.ediv_eq_zero_of_lt a1 (by have : (2 : Int) ^ 51 = 2251799813685248 := by decide
                                      omega)]
    simp
  case round =>
    obtain ⟨k,q',r',hk,rfl,rfl,rfl,hd,hq,rfl⟩:=hrel
    by_cases hk0 : 0 < k
    · obtain ⟨j,rfl⟩ : ∃ j,k = j + 1:=⟨k - 1,by omega⟩
      obtain ⟨d1,d2,d3,d4⟩:=hd
      have hstep:=div_step d1
      have y0 : 0 ≤ a / 2 ^ j:=Int.ediv_nonneg a1 (Int.pow_nonneg (by decide))
      have y1 : a / 2 ^ j ≤ a:=Int.ediv_le_self _ a1
      have hb1:=bit_one _ y0 (by omega)
      have g0 : 0 ≤ b / c:=Int.ediv_nonneg b1 (by omega)
      have g1 : b / c ≤ b:=Int.ediv_le_self _ b1
      have g2 : 0 ≤ b % c:=Int.emod_nonneg _ (by omega)
      have g3 : b % c < c:=Int.emod_lt_of_pos _ (by omega)
      rcases (by omega : a / 2 ^ j % 2 = 0 ∨ a / 2 ^ j % 2 = 1) with t | t
      · have hbit : (bits BinOp.and IntKind.i64 (a / 2 ^ j) 1 == 1) = false:=by rw [hb1,t];rfl
        rw [t,Int.zero_mul,Int.zero_mul,Int.add_zero,Int.add_zero] at hstep
        have HS:=hd_ hstep
        clear hstep hb1 t d1
        go_wp2_with fail
        go_loopw [9,10] (fun q r wr => ∃ q2 r2 : Int,q = .int .i64 q2∧r = .int .i64 r2∧q2 * c + r2 = a / 2 ^ j * b∧0 ≤ r2∧0 ≤ q2∧q2 + r2 ≤ 6755399441055744∧w = wr) (fun _ r _ => (intOf r).toNat)
        case atStart => exact ⟨_,_,rfl,rfl,HS.out,by omega,by omega,by omega,rfl⟩
        case round =>
          obtain ⟨q2,r2,rfl,rfl,p1,p2,p3,p4,rfl⟩:=hrel
          have HP:=hd_ p1
          clear p1
          by_cases hge : c ≤ r2
          · go_wp2_with fail
            go_roundw
            case rel => exact ⟨q2 + 1,r2 - c,by go_num,by go_num,by rw [Int.add_mul,Int.one_mul];have:=HP.out;omega,by omega,by omega,by omega,trivial⟩
            case measure => simp [intOf];omega
          · have hge2 : decide (c ≤ r2) = false:=decide_eq_false hge
            by_cases hbig : 1125899906842624 < q2
            · have hno:=divB_no c1 a1 b1 HP p2 hbig
              go_wp2_with fail
              refine bodyPost_ret (v:=.tuple #[.int .i64 0,.int .i64 0,.bool false]) (by simp [results,Tryz.results167,go_sem]) rfl ⟨by simp [divQ,divR,hno],rfl⟩
            · have hbig2 : decide (1125899906842624 < q2) = false:=decide_eq_false hbig
              go_wp2_with fail
              go_roundw
              case rel => exact ⟨j,q2,r2,by omega,by go_num,rfl,rfl,⟨HP.out,p2,by omega,p3⟩,by omega,trivial⟩
              case measure => simp [intOf]
      · have hbit : (bits BinOp.and IntKind.i64 (a / 2 ^ j) 1 == 1) = true:=by rw [hb1,t];rfl
        rw [t,Int.one_mul,Int.one_mul] at hstep
        have HS:=hd_ hstep
        clear hstep hb1 t d1
        go_wp2_with fail
        go_loopw [9,10] (fun q r wr => ∃ q2 r2 : Int,q = .int .i64 q2∧r = .int .i64 r2∧q2 * c + r2 = a / 2 ^ j * b∧0 ≤ r2∧0 ≤ q2∧q2 + r2 ≤ 6755399441055744∧w = wr) (fun _ r _ => (intOf r).toNat)
        case atStart => exact ⟨_,_,rfl,rfl,HS.out,by omega,by omega,by omega,rfl⟩
        case round =>
          obtain ⟨q2,r2,rfl,rfl,p1,p2,p3,p4,rfl⟩:=hrel
          have HP:=hd_ p1
          clear p1
          by_cases hge : c ≤ r2
          · go_wp2_with fail
            go_roundw
            case rel => exact ⟨q2 + 1,r2 - c,by go_num,by go_num,by rw [Int.add_mul,Int.one_mul];have:=HP.out;omega,by omega,by omega,by omega,trivial⟩
            case measure => simp [intOf];omega
          · have hge2 : decide (c ≤ r2) = false:=decide_eq_false hge
            by_cases hbig : 1125899906842624 < q2
            · have hno:=divB_no c1 a1 b1 HP p2 hbig
              go_wp2_with fail
              refine bodyPost_ret (v:=.tuple #[.int .i64 0,.int .i64 0,.bool false]) (by simp [results,Tryz.results167,go_sem]) rfl ⟨by simp [divQ,divR,hno],rfl⟩
            · have hbig2 : decide (1125899906842624 < q2) = false:=decide_eq_false hbig
              go_wp2_with fail
              go_roundw
              case rel => exact ⟨j,q2,r2,by omega,by go_num,rfl,rfl,⟨HP.out,p2,by omega,p3⟩,by omega,trivial⟩
              case measure => simp [intOf]
    · obtain rfl : k = 0:=by omega
      obtain ⟨e1,e2⟩:=hd.end_
      have hy : divB a b c = true:=by simp only [divB,decide_eq_true_eq];omega
      clear hd
      go_wp2_with fail
      refine bodyPost_ret (v:=.tuple #[.int .i64 q',.int .i64 r',.bool true]) (by simp [results,Tryz.results167,go_sem]) rfl ⟨by simp [divQ,divR,hy,e1,e2],rfl⟩
/-! ### Plain -/
def accB (k c : Int) : Bool:=if inB k 6 8 = true then inB c 1 99 else inB k 1 5 && decide (c = 0)
def lessB (k c k' c' : Int) : Bool:=decide (k < k') || (decide (k = k') && decide (c < c'))
def rangeB (n : Int) : Bool:=inB n (-1125899906842624) 1125899906842624
def lineAt (l : List Line) (i : Nat) : Bool :=
 match l[i]? with
 | some x => accB x.Kind x.Ch && (!(x.Amt == 0)) && rangeB x.Amt && (decide (i = 0) || match l[i - 1]? with | some p => lessB p.Kind p.Ch x.Kind x.Ch | none => false)
 | none => true
def allTo (k : Nat) (p : Nat → Bool) : Bool:=(List.range k).all p
theorem ztt (k : Nat) (p : Nat → Bool) : allTo (k + 1) p = (allTo k p && p k):=by
 unfold allTo
 rw [List.range_succ,List.all_append]
 simp
theorem allTo_iff {k : Nat} {p : Nat → Bool} : allTo k p = true ↔ ∀ i,i < k → p i = true:=by
 simp [allTo,List.all_eq_true]
theorem allTo_false {k i : Nat} {p : Nat → Bool} (hi : i < k) (h : p i = false) : allTo k p = false:=by
 cases hu : allTo k p
 ·
  rfl
 rw [allTo_iff.1 hu i hi] at h
 cases h
def lineSum (l : List Line) : Int:=l.foldl (fun s x => s + x.Amt) 0
theorem zht (l : List Line) {k : Nat} (hk : k < l.length) : lineSum (l.take (k + 1)) = lineSum (l.take k) + l[k].Amt:=zqq l _ _ hk
def linesB (l : List Line) : Bool:=allTo l.length (lineAt l) && decide (lineSum l = 0)
theorem zjz {l : List Line} {k : Nat} (hk : k < l.length) (h : lineAt l k = false) : linesB l = false:=by
 unfold linesB
 rw [allTo_false hk h]
 rfl
theorem zyy {l : List Line} {k : Nat} (hk : k < l.length) (h : lineAt l k = true) : accB l[k].Kind l[k].Ch = true∧(l[k].Amt == 0) = false∧(-1125899906842624 ≤ l[k].Amt∧l[k].Amt ≤ 1125899906842624):=by
 have e : l[k]? = some l[k]:=List.getElem?_eq_getElem hk
 unfold lineAt at h
 rw [e] at h
 simp only [Bool.and_eq_true,Bool.not_eq_true'] at h
 exact ⟨h.1.1.1,h.1.1.2,zjj.1 h.1.2⟩
theorem zvr {l : List Line} (hk : 0 < l.length) : lineAt l 0 = (accB l[0].Kind l[0].Ch && !(l[0].Amt == 0) && rangeB l[0].Amt):=by
 have e : l[0]? = some l[0]:=List.getElem?_eq_getElem hk
 unfold lineAt
 rw [e]
 simp
theorem zvg {l : List Line} {j : Nat} (hk : j + 1 < l.length) (hj : j < l.length) : lineAt l (j + 1) = (accB l[j + 1].Kind l[j + 1].Ch && !(l[j + 1].Amt == 0) && rangeB l[j + 1].Amt && lessB l[j].Kind l[j].Ch l[j + 1].Kind l[j + 1].Ch):=by
 have e : l[j + 1]? = some l[j + 1]:=List.getElem?_eq_getElem hk
 have e2 : l[j + 1 - 1]? = some l[j]:=List.getElem?_eq_getElem hj
 unfold lineAt
 rw [e,e2]
 simp
theorem zko (k c : Int) (w : World) :
  Calls Tryz.prog 52 #[.agg #[.int .i64 k,.int .i64 c]] w fun e w' => e = .returned (.bool (accB k c))∧Below w.heap.size w w':=by
 cases h1 : inB k 6 8
 ·
  cases h2 : inB k 1 5
  all_goals
   cases h3 : (c == 0)
   all_goals
    have h4 : decide (c = 0) = (c == 0):=rfl
    have H4:=hd_ h4
    clear h4
    go_enter Tryz.func52,Tryz.ntmps52
    go_wp2_with (go_at_call 82;refine (i_in _ _ _ _).mono ?_;rintro e w' ⟨rfl,rfl⟩)
    go_ret
    exact ⟨zqf (by simp [accB,h1,h2,H4.out,h3]),bl_⟩
 go_enter Tryz.func52,Tryz.ntmps52
 go_wp2_with (go_at_call 82;refine (i_in _ _ _ _).mono ?_;rintro e w' ⟨rfl,rfl⟩)
 go_ret
 exact ⟨zqf (by simp [accB,h1]),bl_⟩
set_option maxHeartbeats 1000000 in
theorem zhc (k c k' c' : Int) (w : World) :
  Calls Tryz.prog 151 #[.agg #[.int .i64 k,.int .i64 c],.agg #[.int .i64 k',.int .i64 c']] w fun e w' => e = .returned (.bool (lessB k c k' c'))∧Below w.heap.size w w':=by
 by_cases h1 : k < k'
 ·
  have HE:=hd_ (show lessB k c k' c' = true by simp [lessB,h1])
  go_enter Tryz.func151,Tryz.ntmps151
  go_wp2_with fail
  go_ret
  exact ⟨zqf (by rw [HE.out]),bl_⟩
 have h1' : decide (k < k') = false:=decide_eq_false h1
 cases h2 : (k == k')
 ·
  have HE:=hd_ (show lessB k c k' c' = false by simp only [beq_eq_false_iff_ne] at h2;simp [lessB,h1,h2])
  go_enter Tryz.func151,Tryz.ntmps151
  go_wp2_with fail
  go_ret
  exact ⟨zqf (by rw [HE.out]),bl_⟩
 by_cases h3 : c < c'
 ·
  have HE:=hd_ (show lessB k c k' c' = true by simp only [beq_iff_eq] at h2;simp [lessB,h2,h3])
  go_enter Tryz.func151,Tryz.ntmps151
  go_wp2_with fail
  go_ret
  exact ⟨zqf (by rw [HE.out]),bl_⟩
 have HE:=hd_ (show lessB k c k' c' = false by simp only [beq_iff_eq] at h2;simp [lessB,h2];omega)
 have h3' : decide (c < c') = false:=decide_eq_false h3
 go_enter Tryz.func151,Tryz.ntmps151
 go_wp2_with fail
 go_ret
 exact ⟨zqf (by rw [HE.out]),bl_⟩
set_option maxHeartbeats 1000000 in
theorem s_l02Less (k c k' c' : Int) (w : World) :
  Calls Tryz.prog 154 #[.agg #[.int .i64 k,.int .i64 c],.agg #[.int .i64 k',.int .i64 c']] w fun e w' => e = .returned (.bool (lessB k c k' c'))∧Below w.heap.size w w':=by
 by_cases h1 : k < k'
 ·
  have HE:=hd_ (show lessB k c k' c' = true by simp [lessB,h1])
  go_enter Tryz.func154,Tryz.ntmps154
  go_wp2_with fail
  go_ret
  exact ⟨zqf (by rw [HE.out]),bl_⟩
 have h1' : decide (k < k') = false:=decide_eq_false h1
 cases h2 : (k == k')
 ·
  have HE:=hd_ (show lessB k c k' c' = false by simp only [beq_eq_false_iff_ne] at h2;simp [lessB,h1,h2])
  go_enter Tryz.func154,Tryz.ntmps154
  go_wp2_with fail
  go_ret
  exact ⟨zqf (by rw [HE.out]),bl_⟩
 by_cases h3 : c < c'
 ·
  have HE:=hd_ (show lessB k c k' c' = true by simp only [beq_iff_eq] at h2;simp [lessB,h2,h3])
  go_enter Tryz.func154,Tryz.ntmps154
  go_wp2_with fail
  go_ret
  exact ⟨zqf (by rw [HE.out]),bl_⟩
 have HE:=hd_ (show lessB k c k' c' = false by simp only [beq_iff_eq] at h2;simp [lessB,h2];omega)
 have h3' : decide (c < c') = false:=decide_eq_false h3
 go_enter Tryz.func154,Tryz.ntmps154
 go_wp2_with fail
 go_ret
 exact ⟨zqf (by rw [HE.out]),bl_⟩
end Go.Proofs.YtdbmkfmenfcbiaaGreat
namespace Go.Proofs.YtdbmkfmenfcbiaaGreat
open Go.ChangeShapes Go.WideShapes Go.ChangeAt Go.RowKit Go.Deep
theorem zhu {P : Program} {w : World} {ops : Array Oper} {o : Oper} {a : Act} {K : Act → World → Prop} {Q : Exit → Act → World → Prop} {E : Prop} (hgd : o.guard = none) (s x : Operand) (t : TypeId)
  (ho : o.op = .call { callee:=.builtin .append,args:=#[s,x],argTypes:=#[t,t] })
  (e : TypeId) (i : TypeInfo) (ht : P.underlying t = some (.slice e)) (hi : P.info? e = some i)
  (A0 : Option Addr) (n c0 : Nat) (hn : n ≤ c0) (A : Option Addr) (c : Nat) (hs : a.eval s = .slice A0 n c0) (hx : a.eval x = .slice A 0 c)
  (h : K (a.put o.dst (.slice A0 n c0)) w) : if Region.wanted o (yielded ops a.tmps) = true then Oper.wp P o a w K Q else E:=by
 have hw : Region.wanted o (yielded ops a.tmps) = true:=by simp [Region.wanted,hgd]
 rw [if_pos hw]
 have hrun : (Builtin.append_ #[t,t] o.type #[.slice A0 n c0,.slice A 0 c]).run P w = .ok (.slice A0 n c0) w:=by
  cases A <;> cases A0 <;> simp [Builtin.append_,run_underlying ht,sizeOf,typeInfo,hi,Builtin.lenOf,Builtin.firstCells,loadCells,loadCellsFrom,storeCells,hn]
 unfold Oper.wp
 simp [execOp,ho,resolve,invoke,builtin,hs,hx,hrun,Result.andThen]
 exact h
theorem zji {P : Program} {w : World} {ops : Array Oper} {o : Oper} {a : Act} {K : Act → World → Prop} {Q : Exit → Act → World → Prop} {E : Prop} (hgd : o.guard = none) (s x : Operand) (t : TypeId)
  (ho : o.op = .call { callee:=.builtin .append,args:=#[s,x],argTypes:=#[t,t] })
  (B : Nat) (e : TypeId) (i : TypeInfo) (z : Value) (size bytes : Nat) (ht : P.underlying t = some (.slice e)) (hi : P.info? e = some i) (hz : i.zero = some z)
  (hsize : i.size = size) (hby : i.bytes = bytes) (hzs : z.cells.size = size) (hsz : 0 < size)
  (A0 : Option Addr) (c0 : Nat) (rows : List (List Value)) (n : Nat) (hn : n = rows.length) (hs : a.eval s = .slice A0 n c0) (how : Ow w B e size (.slice A0 n c0) rows)
  (A : Option Addr) (c : Nat) (rows2 : List (List Value)) (m : Nat) (hm : m = rows2.length) (hx : a.eval x = .slice A m c) (B2 : Nat) (hr : Rd w B2 size A rows2) (h1 : ∀ u ∈ rows2.flatten,u.oneCell' = true)
  (hlen : rows.length + rows2.length ≤ 4194304) (hbytes : bytes ≤ 4096) (hbase : B ≤ w.heap.size)
  (h : ∀ A' cap w',Ow w' B e size (.slice A' (n + m) cap) (rows ++ rows2) → Below B w w' → w.grownBy w' (Value.slice A0 n c0).ownBlock → K (a.put o.dst (.slice A' (n + m) cap)) w') : if Region.wanted o (yielded ops a.tmps) = true then Oper.wp P o a w K Q else E:=by
 subst hn
 subst hm
 obtain ⟨A1,cap1,hv,_,hcap,_⟩:=how.form
 simp only [Value.slice.injEq] at hv
 obtain ⟨rfl,_,rfl⟩:=hv
 by_cases hn : 0 < rows2.length
 rotate_left
 ·
  have h0 : rows2 = []:=List.eq_nil_of_length_eq_zero (by omega)
  subst h0
  exact zhu hgd s x t ho e i ht hi A0 rows.length c0 hcap A c hs hx (h A0 c0 w (by rw [List.append_nil];exact how) (Below.refl _ _) (World.grownBy.refl _ _))
 obtain ⟨b,off,rfl,hb,hc⟩:=hr.flat hsz hn
 refine step_append_lies w hgd s x t ho B e i z size bytes ht hi hz hsize hby hzs hsz (.slice A0 rows.length c0) rows.length rows.flatten hs how.2 ⟨b,off,none⟩ rows2.length c rows2.flatten hx (zxt rows2 size hr.1)
  (fun j u hu => by
   have:=hc j u hu
   rwa [show (⟨b,off,none⟩ : Addr).add j = ⟨b,off + j,none⟩ by unfold Addr.add;split <;> simp_all]) h1 hn (by simp only [maxLen];omega) (by
   have : (rows.length + rows2.length) * bytes ≤ 4194304 * 4096:=Nat.mul_le_mul hlen hbytes
   omega) hbase w.heap.size rfl ?_
 intro g cap w' hown hgr _ _
 refine h _ cap w' ⟨?_,?_⟩ ((Below.refl B w).grown hgr hbase (fun k e => (how.block k e).1)) hgr
 ·
  intro r hr'
  rcases List.mem_append.1 hr' with hr' | hr'
  ·
   exact how.1 r hr'
  exact hr.1 r hr'
 rw [List.length_append,List.flatten_append]
 exact hown
end Go.Proofs.YtdbmkfmenfcbiaaGreat
namespace Go.Proofs.YtdbmkfmenfcbiaaGreat
open Go.RowKit Go.Deep
theorem zhv {P : Program} {w : World} {ops : Array Oper} {rest : List Oper} {o : Oper} {a : Act} {Q : Exit → Act → World → Prop} (hgd : o.guard = none) (s x : Operand) (t : TypeId)
  (ho : o.op = .call { callee:=.builtin .append,args:=#[s,x],argTypes:=#[t,t] })
  (e : TypeId) (i : TypeInfo) (ht : P.underlying t = some (.slice e)) (hi : P.info? e = some i)
  (A0 : Option Addr) (n c0 : Nat) (hn : n ≤ c0) (A : Option Addr) (c : Nat) (hs : a.eval s = .slice A0 n c0) (hx : a.eval x = .slice A 0 c)
  (h : wpList P ops Q rest (a.put o.dst (.slice A0 n c0)) w) : wpList P ops Q (o :: rest) a w:=by
 refine wpList_plain hgd fun K hK => ?_
 have hrun : (Builtin.append_ #[t,t] o.type #[.slice A0 n c0,.slice A 0 c]).run P w = .ok (.slice A0 n c0) w:=by
  cases A <;> cases A0 <;> simp [Builtin.append_,run_underlying ht,sizeOf,typeInfo,hi,Builtin.lenOf,Builtin.firstCells,loadCells,loadCellsFrom,storeCells,hn]
 unfold Oper.wp
 simp [execOp,ho,resolve,invoke,builtin,hs,hx,hrun,Result.andThen]
 exact hK _ _ h
theorem zkb {P : Program} {w : World} {ops : Array Oper} {rest : List Oper} {o : Oper} {a : Act} {Q : Exit → Act → World → Prop} (hgd : o.guard = none) (s x : Operand) (t : TypeId)
  (ho : o.op = .call { callee:=.builtin .append,args:=#[s,x],argTypes:=#[t,t] })
  (B : Nat) (e : TypeId) (i : TypeInfo) (z : Value) (size bytes : Nat) (ht : P.underlying t = some (.slice e)) (hi : P.info? e = some i) (hz : i.zero = some z)
  (hsize : i.size = size) (hby : i.bytes = bytes) (hzs : z.cells.size = size) (hsz : 0 < size)
  (A0 : Option Addr) (c0 : Nat) (rows : List (List Value)) (n : Nat) (hn : n = rows.length) (hs : a.eval s = .slice A0 n c0) (how : Ow w B e size (.slice A0 n c0) rows)
  (A : Option Addr) (c : Nat) (rows2 : List (List Value)) (m : Nat) (hm : m = rows2.length) (hx : a.eval x = .slice A m c) (B2 : Nat) (hr : Rd w B2 size A rows2) (h1 : ∀ u ∈ rows2.flatten,u.oneCell' = true)
  (hlen : rows.length + rows2.length ≤ 4194304) (hbytes : bytes ≤ 4096) (hbase : B ≤ w.heap.size)
  (h : ∀ A' cap w',Ow w' B e size (.slice A' (n + m) cap) (rows ++ rows2) → Below B w w' → w.grownBy w' (Value.slice A0 n c0).ownBlock → wpList P ops Q rest (a.put o.dst (.slice A' (n + m) cap)) w') : wpList P ops Q (o :: rest) a w:=by
 subst hn
 subst hm
 obtain ⟨A1,cap1,hv,_,hcap,_⟩:=how.form
 simp only [Value.slice.injEq] at hv
 obtain ⟨rfl,_,rfl⟩:=hv
 by_cases hn : 0 < rows2.length
 rotate_left
 ·
  have h0 : rows2 = []:=List.eq_nil_of_length_eq_zero (by omega)
  subst h0
  exact zhv hgd s x t ho e i ht hi A0 rows.length c0 hcap A c hs hx (h A0 c0 w (by rw [List.append_nil];exact how) (Below.refl _ _) (World.grownBy.refl _ _))
 obtain ⟨b,off,rfl,hb,hc⟩:=hr.flat hsz hn
 refine wpList_append_lies w hgd s x t ho B e i z size bytes ht hi hz hsize hby hzs hsz (.slice A0 rows.length c0) rows.length rows.flatten hs how.2 ⟨b,off,none⟩ rows2.length c rows2.flatten hx (zxt rows2 size hr.1)
  (fun j u hu => by
   have:=hc j u hu
   rwa [show (⟨b,off,none⟩ : Addr).add j = ⟨b,off + j,none⟩ by unfold Addr.add;split <;> simp_all]) h1 hn (by simp only [maxLen];omega) (by
   have : (rows.length + rows2.length) * bytes ≤ 4194304 * 4096:=Nat.mul_le_mul hlen hbytes
   omega) hbase w.heap.size rfl ?_
 intro g cap w' hown hgr _ _
 refine h _ cap w' ⟨?_,?_⟩ ((Below.refl B w).grown hgr hbase (fun k e => (how.block k e).1)) hgr
 ·
  intro r hr'
  rcases List.mem_append.1 hr' with hr' | hr'
  ·
   exact how.1 r hr'
  exact hr.1 r hr'
 rw [List.length_append,List.flatten_append]
 exact hown
end Go.Proofs.YtdbmkfmenfcbiaaGreat
namespace Go.Proofs.YtdbmkfmenfcbiaaGreat
open Go.RowKit
/-! ### Places, sums -/
def notId (ch : Int) (c : Chan) : Bool:=c.Id != ch
def chanIx (cs : List Chan) (ch : Int) : Int:=match cs.findIdx? (fun c => !notId ch c) with | some i => (i : Int) | none => -1
theorem zyl {cs : List Chan} {ch : Int} (h : (cs.take cs.length).all (notId ch) = true) : chanIx cs ch = -1:=by
 rw [List.take_length] at h
 have : cs.findIdx? (fun c => !notId ch c) = none:=by
  rw [List.findIdx?_eq_none_iff]
  intro x hx
  simp [List.all_eq_true.1 h x hx]
 unfold chanIx
 rw [this]
theorem zga {cs : List Chan} {ch : Int} {k : Nat} (hk : k < cs.length) (h : (cs.take k).all (notId ch) = true) (hc : notId ch cs[k] = false) : chanIx cs ch = (k : Int):=by
 have : cs.findIdx? (fun c => !notId ch c) = some k:=by
  rw [List.findIdx?_eq_some_iff_getElem]
  refine ⟨hk,by simp [hc],fun j hj => ?_⟩
  have hm : cs[j] ∈ cs.take k:=by
   rw [List.mem_take_iff_getElem]
   exact ⟨j,by omega,rfl⟩
  simp [List.all_eq_true.1 h _ hm]
 unfold chanIx
 rw [this]
def outH (ch n : Int) (h : Htlc) : Int:=if (h.Out == ch) = true then n + h.AmtOut else n
def inH (ch n : Int) (h : Htlc) : Int:=if (h.In == ch) = true then n + h.AmtIn else n
def outC (ch n : Int) (c : Circle) : Int:=if (c.From == ch) = true then n + (c.Amt + c.Fee) else n
def inC (ch n : Int) (c : Circle) : Int:=if (c.To == ch) = true then n + c.Amt else n
def outOf (hs : List Htlc) (os : List Circle) (ch : Int) : Int:=os.foldl (outC ch) (hs.foldl (outH ch) 0)
def inOf (hs : List Htlc) (os : List Circle) (ch : Int) : Int:=os.foldl (inC ch) (hs.foldl (inH ch) 0)
structure Small (hs : List Htlc) (os : List Circle) : Prop where
 hl : hs.length ≤ 60
 ol : os.length ≤ 20
 h : ∀ k,(hk : k < hs.length) → (0 ≤ hs[k].AmtOut∧hs[k].AmtOut ≤ 1125899906842624)∧(0 ≤ hs[k].AmtIn∧hs[k].AmtIn ≤ 1125899906842624)
 o : ∀ k,(hk : k < os.length) → (0 ≤ os[k].Amt∧os[k].Amt ≤ 1125899906842624)∧(0 ≤ os[k].Fee∧os[k].Fee ≤ 1125899906842624)
theorem Small.outH_bd {hs : List Htlc} {os : List Circle} (s : Small hs os) (ch : Int) : ∀ k,k ≤ hs.length → 0 ≤ (hs.take k).foldl (outH ch) 0∧(hs.take k).foldl (outH ch) 0 ≤ (k : Int) * 1125899906842624
 | 0,_ => by simp
 | k + 1,hk => by
  obtain ⟨h1,h2⟩:=s.outH_bd ch k (by omega)
  obtain ⟨⟨a,b⟩,_⟩:=s.h k (by omega)
  rw [zqq hs _ _ (by omega)]
  unfold outH at h1 h2 ⊢
  split <;> omega
theorem Small.inH_bd {hs : List Htlc} {os : List Circle} (s : Small hs os) (ch : Int) : ∀ k,k ≤ hs.length → 0 ≤ (hs.take k).foldl (inH ch) 0∧(hs.take k).foldl (inH ch) 0 ≤ (k : Int) * 1125899906842624
 | 0,_ => by simp
 | k + 1,hk => by
  obtain ⟨h1,h2⟩:=s.inH_bd ch k (by omega)
  obtain ⟨_,a,b⟩:=s.h k (by omega)
  rw [zqq hs _ _ (by omega)]
  unfold inH at h1 h2 ⊢
  split <;> omega
theorem Small.outC_bd {hs : List Htlc} {os : List Circle} (s : Small hs os) (ch z : Int) (z0 : 0 ≤ z) : ∀ k,k ≤ os.length → 0 ≤ (os.take k).foldl (outC ch) z∧(os.take k).foldl (outC ch) z ≤ z + (k : Int) * 2251799813685248
 | 0,_ => by simp;omega
 | k + 1,hk => by
  obtain ⟨h1,h2⟩:=s.outC_bd ch z z0 k (by omega)
  obtain ⟨⟨a,b⟩,c,d⟩:=s.o k (by omega)
  rw [zqq os _ _ (by omega)]
  unfold outC at h1 h2 ⊢
  split <;> omega
theorem Small.inC_bd {hs : List Htlc} {os : List Circle} (s : Small hs os) (ch z : Int) (z0 : 0 ≤ z) : ∀ k,k ≤ os.length → 0 ≤ (os.take k).foldl (inC ch) z∧(os.take k).foldl (inC ch) z ≤ z + (k : Int) * 1125899906842624
 | 0,_ => by simp;omega
 | k + 1,hk => by
  obtain ⟨h1,h2⟩:=s.inC_bd ch z z0 k (by omega)
  obtain ⟨⟨a,b⟩,c,d⟩:=s.o k (by omega)
  rw [zqq os _ _ (by omega)]
  unfold inC at h1 h2 ⊢
  split <;> omega
theorem Small.out_bd {hs : List Htlc} {os : List Circle} (s : Small hs os) (ch : Int) : 0 ≤ outOf hs os ch∧outOf hs os ch ≤ 112589990684262400:=by
 obtain ⟨h1,h2⟩:=s.outH_bd ch hs.length (Nat.le_refl _)
 rw [List.take_length] at h1 h2
 obtain ⟨h3,h4⟩:=s.outC_bd ch _ h1 os.length (Nat.le_refl _)
 rw [List.take_length] at h3 h4
 have:=s.hl
 have:=s.ol
 unfold outOf
 omega
theorem Small.in_bd {hs : List Htlc} {os : List Circle} (s : Small hs os) (ch : Int) : 0 ≤ inOf hs os ch∧inOf hs os ch ≤ 112589990684262400:=by
 obtain ⟨h1,h2⟩:=s.inH_bd ch hs.length (Nat.le_refl _)
 rw [List.take_length] at h1 h2
 obtain ⟨h3,h4⟩:=s.inC_bd ch _ h1 os.length (Nat.le_refl _)
 rw [List.take_length] at h3 h4
 have:=s.hl
 have:=s.ol
 unfold inOf
 omega
/-! ### Parts -/
def twoB (cs : List Chan) (x y : Int) : Bool:=(x != y) && decide (0 ≤ chanIx cs x) && decide (0 ≤ chanIx cs y)
def htlcB (cs : List Chan) (h : Htlc) : Bool:=twoB cs h.In h.Out && amtB h.AmtIn && inB h.AmtOut 1 h.AmtIn && amtB h.Age
def circB (cs : List Chan) (c : Circle) : Bool:=twoB cs c.From c.To && inB c.Amt 1 1125899906842624 && amtB c.Fee
def hasB (l : List Int) (n : Int) : Bool:=l.any (· == n)
def keysOf (hs : List Htlc) (os : List Circle) : List Int:=hs.map Htlc.Key ++ os.map Circle.Key
def everyTo (k : Nat) (p : Nat → Bool) : Bool:=(List.range k).all p
theorem zjs (k : Nat) (p : Nat → Bool) : everyTo (k + 1) p = (everyTo k p && p k):=by
 unfold everyTo
 rw [List.range_succ,List.all_append]
 simp
theorem everyTo_iff {k : Nat} {p : Nat → Bool} : everyTo k p = true ↔ ∀ i,i < k → p i = true:=by
 simp [everyTo,List.all_eq_true]
theorem zwy {k i : Nat} {p : Nat → Bool} (hi : i < k) (h : p i = false) : everyTo k p = false:=by
 cases hu : everyTo k p
 ·
  rfl
 rw [everyTo_iff.1 hu i hi] at h
 cases h
def keyAt (ks : List Int) (i : Nat) : Bool:=match ks[i]? with | some k => inB k 1 1000000 && !hasB (ks.take i) k | none => true
theorem zpg {ks : List Int} {i : Nat} (h : i < ks.length) : keyAt ks i = (inB ks[i] 1 1000000 && !hasB (ks.take i) ks[i]):=by
 unfold keyAt
 rw [List.getElem?_eq_getElem h]
def partsB (cs : List Chan) (hs : List Htlc) (os : List Circle) : Bool:=hs.all (htlcB cs) && os.all (circB cs) && everyTo (keysOf hs os).length (keyAt (keysOf hs os))
theorem zjw {cs : List Chan} {hs : List Htlc} {os : List Circle} {k : Nat} (hk : k < hs.length) (h : htlcB cs hs[k] = false) : partsB cs hs os = false:=by
 unfold partsB
 rw [zyh hs _ hk h]
 rfl
theorem zku {cs : List Chan} {hs : List Htlc} {os : List Circle} {k : Nat} (hk : k < os.length) (h : circB cs os[k] = false) : partsB cs hs os = false:=by
 unfold partsB
 rw [zyh os _ hk h,Bool.and_false,Bool.false_and]
theorem zhf {cs : List Chan} {hs : List Htlc} {os : List Circle} {k : Nat} (hk : k < (keysOf hs os).length) (h : keyAt (keysOf hs os) k = false) : partsB cs hs os = false:=by
 unfold partsB
 rw [zwy hk h,Bool.and_false]
theorem zvs {cs : List Chan} {hs : List Htlc} {os : List Circle} (h : partsB cs hs os = true) (h60 : hs.length ≤ 60) (h20 : os.length ≤ 20) : Small hs os:=by
 simp only [partsB,Bool.and_eq_true] at h
 refine ⟨h60,h20,fun k hk => ?_,fun k hk => ?_⟩
 ·
  have hh:=List.all_eq_true.1 h.1.1 _ (List.getElem_mem hk)
  simp only [htlcB,Bool.and_eq_true,zja,zjj] at hh
  omega
 have hh:=List.all_eq_true.1 h.1.2 _ (List.getElem_mem hk)
 simp only [circB,Bool.and_eq_true,zja,zjj] at hh
 omega
/-! ### The channels -/
def chB (hs : List Htlc) (os : List Circle) (c : Chan) : Bool :=
 isChanB c.Id && amtB c.Local && amtB c.Remote && amtB c.Base && inB c.Ppm 0 1000000 && inB c.Score (-100) 100 && amtB c.Size && (c.Size == c.Local + c.Remote + outOf hs os c.Id + inOf hs os c.Id)
def chanOk (cs : List Chan) (hs : List Htlc) (os : List Circle) (i : Nat) : Bool :=
 match cs[i]? with
 | some c => chB hs os c && (decide (i = 0) || match cs[i - 1]? with | some p => decide (p.Id < c.Id) | none => false)
 | none => true
theorem zvo {cs : List Chan} {hs : List Htlc} {os : List Circle} (hk : 0 < cs.length) : chanOk cs hs os 0 = chB hs os cs[0]:=by
 unfold chanOk
 rw [List.getElem?_eq_getElem hk]
 simp
theorem zvb {cs : List Chan} {hs : List Htlc} {os : List Circle} {j : Nat} (hk : j + 1 < cs.length) (hj : j < cs.length) : chanOk cs hs os (j + 1) = (chB hs os cs[j + 1] && decide (cs[j].Id < cs[j + 1].Id)):=by
 have e2 : cs[j + 1 - 1]? = some cs[j]:=List.getElem?_eq_getElem hj
 unfold chanOk
 rw [List.getElem?_eq_getElem hk,e2]
 simp
def bookB (bt bn bw : Int) (cs : List Chan) (hs : List Htlc) (os : List Circle) : Bool :=
 amtB bt && amtB bw && inB bn 1 1125899906842624 && decide (cs.length ≤ 20) && decide (hs.length ≤ 60) && decide (os.length ≤ 20) && partsB cs hs os && everyTo cs.length (chanOk cs hs os)
structure BookFacts (bt bn bw : Int) (cs : List Chan) (hs : List Htlc) (os : List Circle) : Prop where
 t : 0 ≤ bt∧bt ≤ 1125899906842624
 w : 0 ≤ bw∧bw ≤ 1125899906842624
 n : 1 ≤ bn∧bn ≤ 1125899906842624
 cl : cs.length ≤ 20
 small : Small hs os
 parts : partsB cs hs os = true
 ch : ∀ k,(hk : k < cs.length) → chB hs os cs[k] = true
theorem zxw {bt bn bw : Int} {cs : List Chan} {hs : List Htlc} {os : List Circle} (h : bookB bt bn bw cs hs os = true) : BookFacts bt bn bw cs hs os:=by
 simp only [bookB,Bool.and_eq_true,zja,zjj,decide_eq_true_eq] at h
 obtain ⟨⟨⟨⟨⟨⟨⟨h1,h2⟩,h3⟩,h4⟩,h5⟩,h6⟩,h7⟩,h8⟩:=h
 refine ⟨h1,h2,h3,h4,zvs h7 h5 h6,h7,fun k hk => ?_⟩
 have:=everyTo_iff.1 h8 k hk
 cases k with
 | zero => rwa [zvo hk] at this
 | succ j =>
  rw [zvb hk (by omega),Bool.and_eq_true] at this
  exact this.1
theorem zpx (lo y : Nat) (w : World) (hl : lo < 18446744073709551616) (hy : y < 18446744073709551616) (h1 : 1 ≤ y) :
  Calls Tryz.prog 171 #[.int .u64 0,.int .u64 lo,.int .u64 y] w fun e w' => e = .returned (.tuple #[.int .u64 ((lo / y : Nat) : Int),.int .u64 ((lo % y : Nat) : Int)])∧Below w.heap.size w w':=by
 have D:=Mul64.wrapN (lo / y) (Nat.lt_of_le_of_lt (Nat.div_le_self _ _) hl)
 rw [Int.natCast_ediv] at D
 have HD:=hd_ D
 clear D
 go_enter Tryz.func171,Tryz.ntmps171
 go_wp2_with fail
 go_quiet (fail)
 go_wp2_with fail
 go_ret2
 refine ⟨by simp [HD.out],?_⟩
 exact bl_
theorem bits_Lead (y s : Nat) (w : World) (hy : y < 18446744073709551616) (hs : Lib.bitLen y + s = 64) :
  Calls Tryz.prog 172 #[.int .u64 y] w fun e w' => e = .returned (.int .i64 s)∧w = w':=by
 refine (zwk _ _ (by omega) (by omega)).mono ?_
 rintro e w' ⟨rfl,rfl⟩
 rw [Int.toNat_natCast]
 exact ⟨zxc (by omega),rfl⟩
set_option maxRecDepth 100000 in
set_option maxHeartbeats 4000000 in
theorem zpy (hi lo y s : Nat) (w : World) (hl : lo < 18446744073709551616) (hy : y < 18446744073709551616) (h0 : 1 ≤ hi) (h1 : hi < y) (hs : Lib.bitLen y + s = 64) :
  Calls Tryz.prog 171 #[.int .u64 hi,.int .u64 lo,.int .u64 y] w fun e w' => e = .returned (.tuple #[.int .u64 (((hi * 18446744073709551616 + lo) / y : Nat) : Int),.int .u64 (((hi * 18446744073709551616 + lo) % y : Nat) : Int)])∧w = w':=by
 have HS:=hd_ hs
 clear hs
 obtain ⟨v,n1,n0,U,u,d1,d0,q,r,m,Q1,R1,q2,r2,m2,Q0,R0,F⟩:=div_frame hi lo y s hl hy h1 HS
 have hs1:=F.hs1
 have hv1:=F.hv1
 have hv2:=F.hv2
 have n0l:=F.n0l
 have n1l:=F.n1l
 have n1u:=F.n1u
 have d1l:=F.d1l
 have d0l:=F.d0l
 have hv0:=F.hv0
 have hU1:=F.hU1
 have ul:=F.ul
 have mU:=F.mU
 have rl:=F.rl
 have ql:=F.ql
 have Q1l:=F.Q1l
 have U2:=F.U2
 have mR:=F.mR
 have rl2:=F.rl2
 have ql2:=F.ql2
 have Q0l:=F.Q0l
 have H1:=hd_ F.E1
 have H2:=hd_ F.E2
 have H3:=hd_ F.E3
 have H4:=hd_ F.E4
 have H5:=hd_ F.E5
 have H6:=hd_ F.E6
 have H7:=hd_ F.E7
 have H8:=hd_ F.E8
 have H9:=hd_ F.E9
 have HV:=hd_ F.hv
 have HDS:=hd_ F.DS
 have H10:=hd_ F.E10
 have H11:=hd_ F.E11
 have HR:=hd_ F.rU
 have H12:=hd_ F.E12
 have HQ1:=hd_ F.hQ1
 have HDT:=hd_ F.DT
 have H13:=hd_ F.E13
 have H14:=hd_ F.E14
 have HR2:=hd_ F.rR
 have H15:=hd_ F.E15
 have HQ0:=hd_ F.hQ0
 have H16:=hd_ F.E16
 have H17:=hd_ F.E17
 clear F
 go_enter Tryz.func171,Tryz.ntmps171
 go_wp2_with fail
 refine (bits_Lead _ s _ (by omega) HS).mono ?_
 rintro e w' ⟨rfl,rfl⟩
 go_upto_region 15 with (fail)
 simp only [H1.out,H2.out,H3.out,H4.out,H5.out,H6.out,H7.out,H8.out,H9.out]
 have E10:=H10.out
 have E11:=H11.out
 go_upto_block 0 with (fail)
 go_cut [15] from 67 to 85 (fun q' wx => q' = .int .u64 (Q1 : Int)∧wx = w)
 case first =>
  go_wp2_with fail
  go_loopw [15,16] (fun qv rv wr => ∃ q r : Nat,qv = .int .u64 q∧rv = .int .u64 r∧Hid (DigAt v n1 U d1 q r)∧q ≤ 4294967297∧r < 4294967296∧wr = w) (fun qv _ _ => (intOf qv).toNat)
  case atStart => exact ⟨q,r,rfl,by have:=HR.out;go_num,HDS,by omega,by omega,rfl⟩
  case round =>
   obtain ⟨q,r,rfl,rfl,HD,qb,rb,rfl⟩:=hrel
   have HM:=hd_ (rfl : q * n0 = q * n0)
   by_cases hbig : 4294967296 ≤ q
   ·
    obtain ⟨q1,D2⟩:=zwx HV d1l hv0 hU1 HD (.inl hbig)
    have hb : decide ((4294967296 : Int) ≤ (q : Int)) = true:=decide_eq_true (by omega)
    have HD2:=hd_ D2
    clear D2
    have HB:=hd_ hbig
    clear hbig
    by_cases hr : 4294967296 ≤ r + n1
    ·
     have HE:=hd_ (zvd HV n0l hv0 HD2 (by have:=HB.out;omega) hr)
     have hd : decide ((4294967296 : Int) ≤ (r : Int) + (n1 : Int)) = true:=decide_eq_true (by omega)
     have HR':=hd_ hr
     clear hr
     go_wp2_with fail
     go_meet
     case rel => exact ⟨by have:=HE.out;rw [HQ1.out] at this;rw [← this];go_num,rfl⟩
    have hd : decide ((4294967296 : Int) ≤ (r : Int) + (n1 : Int)) = false:=decide_eq_false (by omega)
    have HR':=hd_ hr
    clear hr
    go_wp2_with fail
    go_roundw
    case rel => exact ⟨q - 1,r + n1,by go_num,by go_num,HD2,by omega,by have:=HR'.out;omega,trivial⟩
    case measure => simp [intOf];omega
   have hq0 : q * n0 ≤ 4294967295 * 4294967295:=Nat.mul_le_mul (by omega) (by omega)
   have hm : IntKind.u64.wrap ((q : Int) * (n0 : Int)) = ((q * n0 : Nat) : Int):=by rw [Mul64.mulN,Mul64.wrapN _ (by omega)]
   have YES:=fun h => zwx HV d1l hv0 hU1 HD (.inr h)
   have NO:=fun h => zmx HV hv0 HD h
   rw [HQ1.out] at NO
   generalize q * n0 = p at hm hq0 YES NO
   clear HM
   have hbig2 : decide ((4294967296 : Int) ≤ (q : Int)) = false:=decide_eq_false (by omega)
   by_cases ht : 4294967296 * r + d1 < p
   rotate_left
   ·
    have HE:=hd_ (NO ht)
    clear YES NO
    go_wp2_with fail
    go_meet
    case rel => exact ⟨by rw [HE.out],rfl⟩
   obtain ⟨q1,D2⟩:=YES ht
   have HD2:=hd_ D2
   clear D2 YES NO
   have HB:=hd_ hbig
   clear hbig
   by_cases hr : 4294967296 ≤ r + n1
   ·
    have HE:=hd_ (zvd HV n0l hv0 HD2 (by have:=HB.out;omega) hr)
    have hd : decide ((4294967296 : Int) ≤ (r : Int) + (n1 : Int)) = true:=decide_eq_true (by omega)
    have HR':=hd_ hr
    clear hr
    go_wp2_with fail
    go_meet
    case rel => exact ⟨by have:=HE.out;rw [HQ1.out] at this;rw [← this];go_num,rfl⟩
   have hd : decide ((4294967296 : Int) ≤ (r : Int) + (n1 : Int)) = false:=decide_eq_false (by omega)
   have HR':=hd_ hr
   clear hr
   go_wp2_with fail
   go_roundw
   case rel => exact ⟨q - 1,r + n1,by go_num,by go_num,HD2,by omega,by have:=HR'.out;omega,trivial⟩
   case measure => simp [intOf];omega
 case rest =>
  obtain ⟨rfl,rfl⟩:=hcut
  clear E10 E11
  go_upto_region 22 with (fail)
  rw [H12.out]
  have E13:=H13.out
  have E14:=H14.out
  go_upto_block 2 with (fail)
  go_cut [18] from 102 to 120 (fun q' wx => q' = .int .u64 (Q0 : Int)∧wx = wc)
  case first =>
   go_wp2_with fail
   go_loopw [18,16] (fun qv rv wr => ∃ q r : Nat,qv = .int .u64 q∧rv = .int .u64 r∧Hid (DigAt v n1 R1 d0 q r)∧q ≤ 4294967297∧r < 4294967296∧wr = wc) (fun qv _ _ => (intOf qv).toNat)
   case atStart => exact ⟨q2,r2,rfl,by have:=HR2.out;go_num,HDT,by omega,by omega,rfl⟩
   case round =>
    obtain ⟨q,r,rfl,rfl,HD,qb,rb,rfl⟩:=hrel
    have HM:=hd_ (rfl : q * n0 = q * n0)
    by_cases hbig : 4294967296 ≤ q
    ·
     obtain ⟨q1,D2⟩:=zwx HV d0l hv0 U2 HD (.inl hbig)
     have hb : decide ((4294967296 : Int) ≤ (q : Int)) = true:=decide_eq_true (by omega)
     have HD2:=hd_ D2
     clear D2
     have HB:=hd_ hbig
     clear hbig
     by_cases hr : 4294967296 ≤ r + n1
     ·
      have HE:=hd_ (zvd HV n0l hv0 HD2 (by have:=HB.out;omega) hr)
      have hd : decide ((4294967296 : Int) ≤ (r : Int) + (n1 : Int)) = true:=decide_eq_true (by omega)
      have HR':=hd_ hr
      clear hr
      go_wp2_with fail
      go_meet
      case rel => exact ⟨by have:=HE.out;rw [HQ0.out] at this;rw [← this];go_num,rfl⟩
     have hd : decide ((4294967296 : Int) ≤ (r : Int) + (n1 : Int)) = false:=decide_eq_false (by omega)
     have HR':=hd_ hr
     clear hr
     go_wp2_with fail
     go_roundw
     case rel => exact ⟨q - 1,r + n1,by go_num,by go_num,HD2,by omega,by have:=HR'.out;omega,trivial⟩
     case measure => simp [intOf];omega
    have hq0 : q * n0 ≤ 4294967295 * 4294967295:=Nat.mul_le_mul (by omega) (by omega)
    have hm : IntKind.u64.wrap ((q : Int) * (n0 : Int)) = ((q * n0 : Nat) : Int):=by rw [Mul64.mulN,Mul64.wrapN _ (by omega)]
    have YES:=fun h => zwx HV d0l hv0 U2 HD (.inr h)
    have NO:=fun h => zmx HV hv0 HD h
    rw [HQ0.out] at NO
    generalize q * n0 = p at hm hq0 YES NO
    clear HM
    have hbig2 : decide ((4294967296 : Int) ≤ (q : Int)) = false:=decide_eq_false (by omega)
    by_cases ht : 4294967296 * r + d0 < p
    rotate_left
    ·
     have HE:=hd_ (NO ht)
     clear YES NO
     go_wp2_with fail
     go_meet
     case rel => exact ⟨by rw [HE.out],rfl⟩
    obtain ⟨q1,D2⟩:=YES ht
    have HD2:=hd_ D2
    clear D2 YES NO
    have HB:=hd_ hbig
    clear hbig
    by_cases hr : 4294967296 ≤ r + n1
    ·
     have HE:=hd_ (zvd HV n0l hv0 HD2 (by have:=HB.out;omega) hr)
     have hd : decide ((4294967296 : Int) ≤ (r : Int) + (n1 : Int)) = true:=decide_eq_true (by omega)
     have HR':=hd_ hr
     clear hr
     go_wp2_with fail
     go_meet
     case rel => exact ⟨by have:=HE.out;rw [HQ0.out] at this;rw [← this];go_num,rfl⟩
    have hd : decide ((4294967296 : Int) ≤ (r : Int) + (n1 : Int)) = false:=decide_eq_false (by omega)
    have HR':=hd_ hr
    clear hr
    go_wp2_with fail
    go_roundw
    case rel => exact ⟨q - 1,r + n1,by go_num,by go_num,HD2,by omega,by have:=HR'.out;omega,trivial⟩
    case measure => simp [intOf];omega
  case rest =>
   obtain ⟨rfl,rfl⟩:=hcut
   clear E13 E14
   go_wp2_with fail
   simp only [H15.out,H16.out]
   go_ret2
   refine ⟨?_,rfl⟩
   rw [H17.out]
   simp
theorem bits_Div64 (hi lo y : Nat) (w : World) (hl : lo < 18446744073709551616) (hy : y < 18446744073709551616) (h1 : hi < y) :
  Calls Tryz.prog 171 #[.int .u64 hi,.int .u64 lo,.int .u64 y] w fun e w' => e = .returned (.tuple #[.int .u64 (((hi * 18446744073709551616 + lo) / y : Nat) : Int),.int .u64 (((hi * 18446744073709551616 + lo) % y : Nat) : Int)])∧Below w.heap.size w w':=by
 by_cases h0 : hi = 0
 ·
  subst h0
  refine (zpx lo y w hl hy (by omega)).mono fun e w' h => ⟨?_,h.2⟩
  rw [h.1,Nat.zero_mul,Nat.zero_add]
 have hb:=zyk y (by omega) (by omega)
 rw [Int.toNat_natCast] at hb
 refine (zpy hi lo y (64 - Lib.bitLen y) w hl hy (by omega) h1 (by omega)).mono fun e w' h => ⟨h.1,?_⟩
 rw [← h.2]
 exact Below.refl _ _
def feeG (g : Gain) : Bool:=amtB g.Fees
def feesTo (l : List Gain) : Int:=l.foldl (fun s g => s + g.Fees) 0
def gainSum (l : List Gain) : Int:=if l.all feeG = true∧feesTo l ≤ 1125899906842624 then feesTo l else 0
theorem zyo (l : List Gain) {k : Nat} (hk : k < l.length) : feesTo (l.take (k + 1)) = feesTo (l.take k) + l[k].Fees:=zqq l _ _ hk
theorem fees_foldl (l : List Gain) (c : Int) : l.foldl (fun s g => s + g.Fees) c = c + feesTo l:=by
 induction l generalizing c with
 | nil => simp [feesTo]
 | cons g l ih => simp only [feesTo,List.foldl_cons];rw [ih,ih (0 + g.Fees)];omega
theorem zmz {l : List Gain} (h : l.all feeG = true) : 0 ≤ feesTo l:=by
 induction l with
 | nil => simp [feesTo]
 | cons g l ih =>
  simp only [List.all_cons,Bool.and_eq_true] at h
  have:=ih h.2
  have h1:=(zja.1 h.1).1
  have e : feesTo (g :: l) = g.Fees + feesTo l:=by
   show (g :: l).foldl _ _ = _
   rw [List.foldl_cons,fees_foldl];omega
  omega
def GsRel (l : List Gain) (k : Nat) (s : Int) : Prop:=(l.take k).all feeG = true∧0 ≤ s∧s ≤ 2251799813685248∧(s = feesTo (l.take k) ∨ (1125899906842624 < s∧1125899906842624 < feesTo (l.take k)))
theorem GsRel.small {l : List Gain} {k : Nat} {s : Int} (h : GsRel l k s) (hk : k < l.length) (ho : feeG l[k] = true) (hs : s ≤ 1125899906842624) : GsRel l (k + 1) (s + l[k].Fees):=by
 obtain ⟨h1,h2,h3,h4⟩:=h
 obtain ⟨o1,o2⟩:=zja.1 ho
 refine ⟨by rw [zxr l feeG hk,h1,ho];rfl,by omega,by omega,?_⟩
 rw [zyo l hk]
 left
 omega
theorem GsRel.great {l : List Gain} {k : Nat} {s : Int} (h : GsRel l k s) (hk : k < l.length) (ho : feeG l[k] = true) (hs : 1125899906842624 < s) : GsRel l (k + 1) s:=by
 obtain ⟨h1,h2,h3,h4⟩:=h
 obtain ⟨o1,o2⟩:=zja.1 ho
 refine ⟨by rw [zxr l feeG hk,h1,ho];rfl,h2,h3,?_⟩
 rw [zyo l hk]
 right
 omega
theorem GsRel.yes {l : List Gain} {s : Int} (h : GsRel l l.length s) (hs : amtB s = true) : s = gainSum l:=by
 obtain ⟨h1,h2,h3,h4⟩:=h
 obtain ⟨o1,o2⟩:=zja.1 hs
 rw [List.take_length] at h1 h4
 unfold gainSum
 rw [if_pos ⟨h1,by omega⟩]
 omega
theorem GsRel.no {l : List Gain} {s : Int} (h : GsRel l l.length s) (hs : amtB s = false) : 0 = gainSum l:=by
 obtain ⟨h1,h2,h3,h4⟩:=h
 have o : ¬ (0 ≤ s∧s ≤ 1125899906842624):=fun hh => by rw [zja.2 hh] at hs;cases hs
 rw [List.take_length] at h1 h4
 unfold gainSum
 rw [if_neg (by omega)]
theorem gainSum_bad {l : List Gain} {k : Nat} (hk : k < l.length) (h : feeG l[k] = false) : 0 = gainSum l:=by
 unfold gainSum
 rw [if_neg (fun hh => by rw [zyh l feeG hk h] at hh;cases hh.1)]
set_option maxHeartbeats 1000000 in
theorem i_GainSum (l : List Gain) (A : Option Addr) (cap : Nat) (w : World) (hl : l.length ≤ 1048576) (hr : Rd w w.heap.size 4 A (l.map Gain.cells)) :
  Calls Tryz.prog 20 #[.slice A l.length cap] w fun e w' => e = .returned (.int .i64 (gainSum l))∧Below w.heap.size w w':=by
 have HR:=hd_ hr
 clear hr
 go_enter Tryz.func20,Tryz.ntmps20
 go_wp2_with fail
 go_loopw [3,10] (fun n i wr => ∃ (k : Nat) (s : Int),k ≤ l.length∧i = .int .i64 k∧n = .int .i64 s∧GsRel l k s∧Below w.heap.size w wr) (fun _ i _ => l.length - (intOf i).toNat)
 case atStart => exact ⟨0,0,Nat.zero_le _,rfl,rfl,⟨rfl,by omega,by omega,.inl rfl⟩,Below.refl _ _⟩
 case round =>
  obtain ⟨k,s,hk,rfl,rfl,hrel,hbw⟩:=hrel
  have hbz:=hbw.size
  have s1:=hrel.2.1
  have s2:=hrel.2.2.1
  have HG:=hd_ hrel
  clear hrel
  by_cases hlt : k < l.length
  ·
   obtain ⟨b,off,rfl,hbB,c0,c1,c2,c3⟩:=Gain.rd (HR.out.below hbw) hlt
   cases ho : feeG l[k]
   ·
    have h1 : amtB l[k].Fees = false:=ho
    have HO:=hd_ ho
    clear ho
    go_wp2_with (go_at_call 50;refine (zqo _ _).mono ?_;rintro e w' ⟨rfl,rfl⟩)
    go_ret
    exact ⟨zxc (gainSum_bad hlt HO.out),bl_⟩
   have h1 : amtB l[k].Fees = true:=ho
   obtain ⟨o1,o2⟩:=zja.1 h1
   have HO:=hd_ ho
   clear ho
   by_cases hs : s ≤ 1125899906842624
   ·
    go_wp2_with (go_at_call 50;refine (zqo _ _).mono ?_;rintro e w' ⟨rfl,rfl⟩)
    go_roundw
    case rel => exact ⟨k + 1,_,by omega,by go_num,rfl,HG.out.small hlt HO.out hs,bl_⟩
    case measure => simp [intOf];omega
   go_wp2_with (go_at_call 50;refine (zqo _ _).mono ?_;rintro e w' ⟨rfl,rfl⟩)
   go_roundw
   case rel => exact ⟨k + 1,_,by omega,by go_num,rfl,HG.out.great hlt HO.out (by omega),bl_⟩
   case measure => simp [intOf];omega
  obtain rfl : k = l.length:=by omega
  cases hs : amtB s
  ·
   go_wp2_with fail
   refine (i_amt_no _ _ hs).mono ?_
   rintro e w1 ⟨rfl,rfl⟩
   go_wp2_with fail
   go_ret
   exact ⟨zxc (HG.out.no hs),hbw⟩
  go_wp2_with fail
  refine (zgq _ _ hs).mono ?_
  rintro e w1 ⟨rfl,rfl⟩
  go_wp2_with fail
  go_ret
  exact ⟨zxc (HG.out.yes hs),hbw⟩

end Go.Proofs.YtdbmkfmenfcbiaaGreat
namespace Go.Proofs.YtdbmkfmenfcbiaaGreat
open Go.RowKit Go.Sort Go.Shelf Go.Lib
instance : Inhabited Gain:=⟨⟨0,0,0,0⟩⟩
theorem zgk {w : World} {g n : Nat} {os : Array Obj} {cur : Array Value} {e : TypeId} {fr : Nat × Nat} (d : Array Value) (hb : w.heap[g]? = some (.cells cur e fr)) :
  (grow (putRow id (Sort.ahead w n) g 0 d) os).heap[g]? = some (.cells (putCells id 0 d cur) e fr):=by
 have hg : g < w.heap.size:=(gz_ hb).1
 rw [heap_grow_old _ _ (by simpa using hg)]
 simp [putRow,mapBlock,Sort.ahead,Array.getElem?_modify,hb,onCells]
theorem zyp {w : World} {g n : Nat} {os : Array Obj} (d : Array Value) : w.grownBy (grow (putRow id (Sort.ahead w n) g 0 d) os) (some g):=by
 refine ⟨rfl,rfl,rfl,by simp,fun k hk hne => ?_⟩
 rw [heap_grow_old _ _ (by simpa using hk)]
 have : g ≠ k:=fun e => hne (by rw [e])
 simp [putRow,mapBlock,Sort.ahead,Array.getElem?_modify,this]
theorem ztp (cur ts : Array Value) (h : ts.size ≤ cur.size) : (putCells id 0 ts cur).toList.take ts.size = ts.toList:=by
 apply List.ext_getElem?
 intro j
 by_cases hj : j < ts.size
 ·
  rw [List.getElem?_take_of_lt hj,Array.getElem?_toList]
  simp [putCells,hj,show j < cur.size by omega]
 rw [List.getElem?_take_eq_none (by omega),List.getElem?_eq_none (by simp;omega)]
theorem zhm {α : Type} [Inhabited α] (enc : α → List Value) (k : Nat) (hk : ∀ x,(enc x).length = k) (hk0 : 0 < k) (d : Array α) : (flatK enc k d).toList = (d.toList.map enc).flatten:=by
 have hu : ∀ r ∈ d.toList.map enc,r.length = k:=fun r hr => by
  obtain ⟨x,_,rfl⟩:=List.mem_map.1 hr
  exact hk x
 have hl : (d.toList.map enc).flatten.length = d.size * k:=by rw [zxt _ k hu,List.length_map,Array.length_toList]
 apply List.ext_getElem?
 intro t
 by_cases ht : t < d.size * k
 ·
  have h1 : t / k < d.size:=Nat.div_lt_of_lt_mul (by rw [Nat.mul_comm];exact ht)
  have h2 : t % k < k:=Nat.mod_lt _ hk0
  have h3 : (d.toList.map enc)[t / k]? = some (enc d[t / k]!):=by
   rw [List.getElem?_map,Array.getElem?_toList,Array.getElem?_eq_getElem h1,getElem!_pos d (t / k) h1]
   rfl
  have h4:=zqw _ k hu (t / k) (t % k) _ h3 h2
  have h5 : t / k * k + t % k = t:=by rw [Nat.mul_comm];exact Nat.div_add_mod t k
  rw [h5] at h4
  rw [h4]
  have h6:=get_flatK enc k d t ht
  rw [Array.getElem?_toList,Array.getElem?_eq_getElem (by simpa using ht)]
  rw [getElem!_pos _ t (by simpa using ht)] at h6
  rw [h6,List.getElem?_eq_getElem (by rw [hk];exact h2),getElem!_pos _ _ (by rw [hk];exact h2)]
 rw [List.getElem?_eq_none (by rw [Array.length_toList,size_flatK];omega),List.getElem?_eq_none (by rw [hl];omega)]
theorem zyq {α : Type} [Inhabited α] (enc : α → List Value) (k : Nat) {w : World} {g : Nat} {cur : Array Value} {e : TypeId} {d : Array α} (hb : w.heap[g]? = some (.cells cur e (0,0))) (ht : cur.toList.take (d.size * k) = (flatK enc k d).toList) : HoldsK enc k w g 0 d:=by
 intro j hj
 have hj' : j < d.size * k:=by simpa using hj
 refine ⟨?_,by simp [World.frozen?,hb]⟩
 have h1 : (cur.toList.take (d.size * k))[j]? = (flatK enc k d).toList[j]?:=by rw [ht]
 rw [List.getElem?_take_of_lt hj'] at h1
 simp only [World.cell?,hb,Nat.zero_add]
 simp only [Option.isSome_none,Bool.false_eq_true,if_false]
 rw [← Array.getElem?_toList,h1,Array.getElem?_toList,Array.getElem?_eq_getElem hj,getElem!_pos _ j hj]
 rfl
def ltG (a b : Gain) : Bool:=decide (a.Ch < b.Ch)
theorem swo_ltG : SWO ltG where
 irrefl x:=by simp [ltG]
 trans x y z h1 h2:=by simp only [ltG,decide_eq_true_eq] at *;omega
 ntrans x y z h1 h2:=by simp only [ltG,decide_eq_false_iff_not] at *;omega
theorem perm_list {d d' : Array Gain} (h : PermIn 0 d.size d d') : d'.toList.Perm d.toList∧d'.size = d.size:=by
 obtain ⟨h1,_,h3⟩:=h
 refine ⟨?_,h1⟩
 have e1 : d'.extract 0 d.size = d':=by rw [← h1];simp
 have e2 : d.extract 0 d.size = d:=by simp
 rw [e1,e2] at h3
 exact h3
theorem sorted_list {d : Array Gain} {n : Nat} (hn : d.size = n) (h : SortedIn ltG 0 n d) : d.toList.Pairwise fun a b => a.Ch ≤ b.Ch:=by
 rw [List.pairwise_iff_getElem]
 intro i j hi hj hij
 have hi' : i < d.size:=by simpa using hi
 have hj' : j < d.size:=by simpa using hj
 have:=h i j (Nat.zero_le _) hij (by omega)
 rw [getElem!_pos d j hj',getElem!_pos d i hi'] at this
 simp only [ltG,decide_eq_false_iff_not] at this
 simp only [Array.getElem_toList]
 omega
theorem i_GainsLess (blk off c Bs size : Nat) (W : World) (G : Nat → Int) (hs : W.cell? ⟨Bs,0,none⟩ = some (.slice (some ⟨blk,off,none⟩) size c))
  (hc : ∀ t,t < size → W.cell? ⟨blk,off + t * 4,none⟩ = some (.int .i64 (G t))) (i j : Nat) (hi : i < size) (hj : j < size) (_hsz : size < 4611686018427387904) :
  Calls Tryz.prog 37 #[.int .i64 i,.int .i64 j,.pointer (some ⟨Bs,0,none⟩)] W fun e w' => e = .returned (.bool (decide (G i < G j)))∧∃ q,w' = W.drewN q:=by
 have ci:=hc i hi
 have cj:=hc j hj
 go_enter Tryz.func37,Tryz.ntmps37
 go_wp2
 go_quiet (fail)
 go_wp2
 go_ret
 exact ⟨rfl,nq,rfl⟩
noncomputable def svT : TypeInfo:=(Tryz.prog.info? 24).get (by kernel_rfl)
noncomputable def svE : TypeInfo:=(Tryz.prog.info? 79).get (by kernel_rfl)
theorem svK (n : Nat) (h2 : 2 ≤ n) : Lib.swapperK n svE 25 = 9:=by
 have a : svE.hasPointers = false:=by kernel_rfl
 have b : svE.bytes = 32:=by kernel_rfl
 have c : (n == 0) = false:=by simp;omega
 have d : (n == 1) = false:=by simp;omega
 simp [Lib.swapperK,a,b,c,d]
set_option maxHeartbeats 2000000 in
theorem sort_two (blk off c Bs : Nat) (d : Array Gain) (h2 : 2 ≤ d.size) (hsz : d.size < 4611686018427387904) (w : World) (hH : HoldsK Gain.cells 4 w blk off d) (hblk : blk < w.heap.size)
  (hBs : w.cell? ⟨Bs,0,none⟩ = some (.slice (some ⟨blk,off,none⟩) d.size c)) (hB1 : Bs < w.heap.size) (hB2 : Bs ≠ blk) :
  Calls Tryz.prog 36 #[.iface 24 (.slice (some ⟨blk,off,none⟩) d.size c),.func (.func 37) #[] #[.pointer (some ⟨Bs,0,none⟩)]] w fun e w' =>
   e = .returned (.tuple #[])∧∃ d' n os,PermIn 0 d.size d d'∧SortedIn ltG 0 d.size d'∧w' = grow (putRowK Gain.cells 4 (Sort.ahead w n) blk off d') os:=by
 have hless : LessReadsK Tryz.prog 37 #[.pointer (some ⟨Bs,0,none⟩)] Gain.cells 4 ltG blk off d.size w:=by
  intro m os dk hs i j hi hj
  have e : sortWorldK Gain.cells 4 w blk off m dk os = putRowK Gain.cells 4 (grow (Sort.ahead w m) os) blk off dk:=by
   unfold sortWorldK;rw [putRowK_grow _ _ (Sort.ahead w m) _ blk off _ hblk]
  have hHg : HoldsK Gain.cells 4 (grow (Sort.ahead w m) os) blk off d:=holdsK_grow _ _ _ _ blk off d hblk (holdsK_ahead _ _ _ _ _ _ _ hH)
  refine i_GainsLess blk off c Bs d.size _ (fun t => dk[t]!.Ch) ?_ (fun t ht => ?_) i j hi hj (by omega)
  ·
   rw [e,cell?_putRowK_other _ _ _ blk off dk _ (by exact hB2),cell?_grow _ _ _ (by exact hB1)];exact hBs
  rw [e];exact ((holdsK_putRowK _ _ _ blk off d dk hHg hs).cell (i:=t) (c:=0) (by omega) (by omega)).1
 exact Any.sort_Slice_cells_sorted Tryz.laysGg6 24 79 svT svE (by kernel_rfl) (by kernel_rfl) (by kernel_rfl) (by kernel_rfl) 25 (fun _ => by kernel_rfl) Gain.cells 4 (fun _ => rfl) (by kernel_rfl) (fun _ => by kernel_rfl)
  (fun x v hv => by simp [Gain.cells] at hv;rcases hv with rfl | rfl | rfl | rfl <;> rfl) ltG swo_ltG 37 _
  (enters_of Tryz.func37 (by kernel_rfl) rfl) blk off c d h2 hsz 125 (by rw [svK _ h2];kernel_rfl) false
  (fun args W => run_callFunc_extern Tryz.func125 (by kernel_rfl) (by kernel_rfl) (by kernel_rfl) (e:=Extern.ReflectliteSwapper.swap false) (by kernel_rfl) args W) w hless hH hblk
theorem sort_few (p : Option Addr) (n c : Nat) (h1 : n ≤ 1) (lf : Fn) (la lb : Array Value) (w : World) :
  Calls Tryz.prog 36 #[.iface 24 (.slice p n c),.func lf la lb] w fun e w' => e = .returned (.tuple #[])∧∃ os,w' = grow w os:=by
 have hn : n = 0 ∨ n = 1:=by omega
 rcases hn with rfl | rfl
 ·
  exact Any.sort_Slice_tiny Tryz.laysGg6 24 79 svT svE (by kernel_rfl) (by kernel_rfl) (by kernel_rfl) (by kernel_rfl) 25 (fun _ => by kernel_rfl) p 0 c (by decide) 117 (by kernel_rfl) lf la lb w
 exact Any.sort_Slice_tiny Tryz.laysGg6 24 79 svT svE (by kernel_rfl) (by kernel_rfl) (by kernel_rfl) (by kernel_rfl) 25 (fun _ => by kernel_rfl) p 1 c (by decide) 118 (by kernel_rfl) lf la lb w
theorem zgj (w : World) (os : Array Obj) (r : Option Nat) : w.grownBy (grow w os) r:=⟨rfl,rfl,rfl,by simp,fun k hk _ => heap_grow_old _ _ hk⟩
theorem sort_gains {w : World} {B Bs cap : Nat} {A : Option Addr} {l : List Gain} (how : Ow w B 79 4 (.slice A l.length cap) (l.map Gain.cells)) (hl : l.length ≤ 1048576) (hBs : w.heap[Bs]? = some (.cells #[.slice A l.length cap] 24 (0,0))) :
  Calls Tryz.prog 36 #[.iface 24 (.slice A l.length cap),.func (.func 37) #[] #[.pointer (some ⟨Bs,0,none⟩)]] w fun e w' =>
   e = .returned (.tuple #[])∧∃ l' : List Gain,l'.Perm l∧(l'.Pairwise fun a b => a.Ch ≤ b.Ch)∧Ow w' B 79 4 (.slice A l.length cap) (l'.map Gain.cells)∧w.grownBy w' (Value.slice A l.length cap).ownBlock:=by
 by_cases h2 : 2 ≤ l.length
 rotate_left
 ·
  refine (sort_few A l.length cap (by omega) _ _ _ w).mono ?_
  rintro e w' ⟨he,os,rfl⟩
  refine ⟨he,l,.refl _,?_,?_,zgj _ _ _⟩
  ·
   match l,h2 with
   | [],_ => exact .nil
   | [x],_ => exact .cons (by simp) .nil
   | _ :: _ :: _,h => simp at h
  exact ⟨how.1,how.2.1,by
   rcases how.2.2 with hn | ⟨g,cap',cur,hv,hg,hh,r⟩
   ·
    exact .inl hn
   exact .inr ⟨g,cap',cur,hv,hg,(heap_grow_old _ _ (gz_ hh).1).trans hh,r⟩⟩
 have hne:=how.ne_ hBs (by decide)
 rcases how.2.2 with ⟨_,h0⟩ | ⟨g,cap',cur,hv,hg,hh,hn,hm,hs,ht⟩
 ·
  rw [List.length_map] at h0;omega
 injection hv with e1 e2 e3
 subst e1 e3
 rw [List.length_map] at hn ht
 have hne' : Bs ≠ g:=fun e => hne (by rw [e];rfl)
 have hfl : cur.toList.take (l.toArray.size * 4) = (flatK Gain.cells 4 l.toArray).toList:=by
  rw [zhm Gain.cells 4 (fun _ => rfl) (by decide)]
  simpa using ht
 have hH:=zyq Gain.cells 4 hh hfl
 have key:=sort_two g 0 cap Bs l.toArray (by simpa using h2) (by simp;omega) w hH (gz_ hh).1 (by simpa using zqc hBs 0) (gz_ hBs).1 hne'
 simp only [List.size_toArray] at key
 refine key.mono ?_
 rintro e w' ⟨he,d',n,os,hp,hso,rfl⟩
 obtain ⟨p1,p2⟩:=perm_list (d:=l.toArray) (by simpa using hp)
 have p3 : d'.toList.length = l.length:=by simpa using p1.length_eq
 have p4 : d'.size = l.length:=by simpa using p2
 refine ⟨he,d'.toList,by simpa using p1,sorted_list p4 hso,⟨?_,?_⟩,zyp _⟩
 ·
  intro r hr
  obtain ⟨x,_,rfl⟩:=List.mem_map.1 hr
  rfl
 refine ⟨?_,.inr ⟨g,cap,_,by rw [List.length_map,p3],hg,zgk _ hh,?_,hm,by simp [putCells,hs],?_⟩⟩
 ·
  rw [← zhm Gain.cells 4 (fun _ => rfl) (by decide)]
  simp
 ·
  rw [List.length_map,p3];exact hn
 rw [← zhm Gain.cells 4 (fun _ => rfl) (by decide),List.length_map,p3]
 have:=ztp cur (flatK Gain.cells 4 d') (by simp [p4];rw [hs];exact Nat.mul_le_mul_right _ hn)
 simpa [p4] using this
end Go.Proofs.YtdbmkfmenfcbiaaGreat
namespace Go.Proofs.YtdbmkfmenfcbiaaGreat
abbrev Stp:=Nat × Option Nat × Bool × Option (Nat × Bool)
abbrev yF (i d : Nat) : Stp:=(i,some d,false,none)
abbrev yT (i d : Nat) : Stp:=(i,some d,true,none)
abbrev yN (i : Nat) : Stp:=(i,none,true,none)
abbrev yG (i d s : Nat) : Stp:=(i,some d,false,some (s,true))
abbrev yH (i d s : Nat) : Stp:=(i,some d,false,some (s,false))
def guardOk (ops : Array Oper) (o : Oper) (g : Option (Nat × Bool)) : Bool :=
 match o.guard,g with
 | none,none => true
 | some (j,b),some (s,c) => b == c && (match ops[j]? with | some x => x.dst == some s | none => false)
 | _,_ => false
def wantedAt (g : Option (Nat × Bool)) (a : Act) : Bool :=
 match g with
 | none => true
 | some (s,b) => match a.tmps.toList[s]? with | some (.bool x) => x == b | _ => false
theorem zsq {ops : Array Oper} {o : Oper} {g : Option (Nat × Bool)} (h : guardOk ops o g = true) (a : Act) : Region.wanted o (yielded ops a.tmps) = wantedAt g a:=by
 unfold guardOk at h
 unfold Region.wanted wantedAt
 split at h
 ·
  rename_i hg
  rw [hg]
 ·
  rename_i j b s c hg
  rw [hg]
  simp only [Bool.and_eq_true,beq_iff_eq] at h
  obtain ⟨rfl,h⟩:=h
  split at h
  ·
   rename_i x hx
   simp only [beq_iff_eq] at h
   simp only [yielded,hx,Option.bind_some,h,Array.getElem?_toList]
   split <;> rename_i hv <;> simp [hv]
  cases h
 cases h
section
variable {P : Program} {md : Region.Mode} {ops : Array Oper} {Q : Exit → Act → World → Prop} {S : World → Prop}
def orderOk (md : Region.Mode) (ops : Array Oper) : List Stp → Array Bool → Bool
 | [],_ => true
 | (i,d,e,g) :: is,l => (match ops[i]? with | some o => o.dst == d && guardOk ops o g | none => false) && (if e then Region.ready md ops l == [i] else Region.free md ops l i && (Region.ready md ops l).contains i) && orderOk md ops is (l.setIfInBounds i true)
def listAll : List Stp → Array Bool → Array Bool
 | [],l => l
 | (i,_) :: is,l => listAll is (l.setIfInBounds i true)
def Sq (P : Program) (ops : Array Oper) (Q : Exit → Act → World → Prop) (S : World → Prop) (F : Act → World → Prop) : List Stp → Act → World → Prop
 | [],a,w => F a w
 | (i,d,e,g) :: is,a,w => ∃ o,ops[i]? = some o∧((∃ v,((wantedAt g a = true∧∀ w,S w → (execOp a.eval o).run P w = .ok (.value v) w) ∨ (wantedAt g a = false∧v = undef))∧Sq P ops Q S F is (a.put d v) w) ∨
   (e = true∧wantedAt g a = true∧∀ K' : Act → World → Prop,Shut (∀ a w,S w → (S w → Sq P ops Q S F is a w) → K' a w) → Oper.wp P o a w K' Q))
variable {F : Act → World → Prop}
theorem Sq.take {i : Nat} {d : Option Nat} {g : Option (Nat × Bool)} {o : Oper} {v : Value} {is : List Stp} {a : Act} {w : World} (ho : ops[i]? = some o) (hw : wantedAt g a = true) (hy : ∀ w,S w → (execOp a.eval o).run P w = .ok (.value v) w) {a' : Act} (ha : a.put d v = a')
  (h : Sq P ops Q S F is a' w) : Sq P ops Q S F ((i,d,false,g) :: is) a w:=⟨o,ho,.inl ⟨v,.inl ⟨hw,hy⟩,ha ▸ h⟩⟩
theorem Sq.skip {i : Nat} {d : Option Nat} {e : Bool} {g : Nat × Bool} {o : Oper} {is : List Stp} {a : Act} {w : World} (ho : ops[i]? = some o) (hw : wantedAt (some g) a = false) {a' : Act} (ha : a.put d undef = a')
  (h : Sq P ops Q S F is a' w) : Sq P ops Q S F ((i,d,e,some g) :: is) a w:=⟨o,ho,.inl ⟨undef,.inr ⟨hw,rfl⟩,ha ▸ h⟩⟩
theorem Sq.step {i : Nat} {d : Option Nat} {g : Option (Nat × Bool)} {o : Oper} {is : List Stp} {a : Act} {w : World} (ho : ops[i]? = some o) (hw : wantedAt g a = true) (h : ∀ K' : Act → World → Prop,Shut (∀ a w,S w → (S w → Sq P ops Q S F is a w) → K' a w) → Oper.wp P o a w K' Q) :
  Sq P ops Q S F ((i,d,true,g) :: is) a w:=⟨o,ho,.inr ⟨rfl,hw,h⟩⟩
theorem ss_ {i : Nat} {d : Option Nat} {g : Option (Nat × Bool)} {o : Oper} {is : List Stp} {a : Act} {w : World} (h : ∀ K' : Act → World → Prop,Shut (∀ a w,S w → (S w → Sq P ops Q S F is a w) → K' a w) → Oper.wp P o a w K' Q) (ho : ops[i]? = some o:=by rfl) (hw : wantedAt g a = true:=by rfl) : Sq P ops Q S F ((i,d,true,g) :: is) a w:=Sq.step ho hw h
theorem Sq.done {a : Act} {w : World} (h : F a w) : Sq P ops Q S F [] a w:=h
theorem ztk {i : Nat} {d : Option Nat} {g : Option (Nat × Bool)} {is : List Stp} {fuel : Nat} {listed : Array Bool} {a : Act} {w : World} {o : Oper} (ho : ops[i]? = some o) (hd : o.dst = d) (hg : guardOk ops o g = true)
  (next : ∀ a w,S w → Sq P ops Q S F is a w → wpAnyH P md ops Q S fuel (listed.setIfInBounds i true) a w) {e : Bool} (hS : S w) (h : Sq P ops Q S F ((i,d,e,g) :: is) a w) :
  ∀ K' : Act → World → Prop,Shut (∀ a w,S w → (S w → wpAnyH P md ops Q S fuel (listed.setIfInBounds i true) a w) → K' a w) → if Region.wanted o (yielded ops a.tmps) = true then Oper.wp P o a w K' Q else K' (a.put o.dst undef) w:=by
 intro K hK
 subst hd
 obtain ⟨o',ho',h⟩:=h
 rw [ho] at ho'
 cases ho'
 have hwa:=zsq hg a
 rcases h with ⟨v,hy,h⟩ | ⟨rfl,hw,h⟩
 ·
  rw [← hwa] at hy
  have hk:=hK.out (a.put o.dst v) w hS (fun hS => next _ w hS h)
  rcases hy with ⟨hw,hy⟩ | ⟨hw,rfl⟩
  ·
   rw [if_pos hw]
   simp only [Oper.wp,hy w hS,Oper.upon]
   exact hk
  rw [if_neg (by rw [hw];decide)]
  exact hk
 rw [if_pos (hwa.trans hw)]
 exact h K (fun a w hS hq => hK.out a w hS (fun hS => next a w hS (hq hS)))
theorem zjc (hs : Region.noSelect ops = true) (hQ : ∀ c a d v w,Q (.panic c) (a.put d v) w → Q (.panic c) a w) : ∀ (is : List Stp) (fuel : Nat) (listed : Array Bool) (a : Act) (w : World),is.length ≤ fuel → orderOk md ops is listed = true → S w → (∀ a w,S w → F a w → wpAnyH P md ops Q S (fuel - is.length) (listAll is listed) a w) →
  Sq P ops Q S F is a w → wpAnyH P md ops Q S fuel listed a w
 | [],fuel,listed,a,w,_,_,hS,hF,h => hF a w hS h
 | (i,d,e,g) :: is,0,listed,a,w,hl,_,_,_,_ => absurd hl (by simp)
 | (i,d,e,g) :: is,fuel + 1,listed,a,w,hl,hok,hS,hF,h => by
  have hl' : is.length ≤ fuel:=by simpa using hl
  have hF' : ∀ a w,S w → F a w → wpAnyH P md ops Q S (fuel - is.length) (listAll is (listed.setIfInBounds i true)) a w:=by
   intro a w hS hf
   have:=hF a w hS hf
   simpa [listAll,Nat.succ_sub_succ] using this
  have h0:=h
  obtain ⟨o,ho,h⟩:=h
  simp only [orderOk,ho,Bool.and_eq_true,beq_iff_eq] at hok
  obtain ⟨⟨⟨hd,hg⟩,hok1⟩,hok2⟩:=hok
  have next : ∀ a w,S w → Sq P ops Q S F is a w → wpAnyH P md ops Q S fuel (listed.setIfInBounds i true) a w:=fun a w hS hq => zjc hs hQ is fuel _ a w hl' hok2 hS hF' hq
  cases e with
  | true =>
   simp only [if_true,beq_iff_eq] at hok1
   exact wpAnyH_ready hok1 (by simp) (AllReadyH.cons ho (ztk ho hd hg next hS h0) AllReadyH.nil)
  | false =>
   subst hd
   simp only [Bool.false_eq_true,if_false,Bool.and_eq_true] at hok1
   have hwa:=zsq hg a
   rcases h with ⟨v,hy,h⟩ | ⟨hc,_⟩
   ·
    rw [← hwa] at hy
    exact wpAnyH_take ho hs hok1.1 hok1.2 (fun c a w => hQ c a _ v w) hy hS (next _ w hS h)
   cases hc
theorem NoPanic.hQ {Q : Exit → Act → World → Prop} : ∀ c (a : Act) d v w,NoPanic Q (.panic c) (a.put d v) w → NoPanic Q (.panic c) a w:=fun _ _ _ _ _ h => h.elim
def orderAll (md : Region.Mode) (ops : Array Oper) (is : List Stp) : Bool:=decide (is.length ≤ ops.size) && orderOk md ops is (Array.replicate ops.size false) && (Region.ready md ops (listAll is (Array.replicate ops.size false))).isEmpty
theorem zql (S : World → Prop) (is : List Stp) {id : Nat} {a : Act} {w : World} (hm : P.follows .mixedOrders = true) (hs : Region.noSelect ops = true) (hok : orderAll .any ops is = true) (hS : S w.drew)
  (h : S w.drew → Sq P ops (NoPanic Q) S (NoPanic Q .normal) is a w.drew) : (Code.region id ops true).wp P Q a w:=by
 simp only [orderAll,Bool.and_eq_true,decide_eq_true_eq,List.isEmpty_iff] at hok
 exact wp_region_noPanic (wp_region_held_drew hm hS fun hS => zjc hs NoPanic.hQ is _ _ _ _ hok.1.1 hok.1.2 hS (fun a w _ hf => wpAnyH_done hok.2 hf _) (h hS))
theorem zqs (S : World → Prop) (is : List Stp) {o : Oper} {l : List Oper} {id : Nat} {a : Act} {w : World} (ho : l.getLast? = some o) (hm : P.follows .mixedOrders = true) (hg : noGuards l.dropLast.toArray = true) (hw : waitsAll2 .any l.dropLast.toArray o = true) (hb : backOnly .any l.dropLast.toArray = true)
  (hs : Region.noSelect l.dropLast.toArray = true) (hok : orderAll .any l.dropLast.toArray is = true)
  (hS : S w.drew) (h : S w.drew → Sq P l.dropLast.toArray (lastQ P l.toArray o (NoPanic Q)) S (lastQ P l.toArray o (NoPanic Q) .normal) is a w.drew) : (Code.region id l.toArray true).wp P Q a w:=by
 simp only [orderAll,Bool.and_eq_true,decide_eq_true_eq,List.isEmpty_iff] at hok
 exact wp_region_noPanic (zkh ho hm hg hw hb hS fun hS => zjc hs (fun _ _ _ _ _ h => h) is _ _ _ _ hok.1.1 hok.1.2 hS (fun a w _ hf => wpAnyH_done hok.2 hf _) (h hS))
/-! ### two operations may come up: two orders behind a common beginning -/
def headOk (ops : Array Oper) : List Stp → Option Nat
 | (i,d,e,g) :: _ => match ops[i]? with | some o => if o.dst == d && guardOk ops o g && e then some i else none | none => none
 | [] => none
def orderTwo (md : Region.Mode) (ops : Array Oper) (pre o1 o2 : List Stp) : Bool :=
 decide (pre.length + o1.length ≤ ops.size) && decide (pre.length + o2.length ≤ ops.size) && orderOk md ops pre (Array.replicate ops.size false) &&
 (match headOk ops o1,headOk ops o2 with
  | some i,some j => Region.ready md ops (listAll pre (Array.replicate ops.size false)) == [i,j] &&
   orderOk md ops o1.tail ((listAll pre (Array.replicate ops.size false)).setIfInBounds i true) && (Region.ready md ops (listAll o1.tail ((listAll pre (Array.replicate ops.size false)).setIfInBounds i true))).isEmpty &&
   orderOk md ops o2.tail ((listAll pre (Array.replicate ops.size false)).setIfInBounds j true) && (Region.ready md ops (listAll o2.tail ((listAll pre (Array.replicate ops.size false)).setIfInBounds j true))).isEmpty
  | _,_ => false)
theorem zve {l : List Stp} {i : Nat} (h : headOk ops l = some i) : ∃ d g is o,l = (i,d,true,g) :: is∧ops[i]? = some o∧o.dst = d∧guardOk ops o g = true:=by
 unfold headOk at h
 split at h
 ·
  rename_i i' d e g is
  split at h
  ·
   rename_i o ho
   split at h
   ·
    rename_i hc
    simp only [Bool.and_eq_true,beq_iff_eq] at hc
    obtain ⟨⟨hd,hg⟩,rfl⟩:=hc
    cases h
    exact ⟨d,g,is,o,rfl,ho,hd,hg⟩
   cases h
  cases h
 cases h
theorem zvk (S : World → Prop) (pre o1 o2 : List Stp) {id : Nat} {a : Act} {w : World} (hm : P.follows .mixedOrders = true) (hs : Region.noSelect ops = true) (hok : orderTwo .any ops pre o1 o2 = true) (hS : S w.drew)
  (h : S w.drew → Sq P ops (NoPanic Q) S (fun a w => Sq P ops (NoPanic Q) S (NoPanic Q .normal) o1 a w∧Sq P ops (NoPanic Q) S (NoPanic Q .normal) o2 a w) pre a w.drew) : (Code.region id ops true).wp P Q a w:=by
 simp only [orderTwo,Bool.and_eq_true,decide_eq_true_eq] at hok
 obtain ⟨⟨⟨hl1,hl2⟩,hpre⟩,hok⟩:=hok
 refine wp_region_noPanic (wp_region_held_drew hm hS fun hS => zjc hs NoPanic.hQ pre _ _ _ _ (by omega) hpre hS (fun a w hS hf => ?_) (h hS))
 split at hok
 ·
  rename_i i j h1 h2
  simp only [Bool.and_eq_true,beq_iff_eq,List.isEmpty_iff] at hok
  obtain ⟨⟨⟨⟨hr,ok1⟩,e1⟩,ok2⟩,e2⟩:=hok
  obtain ⟨d1,g1,t1,p1,rfl,ho1,hd1,hg1⟩:=zve h1
  obtain ⟨d2,g2,t2,p2,rfl,ho2,hd2,hg2⟩:=zve h2
  simp only [List.length_cons,List.tail_cons] at hl1 hl2 ok1 ok2 e1 e2
  obtain ⟨n,hn⟩ : ∃ n,ops.size - pre.length = n + 1:=⟨ops.size - pre.length - 1,by omega⟩
  rw [hn]
  refine wpAnyH_ready hr (by simp) (AllReadyH.cons ho1 ?_ (AllReadyH.cons ho2 ?_ AllReadyH.nil))
  ·
   exact ztk ho1 hd1 hg1 (fun a w hS hq => zjc hs NoPanic.hQ t1 n _ a w (by omega) ok1 hS (fun a w _ hf => wpAnyH_done e1 hf _) hq) hS hf.1
  exact ztk ho2 hd2 hg2 (fun a w hS hq => zjc hs NoPanic.hQ t2 n _ a w (by omega) ok2 hS (fun a w _ hf => wpAnyH_done e2 hf _) hq) hS hf.2
 cases hok
end
theorem zje {ops : Array Oper} {o : Oper} {a : Act} {X E : Prop} (hg : o.guard = none) (h : if Region.wanted o (yielded ops a.tmps) = true then X else E) : X:=by
 rwa [if_pos (by simp [Region.wanted,hg])] at h
theorem zxu {K : Act → World → Prop} {a : Act} {w : World} (h : ∀ wq,wq = w → K a wq) : K a w:=h w rfl
theorem meet {α : Type} {F G : α → World → Prop} {X : Prop} (h1 : (∀ x w,F x w → G x w) → X) (h2 : ∀ x w,F x w → G x w) : X:=h1 h2
theorem zke {K : Act → World → Prop} {Q : Exit → Act → World → Prop} {e : Exit} {a : Act} {w : World} (h : ∀ wq,wq = w → Exit.then K Q e a wq) : Exit.then K Q e a w:=h w rfl
theorem zju {P : Program} {f : Nat} {vs : Array Value} {Q : Ending → World → Prop} {w : World} (h : ∀ wq,wq = w → Calls P f vs wq Q) : Calls P f vs w Q:=h w rfl
theorem nw_ {P : Program} {c : Go.Code} {Q : Exit → Act → World → Prop} {a : Act} {w : World} (h : ∀ wq,wq = w → Go.Code.wp P c Q a wq) : Go.Code.wp P c Q a w:=h w rfl
theorem nl_ {P : Program} {ops : Array Oper} {Q : Exit → Act → World → Prop} {l : List Oper} {a : Act} {w : World} (h : ∀ wq,wq = w → wpList P ops Q l a wq) : wpList P ops Q l a w:=h w rfl
theorem nb_ {n : Nat} {Q : Exit → Act → World → Prop} {e : Exit} {a : Act} {w : World} (h : ∀ wq,wq = w → Exit.inBlock n Q e a wq) : Exit.inBlock n Q e a w:=h w rfl
theorem nr_ {P : Program} {f : Func} {Q : Ending → World → Prop} {e : Exit} {a : Act} {w : World} (h : ∀ wq,wq = w → bodyPost P f Q e a wq) : bodyPost P f Q e a w:=h w rfl
theorem nm_ {p q : Prop} (h : q) (f : q → p:=by intro hq;first | exact zju hq | exact nw_ hq | exact zke hq | exact nr_ hq | exact nl_ hq | exact nb_ hq) : p:=f h
theorem tk_ {p q : Prop} (h : q) (f : q → p:=by
  intro hq
  (repeat (first
   | (refine Sq.take (v:=?_) (a':=?_) rfl (by rfl) ?_ ?_ ?_;rotate_left;(focus (intro w hSw;(try dsimp only at hSw);go_simp;(try with_reducible rfl);done));rotate_left;(focus (simp only [Act.put,List.setIfInBounds_toArray,List.set_cons_succ,List.set_cons_zero];rfl)))
   | (refine Sq.skip (a':=?_) rfl (by rfl) ?_ ?_;rotate_left;(focus (simp only [Act.put,List.setIfInBounds_toArray,List.set_cons_succ,List.set_cons_zero];rfl)))))
  exact hq) : p:=f h
end Go.Proofs.YtdbmkfmenfcbiaaGreat
namespace Go.Proofs.YtdbmkfmenfcbiaaGreat
open Go

structure Bk where
  t : Int
  n : Int
  w : Int
  cs : List Chan
  hs : List Htlc
  os : List Circle
def bk0 : Bk:=⟨0,0,0,[],[],[]⟩
def Bk.ok (b : Bk) : Bool:=bookB b.t b.n b.w b.cs b.hs b.os
abbrev bkC (b : Bk) (A : Option Addr) (p : Nat) (B : Option Addr) (q : Nat) (C : Option Addr) (r : Nat) : Array Value:=#[.int .i64 b.t,.int .i64 b.n,.int .i64 b.w,.slice A b.cs.length p,.slice B b.hs.length q,.slice C b.os.length r]
end Go.Proofs.YtdbmkfmenfcbiaaGreat
namespace Go.Proofs.YtdbmkfmenfcbiaaGreat
open Go.RowKit
theorem zxl (n : Int) (w : World) :
  Calls Tryz.prog 140 #[.int .i64 n] w fun e w' => e = .returned (.bool (inB n 1 1000000))∧w = w':=by
 go_enter Tryz.func140,Tryz.ntmps140
 go_wp2_with (go_at_call 82;refine (i_in _ _ _ _).mono ?_;rintro e w' ⟨rfl,rfl⟩)
 go_ret
 exact ⟨rfl,rfl⟩
theorem zxi (n : Int) (w : World) :
  Calls Tryz.prog 85 #[.int .i64 n] w fun e w' => e = .returned (.bool (inB n (-100) 100))∧w = w':=by
 go_enter Tryz.func85,Tryz.ntmps85
 go_wp2_with (go_at_call 82;refine (i_in _ _ _ _).mono ?_;rintro e w' ⟨rfl,rfl⟩)
 go_ret
 exact ⟨rfl,rfl⟩
theorem zxf (n : Int) (w : World) :
  Calls Tryz.prog 58 #[.int .i64 n] w fun e w' => e = .returned (.bool (inB n (-100) 100))∧w = w':=by
 by_cases h1 : -100 ≤ n <;> by_cases h2 : n ≤ 100
 all_goals
  go_enter Tryz.func58,Tryz.ntmps58
  go_wp2
  all_goals go_ret
  all_goals exact ⟨by simp [inB,h1,h2] <;> omega,rfl⟩
set_option maxRecDepth 100000 in
set_option maxHeartbeats 1000000 in
theorem zkc (bt bn bw : Int) (cs : List Chan) (hs : List Htlc) (os : List Circle) (A1 A2 A3 : Option Addr) (p1 p2 p3 : Nat) (ch : Int) (w : World) (hl : cs.length ≤ 1048576) (hr : RdBook w w.heap.size A1 cs A2 hs A3 os) :
  Calls Tryz.prog 139 #[.agg #[.int .i64 bt,.int .i64 bn,.int .i64 bw,.slice A1 cs.length p1,.slice A2 hs.length p2,.slice A3 os.length p3],.int .i64 ch] w fun e w' => e = .returned (.int .i64 (chanIx cs ch))∧Below w.heap.size w w':=by
 have HR:=hd_ hr.c
 clear hr
 go_enter Tryz.func139,Tryz.ntmps139
 go_wp2_with fail
 go_loopw [10] (fun i wr => ∃ k : Nat,k ≤ cs.length∧i = .int .i64 k∧Hid ((cs.take k).all (notId ch) = true)∧Below w.heap.size w wr) (fun i _ => cs.length - (intOf i).toNat)
 case atStart => exact ⟨0,Nat.zero_le _,rfl,hd_ rfl,bl_⟩
 case round =>
  obtain ⟨k,hk,rfl,HA,hbw⟩:=hrel
  have hbz:=hbw.size
  by_cases hlt : k < cs.length
  ·
   obtain ⟨b,off,rfl,hbB,c0,c1,c2,c3,c4,c5,c6⟩:=Chan.rd (HR.out.below hbw) hlt
   cases hch : (cs[k].Id == ch)
   ·
    have HC:=hd_ (show notId ch cs[k] = true by simp [notId,bne,hch])
    go_wp2_with fail
    go_roundw
    case rel => exact ⟨k + 1,by omega,by go_num,hd_ (by rw [zxr cs _ hlt,HA.out,HC.out];rfl),bl_⟩
    case measure => simp [intOf];omega
   have HC:=hd_ (show notId ch cs[k] = false by simp [notId,bne,hch])
   go_wp2_with fail
   go_ret
   exact ⟨zxc (zga hlt HA.out HC).symm,bl_⟩
  obtain rfl : k = cs.length:=by omega
  go_wp2_with fail
  go_ret
  exact ⟨zxc (zyl HA).symm,bl_⟩
set_option maxRecDepth 100000 in
set_option maxHeartbeats 1000000 in
theorem zjk (bt bn bw : Int) (cs : List Chan) (hs : List Htlc) (os : List Circle) (A1 A2 A3 : Option Addr) (p1 p2 p3 : Nat) (ch : Int) (w : World) (hl : cs.length ≤ 1048576) (hr : RdBook w w.heap.size A1 cs A2 hs A3 os) :
  Calls Tryz.prog 68 #[.agg #[.int .i64 bt,.int .i64 bn,.int .i64 bw,.slice A1 cs.length p1,.slice A2 hs.length p2,.slice A3 os.length p3],.int .i64 ch] w fun e w' => e = .returned (.int .i64 (chanIx cs ch))∧Below w.heap.size w w':=by
 have HR:=hd_ hr.c
 clear hr
 go_enter Tryz.func68,Tryz.ntmps68
 go_wp2_with fail
 go_loopw [9] (fun i wr => ∃ k : Nat,k ≤ cs.length∧i = .int .i64 k∧Hid ((cs.take k).all (notId ch) = true)∧wr.heap[w.heap.size]? = some (.cells #[.int .i64 bt,.int .i64 bn,.int .i64 bw,.slice A1 cs.length p1,.slice A2 hs.length p2,.slice A3 os.length p3] 39 (0,0))∧Below w.heap.size w wr) (fun i _ => cs.length - (intOf i).toNat)
 case atStart => exact ⟨0,Nat.zero_le _,rfl,hd_ rfl,zqi rfl,bl_⟩
 case round =>
  obtain ⟨k,hk,rfl,HA,hbox,hbw⟩:=hrel
  have hbz:=hbw.size
  obtain ⟨eh,e0,e1,e2,e3,e4,e5,ef,ezz⟩:=own6 (Below.refl wr.heap.size wr) (gz_ hbox).1 hbox
  have EH:=hd_ eh
  clear eh hbox
  by_cases hlt : k < cs.length
  ·
   obtain ⟨b,off,rfl,hbB,c0,c1,c2,c3,c4,c5,c6⟩:=Chan.rd (HR.out.below hbw) hlt
   have i1 : (0 : Int) ≤ (k : Int):=by omega
   have i2 : (k : Int) < (cs.length : Int):=by omega
   cases hch : (cs[k].Id == ch)
   ·
    have HC:=hd_ (show notId ch cs[k] = true by simp [notId,bne,hch])
    go_wp2_with fail
    go_roundw
    case rel => exact ⟨k + 1,by omega,by go_num,hd_ (by rw [zxr cs _ hlt,HA.out,HC.out];rfl),EH.out,bl_⟩
    case measure => simp [intOf];omega
   have HC:=hd_ (show notId ch cs[k] = false by simp [notId,bne,hch])
   go_wp2_with fail
   go_ret
   exact ⟨zxc (zga hlt HA.out HC).symm,bl_⟩
  obtain rfl : k = cs.length:=by omega
  go_wp2_with fail
  go_ret
  exact ⟨zxc (zyl HA).symm,bl_⟩
def intCells (x : Int) : List Value:=[.int .i64 x]
theorem zpf {w : World} {B : Nat} {A : Option Addr} {l : List Int} (h : Rd w B 1 A (l.map intCells)) {k : Nat} (hk : k < l.length) :
  ∃ b off,A = some ⟨b,off,none⟩∧b < B∧w.cell? ⟨b,off + k,none⟩ = some (.int .i64 l[k]):=by
 obtain ⟨b,off,e,hb,hc⟩:=h.2 (by rw [List.length_map];omega)
 have hk' : (l.map intCells)[k]? = some (intCells l[k]):=by rw [List.getElem?_map,List.getElem?_eq_getElem hk];rfl
 have:=hc k _ 0 _ hk' rfl
 rw [Nat.mul_one,Nat.add_zero] at this
 exact ⟨b,off,e,hb,this⟩
theorem zjo {α : Type} (l : List α) (p : α → Bool) {k : Nat} (hk : k < l.length) : (l.take (k + 1)).any p = ((l.take k).any p || p l[k]):=by
 rw [List.take_succ_eq_append_getElem hk,List.any_append]
 simp
theorem zvw {α : Type} (l : List α) (p : α → Bool) {k : Nat} (hk : k < l.length) (h : p l[k] = true) : l.any p = true:=by
 rw [List.any_eq_true]
 exact ⟨l[k],List.getElem_mem hk,h⟩
theorem i_hasInt (l : List Int) (n : Int) (A : Option Addr) (cap : Nat) (w : World) (hl : l.length ≤ 1048576) (hr : Rd w w.heap.size 1 A (l.map intCells)) :
  Calls Tryz.prog 141 #[.slice A l.length cap,.int .i64 n] w fun e w' => e = .returned (.bool (hasB l n))∧w = w':=by
 have HR:=hd_ hr
 clear hr
 go_enter Tryz.func141,Tryz.ntmps141
 go_wp2_with fail
 go_loop [9] (fun i => ∃ k : Nat,k ≤ l.length∧i = .int .i64 k∧Hid ((l.take k).any (· == n) = false)) (fun i => l.length - (intOf i).toNat)
 case atStart => exact ⟨0,Nat.zero_le _,rfl,hd_ rfl⟩
 case round =>
  obtain ⟨k,hk,rfl,HA⟩:=hrel
  by_cases hlt : k < l.length
  ·
   obtain ⟨b,off,rfl,hbB,c0⟩:=zpf HR hlt
   cases hch : (l[k] == n)
   ·
    have HC:=hd_ hch
    go_wp2_with fail
    go_round
    case rel => exact ⟨k + 1,by omega,by go_num,hd_ (by rw [zjo l _ hlt,HA.out,HC.out];rfl)⟩
    case measure => simp [intOf];omega
   have HC:=hd_ hch
   go_wp2_with fail
   go_ret
   exact ⟨zqf (zvw l _ hlt HC.out).symm,rfl⟩
  obtain rfl : k = l.length:=by omega
  have ha:=HA.out
  rw [List.take_length] at ha
  have HA2:=hd_ ha
  clear ha
  go_wp2_with fail
  go_ret
  exact ⟨zqf HA2.out.symm,rfl⟩
theorem zkr (l : List Int) (n : Int) (A : Option Addr) (cap : Nat) (w : World) (hl : l.length ≤ 1048576) (hr : Rd w w.heap.size 1 A (l.map intCells)) :
  Calls Tryz.prog 106 #[.slice A l.length cap,.int .i64 n] w fun e w' => e = .returned (.bool (hasB l n))∧w = w':=by
 have HR:=hd_ hr
 clear hr
 go_enter Tryz.func106,Tryz.ntmps106
 go_wp2_with fail
 go_loop [9] (fun i => ∃ k : Nat,k ≤ l.length∧i = .int .i64 k∧Hid ((l.take k).any (· == n) = false)) (fun i => l.length - (intOf i).toNat)
 case atStart => exact ⟨0,Nat.zero_le _,rfl,hd_ rfl⟩
 case round =>
  obtain ⟨k,hk,rfl,HA⟩:=hrel
  by_cases hlt : k < l.length
  ·
   obtain ⟨b,off,rfl,hbB,c0⟩:=zpf HR hlt
   cases hch : (l[k] == n)
   ·
    have HC:=hd_ hch
    go_wp2_with fail
    go_round
    case rel => exact ⟨k + 1,by omega,by go_num,hd_ (by rw [zjo l _ hlt,HA.out,HC.out];rfl)⟩
    case measure => simp [intOf];omega
   have HC:=hd_ hch
   go_wp2_with fail
   go_ret
   exact ⟨zqf (zvw l _ hlt HC.out).symm,rfl⟩
  obtain rfl : k = l.length:=by omega
  have ha:=HA.out
  rw [List.take_length] at ha
  have HA2:=hd_ ha
  clear ha
  go_wp2_with fail
  go_ret
  exact ⟨zqf HA2.out.symm,rfl⟩
theorem zpc (bt bn bw : Int) (cs : List Chan) (hs : List Htlc) (os : List Circle) (A1 A2 A3 : Option Addr) (p1 p2 p3 : Nat) (x y : Int) (w : World) (g : Nat) (hg : w.heap[g]? = some (.cells #[.int .i64 bt,.int .i64 bn,.int .i64 bw,.slice A1 cs.length p1,.slice A2 hs.length p2,.slice A3 os.length p3] 39 (0,0))) (hl : cs.length ≤ 1048576) (hr : RdBook w w.heap.size A1 cs A2 hs A3 os) :
  Calls Tryz.prog 138 #[.int .i64 x,.int .i64 y,.pointer (some ⟨g,0,none⟩)] w fun e w' => e = .returned (.bool (twoB cs x y))∧Below w.heap.size w w':=by
 have HR:=hd_ hr
 clear hr
 obtain ⟨eh,e0,e1,e2,e3,e4,e5,ef,ez⟩:=own6 (Below.refl w.heap.size w) (gz_ hg).1 hg
 have EH:=hd_ eh
 clear eh hg
 cases hxy : (x != y)
 ·
  have HE:=hd_ (show twoB cs x y = false by simp [twoB,hxy])
  go_enter Tryz.func138,Tryz.ntmps138
  go_wp2_with fail
  go_ret
  exact ⟨zqf HE.out.symm,bl_⟩
 have TW:=hd_ (show twoB cs x y = (decide (0 ≤ chanIx cs x) && decide (0 ≤ chanIx cs y)) by simp [twoB,hxy])
 cases hx : decide (0 ≤ chanIx cs x)
 ·
  have HE:=hd_ (show twoB cs x y = false by rw [TW.out,hx];rfl)
  go_enter Tryz.func138,Tryz.ntmps138
  go_wp2_with fail
  refine (zkc bt bn bw cs hs os A1 A2 A3 p1 p2 p3 x _ hl ((HR.out.below (bl_)).more (by first | omega | (simp;omega) | (simp;done)))).mono ?_
  rintro e w1 ⟨rfl,hb1⟩
  have z1:=hb1.size
  try simp at z1
  go_wp2_with fail
  go_ret
  exact ⟨zqf HE.out.symm,bl_⟩
 have HE:=hd_ (show twoB cs x y = decide (0 ≤ chanIx cs y) by rw [TW.out,hx];rfl)
 go_enter Tryz.func138,Tryz.ntmps138
 go_wp2_with fail
 refine (zkc bt bn bw cs hs os A1 A2 A3 p1 p2 p3 x _ hl ((HR.out.below (bl_)).more (by first | omega | (simp;omega) | (simp;done)))).mono ?_
 rintro e w1 ⟨rfl,hb1⟩
 have z1:=hb1.size
 try simp at z1
 obtain ⟨_,k0,k1,k2,k3,k4,k5,kf,kz⟩:=own6 hb1 ez EH.out
 go_wp2_with fail
 refine (zkc bt bn bw cs hs os A1 A2 A3 p1 p2 p3 y _ hl ((HR.out.below (bl_)).more (by first | omega | (simp;omega) | (simp;done)))).mono ?_
 rintro e w2 ⟨rfl,hb2⟩
 have z2:=hb2.size
 try simp at z2
 go_wp2_with fail
 go_ret
 exact ⟨zqf HE.out.symm,bl_⟩
theorem zjb (bt bn bw : Int) (cs : List Chan) (hs : List Htlc) (os : List Circle) (A1 A2 A3 : Option Addr) (p1 p2 p3 : Nat) (x y : Int) (w : World) (hl : cs.length ≤ 1048576) (hr : RdBook w w.heap.size A1 cs A2 hs A3 os) :
  Calls Tryz.prog 104 #[.agg #[.int .i64 bt,.int .i64 bn,.int .i64 bw,.slice A1 cs.length p1,.slice A2 hs.length p2,.slice A3 os.length p3],.int .i64 x,.int .i64 y] w fun e w' => e = .returned (.bool (twoB cs x y))∧Below w.heap.size w w':=by
 have HR:=hd_ hr
 clear hr
 cases hxy : (x != y)
 ·
  have HE:=hd_ (show twoB cs x y = false by simp [twoB,hxy])
  go_enter Tryz.func104,Tryz.ntmps104
  go_wp2_with fail
  go_ret
  exact ⟨zqf HE.out.symm,bl_⟩
 have TW:=hd_ (show twoB cs x y = (decide (0 ≤ chanIx cs x) && decide (0 ≤ chanIx cs y)) by simp [twoB,hxy])
 cases hx : decide (0 ≤ chanIx cs x)
 ·
  have HE:=hd_ (show twoB cs x y = false by rw [TW.out,hx];rfl)
  go_enter Tryz.func104,Tryz.ntmps104
  go_wp2_with fail
  refine (zjk bt bn bw cs hs os A1 A2 A3 p1 p2 p3 x _ hl ((HR.out.below (bl_)).more (by first | omega | (simp;omega) | (simp;done)))).mono ?_
  rintro e w1 ⟨rfl,hb1⟩
  have z1:=hb1.size
  try simp at z1
  go_wp2_with fail
  go_ret
  exact ⟨zqf HE.out.symm,bl_⟩
 have HE:=hd_ (show twoB cs x y = decide (0 ≤ chanIx cs y) by rw [TW.out,hx];rfl)
 go_enter Tryz.func104,Tryz.ntmps104
 go_wp2_with fail
 refine (zjk bt bn bw cs hs os A1 A2 A3 p1 p2 p3 x _ hl ((HR.out.below (bl_)).more (by first | omega | (simp;omega) | (simp;done)))).mono ?_
 rintro e w1 ⟨rfl,hb1⟩
 have z1:=hb1.size
 try simp at z1
 obtain ⟨kh,k0,k1,k2,k3,k4,k5,kf,kz⟩:=own6 (g:=w.heap.size) hb1 (by first | omega | (simp;omega) | (simp;done)) (hp_)
 go_wp2_with fail
 refine (zjk bt bn bw cs hs os A1 A2 A3 p1 p2 p3 y _ hl ((HR.out.below (bl_)).more (by first | omega | (simp;omega) | (simp;done)))).mono ?_
 rintro e w2 ⟨rfl,hb2⟩
 have z2:=hb2.size
 try simp at z2
 go_wp2_with fail
 go_ret
 exact ⟨zqf HE.out.symm,bl_⟩

theorem BookFacts.local_ {bt bn bw : Int} {cs : List Chan} {hs : List Htlc} {os : List Circle} (F : BookFacts bt bn bw cs hs os) {k : Nat} (hk : k < cs.length) : 0 ≤ cs[k].Local∧cs[k].Local ≤ 1125899906842624:=by
  have:=F.ch k hk
  simp only [chB,Bool.and_eq_true] at this
  exact zja.1 this.1.1.1.1.1.1.2

set_option maxRecDepth 100000 in
set_option maxHeartbeats 4000000 in
theorem zgn (l : List Line) (A : Option Addr) (cap : Nat) (w : World) (hl : l.length ≤ 320) (hr : Rd w w.heap.size 3 A (l.map Line.cells)) :
  Calls Tryz.prog 97 #[.slice A l.length cap] w fun e w' => e = .returned (.bool (linesB l))∧Below w.heap.size w w':=by
 have HR:=hd_ hr
 clear hr
 go_enter Tryz.func97,Tryz.ntmps97
 go_wp2_with fail
 go_loopw [3,8] (fun s i wr => ∃ (k : Nat) (z : Int),k ≤ l.length∧i = .int .i64 k∧s = .int .i64 z∧Hid (allTo k (lineAt l) = true)∧Hid (lineSum (l.take k) = z)∧(-((k : Int) * 1125899906842624) ≤ z∧z ≤ (k : Int) * 1125899906842624)∧Below w.heap.size w wr) (fun _ i _ => l.length - (intOf i).toNat)
 case atStart => exact ⟨0,0,Nat.zero_le _,rfl,rfl,hd_ rfl,hd_ rfl,by omega,Below.refl _ _⟩
 case round =>
  obtain ⟨k,z,hk,rfl,rfl,HALL,HS,⟨z1,z2⟩,hbw⟩:=hrel
  have hbz:=hbw.size
  by_cases hlt : k < l.length
  rotate_left
  ·
   obtain rfl : k = l.length:=by omega
   have hs:=HS.out
   rw [List.take_length] at hs
   cases hz : (z == 0)
   ·
    have HE:=hd_ (show linesB l = false by unfold linesB;rw [HALL.out,hs];exact hz)
    clear hs
    go_wp2_with fail
    go_ret
    exact ⟨zqf HE.out.symm,bl_⟩
   have HE:=hd_ (show linesB l = true by unfold linesB;rw [HALL.out,hs];exact hz)
   clear hs
   go_wp2_with fail
   go_ret
   exact ⟨zqf HE.out.symm,bl_⟩
  obtain ⟨b,off,rfl,hbB,c0,c1,c2⟩:=Line.rd (HR.out.below hbw) hlt
  have hbr : b < wr.heap.size:=by omega
  have K0 : ∀ w2,Above (wr.alloc (.cells #[.int .i64 l[k].Kind,.int .i64 l[k].Ch,.int .i64 l[k].Amt] 99)).drew w2 → w2.cell? ⟨wr.heap.size,0,none⟩ = some (.int .i64 l[k].Kind)∧w2.cell? ⟨wr.heap.size,1,none⟩ = some (.int .i64 l[k].Ch)∧w2.cell? ⟨wr.heap.size,2,none⟩ = some (.int .i64 l[k].Amt):=fun w2 hw2 => by
   obtain ⟨kh,k0,k1,k2,kf,kz⟩:=own3 (g:=wr.heap.size) hw2 (by first | omega | (simp;omega) | (simp;done)) (hp_)
   exact ⟨k0,k1,k2⟩
  have k320 : decide ((320 : Int) < (k : Int)) = false:=decide_eq_false (by omega)
  by_cases hk0 : k = 0
  ·
   have hat : lineAt l k = (accB l[k].Kind l[k].Ch && !(l[k].Amt == 0) && rangeB l[k].Amt):=by subst hk0;exact zvr hlt
   have h3' : decide ((0 : Int) < (k : Int)) = false:=decide_eq_false (by omega)
   have h3'' : decide (0 < k) = false:=decide_eq_false (by omega)
   clear hk0
   have HK:=hd_ K0
   have KQ:=hd_ K0
   clear K0
   cases ha : accB l[k].Kind l[k].Ch
   ·
    -- acc false
    have HA:=hd_ ha
    clear ha
    have HO:=hd_ (show lineAt l k = false by rw [hat];simp [HA.out])
    clear hat
    go_wp2_with fail
    refine zxb (by kernel_rfl) (by kernel_rfl) ?_
    repeat (first | (refine zqk rfl ?_;intro K hK;go_simp;refine hK _ ?_;clear hK K) | (refine zqj ?_ rfl ?_ ?_;rotate_left;(focus (intro w2 hw2;obtain ⟨k0,k1,k2⟩:=HK.out w2 hw2;go_simp;rfl));intro K hK;go_simp;refine hK _ ?_;clear hK K))
    refine zqv 52 #[.agg #[.int .i64 l[k].Kind,.int .i64 l[k].Ch]] (.bool false) rfl (fun w2 hw2 => by go_simp) (fun w2 hw2 => (zko _ _ _).mono (fun e w3 hh => ⟨hh.1.trans (by rw [HA.out]),hh.2⟩)) ?_
    intro K hK;go_simp;refine hK _ ?_;clear hK K
    repeat (first | (refine zqk rfl ?_;intro K hK;go_simp;refine hK _ ?_;clear hK K) | (refine zqj ?_ rfl ?_ ?_;rotate_left;(focus (intro w2 hw2;obtain ⟨k0,k1,k2⟩:=HK.out w2 hw2;go_simp;rfl));intro K hK;go_simp;refine hK _ ?_;clear hK K))
    refine zxh ?_;intro w9 hb9
    clear HK
    go_wp2_with fail
    go_ret
    exact ⟨zqf (zjz hlt HO.out).symm,bl_⟩
   -- acc true
   have HA:=hd_ ha
   clear ha
   cases hz : (l[k].Amt == 0)
   rotate_left
   ·
    -- zero true
    have HO:=hd_ (show lineAt l k = false by rw [hat];simp [HA.out,hz])
    clear hat
    go_wp2_with fail
    refine zxb (by kernel_rfl) (by kernel_rfl) ?_
    repeat (first | (refine zqk rfl ?_;intro K hK;go_simp;refine hK _ ?_;clear hK K) | (refine zqj ?_ rfl ?_ ?_;rotate_left;(focus (intro w2 hw2;obtain ⟨k0,k1,k2⟩:=HK.out w2 hw2;go_simp;rfl));intro K hK;go_simp;refine hK _ ?_;clear hK K))
    refine zqv 52 #[.agg #[.int .i64 l[k].Kind,.int .i64 l[k].Ch]] (.bool true) rfl (fun w2 hw2 => by go_simp) (fun w2 hw2 => (zko _ _ _).mono (fun e w3 hh => ⟨hh.1.trans (by rw [HA.out]),hh.2⟩)) ?_
    intro K hK;go_simp;refine hK _ ?_;clear hK K
    repeat (first | (refine zqk rfl ?_;intro K hK;go_simp;refine hK _ ?_;clear hK K) | (refine zqj ?_ rfl ?_ ?_;rotate_left;(focus (intro w2 hw2;obtain ⟨k0,k1,k2⟩:=HK.out w2 hw2;go_simp;rfl));intro K hK;go_simp;refine hK _ ?_;clear hK K))
    refine zxh ?_;intro w9 hb9
    clear HK
    go_wp2_with fail
    go_ret
    exact ⟨zqf (zjz hlt HO.out).symm,bl_⟩
   -- zero false
   cases hg : rangeB l[k].Amt
   ·
    -- range false
    have HR2:=hd_ hg
    clear hg
    have HO:=hd_ (show lineAt l k = false by rw [hat];simp [HA.out,hz,HR2.out])
    clear hat
    go_wp2_with fail
    refine zxb (by kernel_rfl) (by kernel_rfl) ?_
    repeat (first | (refine zqk rfl ?_;intro K hK;go_simp;refine hK _ ?_;clear hK K) | (refine zqj ?_ rfl ?_ ?_;rotate_left;(focus (intro w2 hw2;obtain ⟨k0,k1,k2⟩:=HK.out w2 hw2;go_simp;rfl));intro K hK;go_simp;refine hK _ ?_;clear hK K))
    refine zqv 52 #[.agg #[.int .i64 l[k].Kind,.int .i64 l[k].Ch]] (.bool true) rfl (fun w2 hw2 => by go_simp) (fun w2 hw2 => (zko _ _ _).mono (fun e w3 hh => ⟨hh.1.trans (by rw [HA.out]),hh.2⟩)) ?_
    intro K hK;go_simp;refine hK _ ?_;clear hK K
    repeat (first | (refine zqk rfl ?_;intro K hK;go_simp;refine hK _ ?_;clear hK K) | (refine zqj ?_ rfl ?_ ?_;rotate_left;(focus (intro w2 hw2;obtain ⟨k0,k1,k2⟩:=HK.out w2 hw2;go_simp;rfl));intro K hK;go_simp;refine hK _ ?_;clear hK K))
    refine zqv 82 #[.int .i64 l[k].Amt,.int .i64 (-1125899906842624),.int .i64 1125899906842624] (.bool false) rfl (fun w2 hw2 => by go_simp) (fun w2 hw2 => (i_in _ _ _ _).mono (fun e w3 hh => ⟨hh.1.trans (by rw [(show inB l[k].Amt (-1125899906842624) 1125899906842624 = _ from HR2)]),by rw [← hh.2];exact Below.refl _ _⟩)) ?_
    intro K hK;go_simp;refine hK _ ?_;clear hK K
    repeat (first | (refine zqk rfl ?_;intro K hK;go_simp;refine hK _ ?_;clear hK K) | (refine zqj ?_ rfl ?_ ?_;rotate_left;(focus (intro w2 hw2;obtain ⟨k0,k1,k2⟩:=HK.out w2 hw2;go_simp;rfl));intro K hK;go_simp;refine hK _ ?_;clear hK K))
    refine zxh ?_;intro w9 hb9
    clear HK
    go_wp2_with fail
    go_ret
    exact ⟨zqf (zjz hlt HO.out).symm,bl_⟩
   -- range true
   have HR2:=hd_ hg
   clear hg
   have HO:=hd_ (show lineAt l k = true by rw [hat];simp [HA.out,hz,HR2.out])
   have hb:=HO.out
   obtain ⟨_,_,m1,m2⟩:=zyy hlt hb
   clear hb hat
   go_wp2_with fail
   refine zxb (by kernel_rfl) (by kernel_rfl) ?_
   repeat (first | (refine zqk rfl ?_;intro K hK;go_simp;refine hK _ ?_;clear hK K) | (refine zqj ?_ rfl ?_ ?_;rotate_left;(focus (intro w2 hw2;obtain ⟨k0,k1,k2⟩:=HK.out w2 hw2;go_simp;rfl));intro K hK;go_simp;refine hK _ ?_;clear hK K))
   refine zqv 52 #[.agg #[.int .i64 l[k].Kind,.int .i64 l[k].Ch]] (.bool true) rfl (fun w2 hw2 => by go_simp) (fun w2 hw2 => (zko _ _ _).mono (fun e w3 hh => ⟨hh.1.trans (by rw [HA.out]),hh.2⟩)) ?_
   intro K hK;go_simp;refine hK _ ?_;clear hK K
   repeat (first | (refine zqk rfl ?_;intro K hK;go_simp;refine hK _ ?_;clear hK K) | (refine zqj ?_ rfl ?_ ?_;rotate_left;(focus (intro w2 hw2;obtain ⟨k0,k1,k2⟩:=HK.out w2 hw2;go_simp;rfl));intro K hK;go_simp;refine hK _ ?_;clear hK K))
   refine zqv 82 #[.int .i64 l[k].Amt,.int .i64 (-1125899906842624),.int .i64 1125899906842624] (.bool true) rfl (fun w2 hw2 => by go_simp) (fun w2 hw2 => (i_in _ _ _ _).mono (fun e w3 hh => ⟨hh.1.trans (by rw [(show inB l[k].Amt (-1125899906842624) 1125899906842624 = _ from HR2)]),by rw [← hh.2];exact Below.refl _ _⟩)) ?_
   intro K hK;go_simp;refine hK _ ?_;clear hK K
   repeat (first | (refine zqk rfl ?_;intro K hK;go_simp;refine hK _ ?_;clear hK K) | (refine zqj ?_ rfl ?_ ?_;rotate_left;(focus (intro w2 hw2;obtain ⟨k0,k1,k2⟩:=HK.out w2 hw2;go_simp;rfl));intro K hK;go_simp;refine hK _ ?_;clear hK K))
   refine zxh ?_;intro w9 hb9
   obtain ⟨g0,g1,g2⟩:=KQ.out w9 hb9
   clear HK
   go_wp2_with fail
   go_roundw
   case rel => exact ⟨k + 1,_,by omega,by go_num,rfl,hd_ (by rw [ztt,HALL.out,HO.out];rfl),hd_ (by rw [zht l hlt,HS.out]),by omega,bl_⟩
   case measure => simp [intOf];omega
  obtain ⟨j,hkj⟩ : ∃ j,k = j + 1:=⟨k - 1,by omega⟩
  have hj : j < l.length:=by omega
  have hat : lineAt l k = (accB l[k].Kind l[k].Ch && !(l[k].Amt == 0) && rangeB l[k].Amt && lessB l[j].Kind l[j].Ch l[k].Kind l[k].Ch):=by subst hkj;exact zvg hlt hj
  obtain ⟨b',off',e',_,d0,d1,d2⟩:=Line.rd (HR.out.below hbw) hj
  simp only [Option.some.injEq,Addr.mk.injEq,and_true] at e'
  obtain ⟨rfl,rfl⟩:=e'
  have h3' : decide ((0 : Int) < (k : Int)) = true:=decide_eq_true (by omega)
  have h3'' : decide (0 < k) = true:=decide_eq_true (by omega)
  have i1 : (0 : Int) ≤ (j : Int):=by omega
  have i2 : (j : Int) < (l.length : Int):=by omega
  have e1 : IntKind.i64.wrap ((k : Int) - 1) = (j : Int):=by rw [hkj];exact (IntWalk.i64_in _ ⟨by omega,by omega⟩).trans (by omega)
  clear hkj hk0
  have KQ:=hd_ K0
  have K1 : ∀ w2,Above (wr.alloc (.cells #[.int .i64 l[k].Kind,.int .i64 l[k].Ch,.int .i64 l[k].Amt] 99)).drew w2 → w2.cell? ⟨wr.heap.size,0,none⟩ = some (.int .i64 l[k].Kind)∧w2.cell? ⟨wr.heap.size,1,none⟩ = some (.int .i64 l[k].Ch)∧w2.cell? ⟨wr.heap.size,2,none⟩ = some (.int .i64 l[k].Amt)∧w2.cell? ⟨b,off + j * 3,none⟩ = some (.int .i64 l[j].Kind)∧w2.cell? ⟨b,off + j * 3 + 1,none⟩ = some (.int .i64 l[j].Ch):=fun w2 hw2 => by
   obtain ⟨k0,k1,k2⟩:=KQ.out w2 hw2
   have hq : Below wr.heap.size wr w2:=bl_
   exact ⟨k0,k1,k2,(hq.cell (p:=⟨b,_,none⟩) hbr).trans d0,(hq.cell (p:=⟨b,_,none⟩) hbr).trans d1⟩
  have HK:=hd_ K1
  clear K0 K1 d0 d1 d2
  cases ha : accB l[k].Kind l[k].Ch
  ·
   -- acc false
   have HA:=hd_ ha
   clear ha
   have HO:=hd_ (show lineAt l k = false by rw [hat];simp [HA.out])
   clear hat
   go_wp2_with fail
   refine zxb (by kernel_rfl) (by kernel_rfl) ?_
   repeat (first | (refine zqk rfl ?_;intro K hK;go_simp;refine hK _ ?_;clear hK K) | (refine zqj ?_ rfl ?_ ?_;rotate_left;(focus (intro w2 hw2;obtain ⟨k0,k1,k2,j0,j1⟩:=HK.out w2 hw2;go_simp;rfl));intro K hK;go_simp;refine hK _ ?_;clear hK K))
   refine zqv 52 #[.agg #[.int .i64 l[k].Kind,.int .i64 l[k].Ch]] (.bool false) rfl (fun w2 hw2 => by go_simp) (fun w2 hw2 => (zko _ _ _).mono (fun e w3 hh => ⟨hh.1.trans (by rw [HA.out]),hh.2⟩)) ?_
   intro K hK;go_simp;refine hK _ ?_;clear hK K
   repeat (first | (refine zqk rfl ?_;intro K hK;go_simp;refine hK _ ?_;clear hK K) | (refine zqj ?_ rfl ?_ ?_;rotate_left;(focus (intro w2 hw2;obtain ⟨k0,k1,k2,j0,j1⟩:=HK.out w2 hw2;go_simp;rfl));intro K hK;go_simp;refine hK _ ?_;clear hK K))
   refine zxh ?_;intro w9 hb9
   clear HK
   go_wp2_with fail
   go_ret
   exact ⟨zqf (zjz hlt HO.out).symm,bl_⟩
  -- acc true
  have HA:=hd_ ha
  clear ha
  cases hz : (l[k].Amt == 0)
  rotate_left
  ·
   -- zero true
   have HO:=hd_ (show lineAt l k = false by rw [hat];simp [HA.out,hz])
   clear hat
   go_wp2_with fail
   refine zxb (by kernel_rfl) (by kernel_rfl) ?_
   repeat (first | (refine zqk rfl ?_;intro K hK;go_simp;refine hK _ ?_;clear hK K) | (refine zqj ?_ rfl ?_ ?_;rotate_left;(focus (intro w2 hw2;obtain ⟨k0,k1,k2,j0,j1⟩:=HK.out w2 hw2;go_simp;rfl));intro K hK;go_simp;refine hK _ ?_;clear hK K))
   refine zqv 52 #[.agg #[.int .i64 l[k].Kind,.int .i64 l[k].Ch]] (.bool true) rfl (fun w2 hw2 => by go_simp) (fun w2 hw2 => (zko _ _ _).mono (fun e w3 hh => ⟨hh.1.trans (by rw [HA.out]),hh.2⟩)) ?_
   intro K hK;go_simp;refine hK _ ?_;clear hK K
   repeat (first | (refine zqk rfl ?_;intro K hK;go_simp;refine hK _ ?_;clear hK K) | (refine zqj ?_ rfl ?_ ?_;rotate_left;(focus (intro w2 hw2;obtain ⟨k0,k1,k2,j0,j1⟩:=HK.out w2 hw2;go_simp;rfl));intro K hK;go_simp;refine hK _ ?_;clear hK K))
   refine zxh ?_;intro w9 hb9
   clear HK
   go_wp2_with fail
   go_ret
   exact ⟨zqf (zjz hlt HO.out).symm,bl_⟩
  -- zero false
  cases hg : rangeB l[k].Amt
  ·
   -- range false
   have HR2:=hd_ hg
   clear hg
   have HO:=hd_ (show lineAt l k = false by rw [hat];simp [HA.out,hz,HR2.out])
   clear hat
   go_wp2_with fail
   refine zxb (by kernel_rfl) (by kernel_rfl) ?_
   repeat (first | (refine zqk rfl ?_;intro K hK;go_simp;refine hK _ ?_;clear hK K) | (refine zqj ?_ rfl ?_ ?_;rotate_left;(focus (intro w2 hw2;obtain ⟨k0,k1,k2,j0,j1⟩:=HK.out w2 hw2;go_simp;rfl));intro K hK;go_simp;refine hK _ ?_;clear hK K))
   refine zqv 52 #[.agg #[.int .i64 l[k].Kind,.int .i64 l[k].Ch]] (.bool true) rfl (fun w2 hw2 => by go_simp) (fun w2 hw2 => (zko _ _ _).mono (fun e w3 hh => ⟨hh.1.trans (by rw [HA.out]),hh.2⟩)) ?_
   intro K hK;go_simp;refine hK _ ?_;clear hK K
   repeat (first | (refine zqk rfl ?_;intro K hK;go_simp;refine hK _ ?_;clear hK K) | (refine zqj ?_ rfl ?_ ?_;rotate_left;(focus (intro w2 hw2;obtain ⟨k0,k1,k2,j0,j1⟩:=HK.out w2 hw2;go_simp;rfl));intro K hK;go_simp;refine hK _ ?_;clear hK K))
   refine zqv 82 #[.int .i64 l[k].Amt,.int .i64 (-1125899906842624),.int .i64 1125899906842624] (.bool false) rfl (fun w2 hw2 => by go_simp) (fun w2 hw2 => (i_in _ _ _ _).mono (fun e w3 hh => ⟨hh.1.trans (by rw [(show inB l[k].Amt (-1125899906842624) 1125899906842624 = _ from HR2)]),by rw [← hh.2];exact Below.refl _ _⟩)) ?_
   intro K hK;go_simp;refine hK _ ?_;clear hK K
   repeat (first | (refine zqk rfl ?_;intro K hK;go_simp;refine hK _ ?_;clear hK K) | (refine zqj ?_ rfl ?_ ?_;rotate_left;(focus (intro w2 hw2;obtain ⟨k0,k1,k2,j0,j1⟩:=HK.out w2 hw2;go_simp;rfl));intro K hK;go_simp;refine hK _ ?_;clear hK K))
   refine zxh ?_;intro w9 hb9
   clear HK
   go_wp2_with fail
   go_ret
   exact ⟨zqf (zjz hlt HO.out).symm,bl_⟩
  -- range true
  have HR2:=hd_ hg
  clear hg
  cases hs : lessB l[j].Kind l[j].Ch l[k].Kind l[k].Ch
  ·
   -- less false
   have HL:=hd_ hs
   clear hs
   have HO:=hd_ (show lineAt l k = false by rw [hat];simp [HA.out,hz,HR2.out,HL.out])
   clear hat
   go_wp2_with fail
   refine zxb (by kernel_rfl) (by kernel_rfl) ?_
   repeat (first | (refine zqk rfl ?_;intro K hK;go_simp;refine hK _ ?_;clear hK K) | (refine zqj ?_ rfl ?_ ?_;rotate_left;(focus (intro w2 hw2;obtain ⟨k0,k1,k2,j0,j1⟩:=HK.out w2 hw2;go_simp;rfl));intro K hK;go_simp;refine hK _ ?_;clear hK K))
   refine zqv 52 #[.agg #[.int .i64 l[k].Kind,.int .i64 l[k].Ch]] (.bool true) rfl (fun w2 hw2 => by go_simp) (fun w2 hw2 => (zko _ _ _).mono (fun e w3 hh => ⟨hh.1.trans (by rw [HA.out]),hh.2⟩)) ?_
   intro K hK;go_simp;refine hK _ ?_;clear hK K
   repeat (first | (refine zqk rfl ?_;intro K hK;go_simp;refine hK _ ?_;clear hK K) | (refine zqj ?_ rfl ?_ ?_;rotate_left;(focus (intro w2 hw2;obtain ⟨k0,k1,k2,j0,j1⟩:=HK.out w2 hw2;go_simp;rfl));intro K hK;go_simp;refine hK _ ?_;clear hK K))
   refine zqv 82 #[.int .i64 l[k].Amt,.int .i64 (-1125899906842624),.int .i64 1125899906842624] (.bool true) rfl (fun w2 hw2 => by go_simp) (fun w2 hw2 => (i_in _ _ _ _).mono (fun e w3 hh => ⟨hh.1.trans (by rw [(show inB l[k].Amt (-1125899906842624) 1125899906842624 = _ from HR2)]),by rw [← hh.2];exact Below.refl _ _⟩)) ?_
   intro K hK;go_simp;refine hK _ ?_;clear hK K
   repeat (first | (refine zqk rfl ?_;intro K hK;go_simp;refine hK _ ?_;clear hK K) | (refine zqj ?_ rfl ?_ ?_;rotate_left;(focus (intro w2 hw2;obtain ⟨k0,k1,k2,j0,j1⟩:=HK.out w2 hw2;go_simp;rfl));intro K hK;go_simp;refine hK _ ?_;clear hK K))
   refine zqv 151 #[.agg #[.int .i64 l[j].Kind,.int .i64 l[j].Ch],.agg #[.int .i64 l[k].Kind,.int .i64 l[k].Ch]] (.bool false) rfl (fun w2 hw2 => by go_simp) (fun w2 hw2 => (zhc _ _ _ _ _).mono (fun e w3 hh => ⟨hh.1.trans (by rw [HL.out]),hh.2⟩)) ?_
   intro K hK;go_simp;refine hK _ ?_;clear hK K
   repeat (first | (refine zqk rfl ?_;intro K hK;go_simp;refine hK _ ?_;clear hK K) | (refine zqj ?_ rfl ?_ ?_;rotate_left;(focus (intro w2 hw2;obtain ⟨k0,k1,k2,j0,j1⟩:=HK.out w2 hw2;go_simp;rfl));intro K hK;go_simp;refine hK _ ?_;clear hK K))
   refine zxh ?_;intro w9 hb9
   clear HK
   go_wp2_with fail
   go_ret
   exact ⟨zqf (zjz hlt HO.out).symm,bl_⟩
  -- less true
  have HL:=hd_ hs
  clear hs
  have HO:=hd_ (show lineAt l k = true by rw [hat];simp [HA.out,hz,HR2.out,HL.out])
  have hb:=HO.out
  obtain ⟨_,_,m1,m2⟩:=zyy hlt hb
  clear hb hat
  go_wp2_with fail
  refine zxb (by kernel_rfl) (by kernel_rfl) ?_
  repeat (first | (refine zqk rfl ?_;intro K hK;go_simp;refine hK _ ?_;clear hK K) | (refine zqj ?_ rfl ?_ ?_;rotate_left;(focus (intro w2 hw2;obtain ⟨k0,k1,k2,j0,j1⟩:=HK.out w2 hw2;go_simp;rfl));intro K hK;go_simp;refine hK _ ?_;clear hK K))
  refine zqv 52 #[.agg #[.int .i64 l[k].Kind,.int .i64 l[k].Ch]] (.bool true) rfl (fun w2 hw2 => by go_simp) (fun w2 hw2 => (zko _ _ _).mono (fun e w3 hh => ⟨hh.1.trans (by rw [HA.out]),hh.2⟩)) ?_
  intro K hK;go_simp;refine hK _ ?_;clear hK K
  repeat (first | (refine zqk rfl ?_;intro K hK;go_simp;refine hK _ ?_;clear hK K) | (refine zqj ?_ rfl ?_ ?_;rotate_left;(focus (intro w2 hw2;obtain ⟨k0,k1,k2,j0,j1⟩:=HK.out w2 hw2;go_simp;rfl));intro K hK;go_simp;refine hK _ ?_;clear hK K))
  refine zqv 82 #[.int .i64 l[k].Amt,.int .i64 (-1125899906842624),.int .i64 1125899906842624] (.bool true) rfl (fun w2 hw2 => by go_simp) (fun w2 hw2 => (i_in _ _ _ _).mono (fun e w3 hh => ⟨hh.1.trans (by rw [(show inB l[k].Amt (-1125899906842624) 1125899906842624 = _ from HR2)]),by rw [← hh.2];exact Below.refl _ _⟩)) ?_
  intro K hK;go_simp;refine hK _ ?_;clear hK K
  repeat (first | (refine zqk rfl ?_;intro K hK;go_simp;refine hK _ ?_;clear hK K) | (refine zqj ?_ rfl ?_ ?_;rotate_left;(focus (intro w2 hw2;obtain ⟨k0,k1,k2,j0,j1⟩:=HK.out w2 hw2;go_simp;rfl));intro K hK;go_simp;refine hK _ ?_;clear hK K))
  refine zqv 151 #[.agg #[.int .i64 l[j].Kind,.int .i64 l[j].Ch],.agg #[.int .i64 l[k].Kind,.int .i64 l[k].Ch]] (.bool true) rfl (fun w2 hw2 => by go_simp) (fun w2 hw2 => (zhc _ _ _ _ _).mono (fun e w3 hh => ⟨hh.1.trans (by rw [HL.out]),hh.2⟩)) ?_
  intro K hK;go_simp;refine hK _ ?_;clear hK K
  repeat (first | (refine zqk rfl ?_;intro K hK;go_simp;refine hK _ ?_;clear hK K) | (refine zqj ?_ rfl ?_ ?_;rotate_left;(focus (intro w2 hw2;obtain ⟨k0,k1,k2,j0,j1⟩:=HK.out w2 hw2;go_simp;rfl));intro K hK;go_simp;refine hK _ ?_;clear hK K))
  refine zxh ?_;intro w9 hb9
  obtain ⟨g0,g1,g2⟩:=KQ.out w9 hb9
  clear HK
  go_wp2_with fail
  go_roundw
  case rel => exact ⟨k + 1,_,by omega,by go_num,rfl,hd_ (by rw [ztt,HALL.out,HO.out];rfl),hd_ (by rw [zht l hlt,HS.out]),by omega,bl_⟩
  case measure => simp [intOf];omega
end Go.Proofs.YtdbmkfmenfcbiaaGreat
namespace Go.Proofs.YtdbmkfmenfcbiaaGreat
open Go.RowKit
def mulR (a b c : Int) : Int:=if mulArgs a b c = true then divR a b c else 0
theorem zgs (a b c : Int) (w : World) (h : mulArgs a b c = false) :
  Calls Tryz.prog 169 #[.int .i64 a,.int .i64 b,.int .i64 c] w fun e w' => e = .returned (.tuple #[.int .i64 0,.int .i64 0,.bool false])∧w = w':=by
 cases hA : amtB a <;> cases hB : amtB b <;> cases hC : inB c 1 1125899906842624
 case true.true.true =>
  obtain ⟨h1,h2⟩:=zjj.1 hC
  simp [mulArgs,hA,hB] at h
  omega
 all_goals
  clear h
  go_enter Tryz.func169,Tryz.ntmps169
  go_wp2_with (first | (go_at_call 50;refine (zqo _ _).mono ?_;rintro e w' ⟨rfl,rfl⟩) | (go_at_call 82;refine (i_in _ _ _ _).mono ?_;rintro e w' ⟨rfl,rfl⟩))
  go_ret3
  exact ⟨rfl,rfl⟩
theorem zpd (a b c : Nat) (w : World) (ha : a ≤ 1125899906842624) (hb : b ≤ 1125899906842624) (h1 : 1 ≤ c) (hc : c ≤ 1125899906842624) :
  Calls Tryz.prog 169 #[.int .i64 a,.int .i64 b,.int .i64 c] w fun e w' => e = .returned (.tuple #[.int .i64 (divQ a b c),.int .i64 (divR a b c),.bool (divB a b c)])∧Below w.heap.size w w':=by
 have hA:=hd_ (zja.2 ⟨Int.natCast_nonneg a,by omega⟩)
 have hB:=hd_ (zja.2 ⟨Int.natCast_nonneg b,by omega⟩)
 have hC : inB (c : Int) 1 1125899906842624 = true:=zjj.2 ⟨by omega,by omega⟩
 have hdm:=Nat.div_add_mod (a * b) 18446744073709551616
 have hlo : a * b % 18446744073709551616 < 18446744073709551616:=Nat.mod_lt _ (by decide)
 have hhi : a * b / 18446744073709551616 < 18446744073709551616:=by
  have : a * b ≤ 1125899906842624 * 1125899906842624:=Nat.mul_le_mul ha hb
  omega
 have hq : divB (a : Int) (b : Int) (c : Int) = decide (a * b / c ≤ 1125899906842624):=by
  unfold divB
  rw [← Int.natCast_mul,← Int.natCast_ediv]
  exact decide_eq_decide.2 (by omega)
 have hQ : divQ (a : Int) (b : Int) (c : Int) = if a * b / c ≤ 1125899906842624 then ((a * b / c : Nat) : Int) else 0:=by
  unfold divQ
  rw [hq,← Int.natCast_mul,← Int.natCast_ediv]
  simp only [decide_eq_true_eq]
 have hR : divR (a : Int) (b : Int) (c : Int) = if a * b / c ≤ 1125899906842624 then ((a * b % c : Nat) : Int) else 0:=by
  unfold divR
  rw [hq,← Int.natCast_mul,← Int.natCast_emod]
  simp only [decide_eq_true_eq]
 rw [hq,hQ,hR]
 have MUL:=fun W => bits_Mul64 a b (by omega) (by omega) W
 obtain ⟨lo,elo⟩ : ∃ lo,a * b % 18446744073709551616 = lo:=⟨_,rfl⟩
 obtain ⟨hi,ehi⟩ : ∃ hi,a * b / 18446744073709551616 = hi:=⟨_,rfl⟩
 rw [elo] at MUL hlo hdm
 rw [ehi] at MUL hhi hdm
 have hab : hi * 18446744073709551616 + lo = a * b:=by omega
 clear hq hQ hR elo ehi hdm
 by_cases hbig : c ≤ hi
 ·
  have hqb : ¬ a * b / c ≤ 1125899906842624:=by
   rw [← hab]
   intro hh
   have h2 : c * 18446744073709551616 ≤ hi * 18446744073709551616:=Nat.mul_le_mul_right _ hbig
   have h3:=Nat.lt_mul_div_succ (hi * 18446744073709551616 + lo) (show 0 < c by omega)
   have h4 : c * ((hi * 18446744073709551616 + lo) / c + 1) ≤ c * 1125899906842625:=Nat.mul_le_mul_left _ (by omega)
   omega
  have HQ:=hd_ hqb
  have HAB:=hd_ hab
  have HM:=hd_ MUL
  have HC:=hd_ hC
  clear hqb hab MUL hC
  go_enter Tryz.func169,Tryz.ntmps169
  go_wp2_with (first | (go_at_call 50;refine (zqo _ _).mono ?_;rintro e w' ⟨rfl,rfl⟩;try rw [hA.out];try rw [hB.out]) | (go_at_call 82;refine (i_in _ _ _ _).mono ?_;rintro e w' ⟨rfl,rfl⟩;rw [HC.out]))
  refine (HM.out _).mono ?_
  rintro e w' ⟨rfl,rfl⟩
  go_wp2_with fail
  go_ret3
  refine ⟨by simp,Below.refl _ _⟩
 have hbig' : hi < c:=by omega
 have HAB:=hd_ hab
 have HM:=hd_ MUL
 have HC:=hd_ hC
 have HD:=hd_ (fun W => bits_Div64 hi lo c W hlo (by omega) hbig')
 clear hab MUL hC hbig'
 by_cases hqb : a * b / c ≤ 1125899906842624
 ·
  have HQ:=hd_ hqb
  have hrl : a * b % c < c:=Nat.mod_lt _ (by omega)
  have HDD : Hid (∀ W,Calls Tryz.prog 171 #[.int .u64 hi,.int .u64 lo,.int .u64 c] W fun e w' => e = .returned (.tuple #[.int .u64 ((a * b / c : Nat) : Int),.int .u64 ((a * b % c : Nat) : Int)])∧Below W.heap.size W w'):=hd_ (by rw [← HAB.out];exact HD)
  generalize a * b / c = Q at hqb HQ HDD
  generalize a * b % c = R at hrl HDD
  clear HD
  go_enter Tryz.func169,Tryz.ntmps169
  go_wp2_with (first | (go_at_call 50;refine (zqo _ _).mono ?_;rintro e w' ⟨rfl,rfl⟩;try rw [hA.out];try rw [hB.out]) | (go_at_call 82;refine (i_in _ _ _ _).mono ?_;rintro e w' ⟨rfl,rfl⟩;rw [HC.out]))
  refine (HM.out _).mono ?_
  rintro e w' ⟨rfl,rfl⟩
  go_wp2_with fail
  refine (HDD.out _).mono ?_
  rintro e w1 ⟨rfl,hb1⟩
  go_wp2_with fail
  go_ret3
  refine ⟨by simp,hb1⟩
 have HQ:=hd_ hqb
 have HDD : Hid (∀ W,Calls Tryz.prog 171 #[.int .u64 hi,.int .u64 lo,.int .u64 c] W fun e w' => e = .returned (.tuple #[.int .u64 ((a * b / c : Nat) : Int),.int .u64 ((a * b % c : Nat) : Int)])∧Below W.heap.size W w'):=hd_ (by rw [← HAB.out];exact HD)
 generalize a * b / c = Q at hqb HQ HDD
 generalize a * b % c = R at HDD
 clear HD
 go_enter Tryz.func169,Tryz.ntmps169
 go_wp2_with (first | (go_at_call 50;refine (zqo _ _).mono ?_;rintro e w' ⟨rfl,rfl⟩;try rw [hA.out];try rw [hB.out]) | (go_at_call 82;refine (i_in _ _ _ _).mono ?_;rintro e w' ⟨rfl,rfl⟩;rw [HC.out]))
 refine (HM.out _).mono ?_
 rintro e w' ⟨rfl,rfl⟩
 go_wp2_with fail
 refine (HDD.out _).mono ?_
 rintro e w1 ⟨rfl,hb1⟩
 go_wp2_with fail
 go_ret3
 refine ⟨by simp,hb1⟩
theorem zhb (a b c : Int) (w : World) :
  Calls Tryz.prog 169 #[.int .i64 a,.int .i64 b,.int .i64 c] w fun e w' => e = .returned (.tuple #[.int .i64 (mulQ a b c),.int .i64 (mulR a b c),.bool (mulOk a b c)])∧Below w.heap.size w w':=by
 cases h : mulArgs a b c
 ·
  refine (zgs a b c w h).mono fun e w' hh => ?_
  obtain ⟨rfl,rfl⟩:=hh
  exact ⟨by simp [mulQ,mulR,mulOk,h],Below.refl _ _⟩
 have h':=h
 simp only [mulArgs,Bool.and_eq_true,decide_eq_true_eq,zja] at h'
 obtain ⟨⟨⟨⟨a1,a2⟩,b1,b2⟩,c1⟩,c2⟩:=h'
 obtain ⟨a,rfl⟩:=Int.eq_ofNat_of_zero_le a1
 obtain ⟨b,rfl⟩:=Int.eq_ofNat_of_zero_le b1
 obtain ⟨c,rfl⟩:=Int.eq_ofNat_of_zero_le (by omega : 0 ≤ c)
 refine (zpd a b c w (by omega) (by omega) (by omega) (by omega)).mono fun e w' hh => ?_
 obtain ⟨rfl,hb⟩:=hh
 exact ⟨by simp [mulQ,mulR,mulOk,h],hb⟩
end Go.Proofs.YtdbmkfmenfcbiaaGreat
