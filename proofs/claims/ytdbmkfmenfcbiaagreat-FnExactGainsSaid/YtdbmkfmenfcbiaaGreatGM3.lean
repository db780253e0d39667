/- Act · ICo · STick: each text proves what its theorems say, with no conditions but theirs. -/
import Derived.Test.YtdbmkfmenfcbiaaGreatGM2
import Derived.Test.YtdbmkfmenfcbiaaGreatRows
import Derived.Test.YtdbmkfmenfcbiaaGreatGM1
namespace Go.Proofs.YtdbmkfmenfcbiaaGreat
open Go.RowKit Go.Deep
def Acts (T : TypeId) (w : World) (B X : Nat) (o : Out) (e : Ending) (w' : World) : Prop :=
 (o.code = 0∧∃ b',o.b = { b' with n:=if o.l = [] then b'.n else b'.n + 1 }∧Done T w B X b' o.l 0 e w') ∨ (o.code ≠ 0∧∃ b' L',Done T w B X b' L' o.code e w')
theorem Acts.ok {T : TypeId} {w w' : World} {B X : Nat} {e : Ending} {b' : Bk} {l : List Line} (h : Done T w B X b' l 0 e w') : Acts T w B X (done b' l) e w':=.inl ⟨rfl,b',rfl,h⟩
theorem Acts.no {T : TypeId} {w w' : World} {B X : Nat} {e : Ending} {b' : Bk} {L' : List Line} {c : Int} (hc : c ≠ 0) (h : Done T w B X b' L' c e w') : Acts T w B X (bad c) e w':=.inr ⟨hc,b',L',h⟩
theorem Done.trans {T : TypeId} {w0 w w' : World} {B X : Nat} {b b' : Bk} {L L' : List Line} {code code' : Int} {e : Ending} {A1 A2 A3 A4 : Option Addr} {p1 p2 p3 p4 : Nat} (h0 : Wk T w0 w B X b L code A1 A2 A3 A4 p1 p2 p3 p4) (h : Done T w B X b' L' code' e w') : Done T w0 B X b' L' code' e w':=by
 obtain ⟨C1,C2,C3,C4,q1,q2,q3,q4,he,h⟩:=h
 exact ⟨C1,C2,C3,C4,q1,q2,q3,q4,he,h0.trans h⟩
theorem zqr (l : List Line) (k c a : Int) : (lineTo l k c a).length ≤ l.length + 1:=by
 unfold lineTo
 split
 ·
  omega
 ·
  exact zgq _ _
theorem zjw {α : Type} {l : List α} {p : α → Bool} {k : Nat} (hk : k < l.length) : (l.take (k + 1)).filter p = (l.take k).filter p ++ (if p l[k] = true then [l[k]] else []):=by
 rw [List.take_succ_eq_append_getElem hk,List.filter_append]
 congr 1
 rw [List.filter_cons]
 split <;> rfl
/-! ### a new channel -/
def stepI (one : Chan) (r : Bool × List Chan) (c : Chan) : Bool × List Chan:=if (!r.1 && decide (c.Id > one.Id)) = true then (true,r.2 ++ [one] ++ [c]) else (r.1,r.2 ++ [c])
def finI (one : Chan) (r : Bool × List Chan) : List Chan:=if r.1 = true then r.2 else r.2 ++ [one]
theorem ztd (one : Chan) : ∀ (cs o : List Chan),cs.foldl (stepI one) (true,o) = (true,o ++ cs)
 | [],o => by simp
 | c :: cs,o => by
  rw [List.foldl_cons,show stepI one (true,o) c = (true,o ++ [c]) from rfl,ztd one cs]
  simp
theorem zmz (one : Chan) : ∀ (cs o : List Chan),(∀ c ∈ cs,c.Id ≠ one.Id) → finI one (cs.foldl (stepI one) (false,o)) = o ++ insC one cs
 | [],o,_ => by simp [finI,insC]
 | c :: cs,o,h => by
  rw [List.foldl_cons]
  have hc:=h c (by simp)
  by_cases h1 : one.Id < c.Id
  ·
   rw [show stepI one (false,o) c = (true,o ++ [one] ++ [c]) by simp [stepI,h1],ztd]
   have h2 : ¬ c.Id < one.Id:=by omega
   simp [finI,insC,h2]
  ·
   rw [show stepI one (false,o) c = (false,o ++ [c]) by simp [stepI,h1],zmz one cs _ (fun x hx => h x (by simp [hx]))]
   have h2 : c.Id < one.Id:=by omega
   simp [insC,h2]
theorem chanIx_neg {cs : List Chan} {ch : Int} (h : chanIx cs ch < 0) : ∀ c ∈ cs,c.Id ≠ ch:=by
 intro c hc he
 unfold chanIx at h
 split at h
 ·
  omega
 ·
  rename_i hn
  rw [List.findIdx?_eq_none_iff] at hn
  have:=hn c hc
  simp [notId,he] at this
theorem zpr (one : Chan) : ∀ (cs : List Chan) (r : Bool × List Chan),(cs.foldl (stepI one) r).2.length ≤ r.2.length + 2 * cs.length
 | [],r => by simp
 | c :: cs,r => by
  rw [List.foldl_cons]
  have h1:=zpr one cs (stepI one r c)
  have h2 : (stepI one r c).2.length ≤ r.2.length + 2:=by
   unfold stepI
   split <;> simp
  rw [List.length_cons]
  omega
/-! ### moves of channels -/
def Bd (n : Int) (cs : List Chan) : Prop:=∀ c ∈ cs,(-n ≤ c.Local∧c.Local ≤ n)∧(-n ≤ c.Remote∧c.Remote ≤ n)
theorem Bd.modify {n m : Int} {cs : List Chan} (h : Bd n cs) (i : Nat) (f : Chan → Chan) (hf : ∀ c,(-n ≤ c.Local∧c.Local ≤ n)∧(-n ≤ c.Remote∧c.Remote ≤ n) → (-m ≤ (f c).Local∧(f c).Local ≤ m)∧(-m ≤ (f c).Remote∧(f c).Remote ≤ m)) (hnm : n ≤ m) : Bd m (cs.modify i f):=by
 intro c hc
 obtain ⟨j,hj,rfl⟩:=List.mem_iff_getElem.1 hc
 rw [List.getElem_modify]
 have hj' : j < cs.length:=by rw [List.length_modify] at hj;exact hj
 have h1:=h _ (List.getElem_mem hj')
 split
 ·
  exact hf _ h1
 ·
  omega
theorem Bd.move {n k : Int} {cs : List Chan} (h : Bd n cs) (ch dl dr : Int) (h1 : -k ≤ dl∧dl ≤ k) (h2 : -k ≤ dr∧dr ≤ k) : Bd (n + k) (moveC cs ch dl dr) :=
 Bd.modify h _ (moveF dl dr) (fun c hc => by simp only [moveF];omega) (by omega)
theorem chanOf_mem {cs : List Chan} {ch : Int} (h : 0 ≤ chanIx cs ch) : chanOf cs ch ∈ cs:=by
 obtain ⟨i,hi⟩:=Int.eq_ofNat_of_zero_le h
 have hlt:=zxh hi
 unfold chanOf
 rw [hi,Int.toNat_natCast,List.getD_eq_getElem?_getD,List.getElem?_eq_getElem hlt]
 exact List.getElem_mem hlt
theorem ztk (cs : List Chan) (i : Nat) (f : Chan → Chan) (hf : ∀ c,(f c).Id = c.Id) (ch : Int) : chanIx (cs.modify i f) ch = chanIx cs ch:=by
 have h : ∀ (cs : List Chan) (i : Nat),(cs.modify i f).findIdx? (fun c => !notId ch c) = cs.findIdx? (fun c => !notId ch c):=by
  intro cs
  induction cs with
  | nil => intro i;simp
  | cons c cs ih =>
   intro i
   cases i with
   | zero => simp [List.findIdx?_cons,notId,hf]
   | succ i => simp [List.findIdx?_cons,ih]
 unfold chanIx
 rw [h]
theorem zxj (cs : List Chan) (a dl dr ch : Int) : chanIx (moveC cs a dl dr) ch = chanIx cs ch:=ztk cs _ (moveF dl dr) (fun _ => rfl) ch
theorem zxc (cs : List Chan) (a dl dr : Int) : (moveC cs a dl dr).length = cs.length:=by
 unfold moveC setCh
 rw [List.length_modify]
theorem Bd.at_ {n : Int} {cs : List Chan} (h : Bd n cs) {ch : Int} (hix : 0 ≤ chanIx cs ch) : (-n ≤ (chanOf cs ch).Local∧(chanOf cs ch).Local ≤ n)∧(-n ≤ (chanOf cs ch).Remote∧(chanOf cs ch).Remote ≤ n):=h _ (chanOf_mem hix)
theorem zkk {cs : List Chan} {ch : Int} {i : Nat} (hi : chanIx cs ch = (i : Int)) (hlt : i < cs.length) (f : Chan → Chan) : setCh cs ch f = cs.set i (f cs[i]):=by
 unfold setCh
 rw [hi,Int.toNat_natCast,zpg hlt]
theorem zxx {bt bn bw : Int} {cs : List Chan} {hs : List Htlc} {os : List Circle} (h : BookFacts bt bn bw cs hs os) : Bd 1125899906842624 cs:=by
 intro c hc
 obtain ⟨j,hj,rfl⟩:=List.mem_iff_getElem.1 hc
 have h1:=h.ch j hj
 simp only [chB,Bool.and_eq_true,zxu] at h1
 omega
section
variable {T : TypeId} {w0 w : World} {B X : Nat} {b : Bk} {L : List Line} {code : Int} {A1 A2 A3 A4 : Option Addr} {p1 p2 p3 p4 : Nat}
theorem Wk.putCell {g i j : Nat} {c' : Chan} {u : Value} (h : Wk T w0 w B X b L code (some ⟨g,0,none⟩) A2 A3 A4 p1 p2 p3 p4) (hT1 : 103 ≠ T) (hi : i < b.cs.length) (hj : j < 7) (hc : c'.cells = b.cs[i].cells.set j u) :
  Wk T w0 (w.setCell ⟨g,i * 7 + j,none⟩ u) B X ⟨b.t,b.n,b.w,b.cs.set i c',b.hs,b.os⟩ L code (some ⟨g,0,none⟩) A2 A3 A4 p1 p2 p3 p4:=by
 have hg:=zqg (World.grownBy.refl w (some g)) (i * 7 + j) u
 obtain ⟨cur,hh⟩:=h.o.c.heapW
 have hr : (b.cs.map Chan.cells)[i]? = some b.cs[i].cells:=by rw [List.getElem?_map,List.getElem?_eq_getElem hi];rfl
 have h7:=h.o.c.stored hr hj u
 have hgX : some X ≠ some g:=fun e => by
  injection e with e
  subst e
  rw [h.x] at hh
  injection hh with hh
  injection hh with _ hh
  exact hT1 hh.symm
 have hBg : B ≤ g:=(h.o.c.block g (by simp [Value.ownBlock])).1
 refine ⟨?_,⟨?_,?_,?_⟩,?_,?_,?_,h.bx⟩
 ·
  rw [List.length_set]
  exact zqj hg hgX h.x
 ·
  rw [List.length_set,zwf,hc]
  exact h7
 ·
  exact h.o.h.grown hg (Or.inr (h.o.h.ne_ hh (by decide)).symm)
 ·
  exact h.o.o.grown hg (Or.inr (h.o.o.ne_ hh (by decide)).symm)
 ·
  exact h.l.grown hg (Or.inr (h.l.ne_ hh (by decide)).symm)
 ·
  exact h.b.grown hg h.ble (fun k e => by injection e with e;omega)
 ·
  intro k cs t h1 h2
  have h3:=h.f k cs t h1 h2
  refine zqj hg ?_ h3
  intro e
  injection e with e
  subst e
  rw [hh] at h3
  injection h3 with h3
  injection h3 with _ h3
  exact h2 (by rw [← h3];simp [wkTs])
end
/-! ### a list that is mapped place by place -/
def mapTo {α : Type} (f : α → α) (l : List α) (k : Nat) : List α:=(l.take k).map f ++ l.drop k
theorem zka {α : Type} (f : α → α) (l : List α) : mapTo f l 0 = l:=by simp [mapTo]
theorem zkd {α : Type} (f : α → α) (l : List α) (k : Nat) : (mapTo f l k).length = l.length:=by simp [mapTo];omega
theorem zkn {α : Type} (f : α → α) (l : List α) : mapTo f l l.length = l.map f:=by simp [mapTo]
theorem zjh {α : Type} (f : α → α) {l : List α} {k : Nat} (h : k < l.length) : (mapTo f l k)[k]? = some l[k]:=by
 unfold mapTo
 rw [List.getElem?_append_right (by simp;omega)]
 simp only [List.length_map,List.length_take,Nat.min_eq_left (Nat.le_of_lt h),Nat.sub_self,List.getElem?_drop,Nat.add_zero]
 exact List.getElem?_eq_getElem h
theorem zke {α : Type} (f : α → α) {l : List α} {k : Nat} (h : k < l.length) : (mapTo f l k).set k (f l[k]) = mapTo f l (k + 1):=by
 unfold mapTo
 have e1 : l.drop k = l[k] :: l.drop (k + 1):=List.drop_eq_getElem_cons h
 rw [List.set_append_right _ _ (by simp;omega),e1]
 simp only [List.length_map,List.length_take,Nat.min_eq_left (Nat.le_of_lt h),Nat.sub_self,List.set_cons_zero]
 rw [List.take_succ_eq_append_getElem h,List.map_append,List.append_assoc]
 rfl
theorem zyy {α : Type} (f : α → α) {l : List α} {k : Nat} (h : k < l.length) (hf : f l[k] = l[k]) : mapTo f l k = mapTo f l (k + 1):=by
 rw [← zke f h,hf]
 apply List.ext_getElem?
 intro j
 rw [List.getElem?_set]
 by_cases hj : k = j
 ·
  subst hj
  rw [zjh f h]
  simp [zkd,h]
 ·
  simp [hj]
section
variable {T : TypeId} {w0 w : World} {B X : Nat} {b : Bk} {L : List Line} {code : Int} {A1 A2 A3 A4 : Option Addr} {p1 p2 p3 p4 : Nat}
theorem Wk.putCellH {g i j : Nat} {c c' : Htlc} {u : Value} (h : Wk T w0 w B X b L code A1 (some ⟨g,0,none⟩) A3 A4 p1 p2 p3 p4) (hT1 : 70 ≠ T) (hi : b.hs[i]? = some c) (hj : j < 7) (hc : c'.cells = c.cells.set j u) :
  Wk T w0 (w.setCell ⟨g,i * 7 + j,none⟩ u) B X ⟨b.t,b.n,b.w,b.cs,b.hs.set i c',b.os⟩ L code A1 (some ⟨g,0,none⟩) A3 A4 p1 p2 p3 p4:=by
 have hg:=zqg (World.grownBy.refl w (some g)) (i * 7 + j) u
 obtain ⟨cur,hh⟩:=h.o.h.heapW
 have hr : (b.hs.map Htlc.cells)[i]? = some c.cells:=by rw [List.getElem?_map,hi];rfl
 have h7:=h.o.h.stored hr hj u
 have hgX : some X ≠ some g:=fun e => by
  injection e with e
  subst e
  rw [h.x] at hh
  injection hh with hh
  injection hh with _ hh
  exact hT1 hh.symm
 have hBg : B ≤ g:=(h.o.h.block g (by simp [Value.ownBlock])).1
 refine ⟨?_,⟨?_,?_,?_⟩,?_,?_,?_,h.bx⟩
 ·
  rw [List.length_set]
  exact zqj hg hgX h.x
 ·
  exact h.o.c.grown hg (Or.inr (h.o.c.ne_ hh (by decide)).symm)
 ·
  rw [List.length_set,List.map_set,hc]
  exact h7
 ·
  exact h.o.o.grown hg (Or.inr (h.o.o.ne_ hh (by decide)).symm)
 ·
  exact h.l.grown hg (Or.inr (h.l.ne_ hh (by decide)).symm)
 ·
  exact h.b.grown hg h.ble (fun k e => by injection e with e;omega)
 ·
  intro k cs t h1 h2
  have h3:=h.f k cs t h1 h2
  refine zqj hg ?_ h3
  intro e
  injection e with e
  subst e
  rw [hh] at h3
  injection h3 with h3
  injection h3 with _ h3
  exact h2 (by rw [← h3];simp [wkTs])
theorem Wk.putCellC {g i j : Nat} {c c' : Chan} {u : Value} (h : Wk T w0 w B X b L code (some ⟨g,0,none⟩) A2 A3 A4 p1 p2 p3 p4) (hT1 : 103 ≠ T) (hi : b.cs[i]? = some c) (hj : j < 7) (hc : c'.cells = c.cells.set j u) :
  Wk T w0 (w.setCell ⟨g,i * 7 + j,none⟩ u) B X ⟨b.t,b.n,b.w,b.cs.set i c',b.hs,b.os⟩ L code (some ⟨g,0,none⟩) A2 A3 A4 p1 p2 p3 p4:=by
 obtain ⟨hlt,hci⟩:=List.getElem?_eq_some_iff.1 hi
 exact h.putCell hT1 hlt hj (by rw [hci];exact hc)
theorem Wk.appO (h : Wk T w0 w B X b L code A1 A2 A3 A4 p1 p2 p3 p4) (hT1 : 103 ≠ T) (hT2 : 70 ≠ T) (hT3 : 93 ≠ T) (hT4 : 99 ≠ T) {x : World} {g cap : Nat} {c : Circle} (how : Ow x B 93 5 (.slice (some ⟨g,0,none⟩) ((b.os.map Circle.cells).length + 1) cap) (b.os.map Circle.cells ++ [c.cells])) (hgr : w.grownBy x (Value.slice A3 b.os.length p3).ownBlock) :
  x.heap[X]? = some (.cells #[.int .i64 b.t,.int .i64 b.n,.int .i64 b.w,.slice A1 b.cs.length p1,.slice A2 b.hs.length p2,.slice A3 b.os.length p3,.slice A4 L.length p4,.int .i64 code] T (0,0)) ∧
   Wk T w0 (x.setCell ⟨X,5,none⟩ (.slice (some ⟨g,0,none⟩) (b.os.length + 1) cap)) B X ⟨b.t,b.n,b.w,b.cs,b.hs,b.os ++ [c]⟩ L code A1 A2 (some ⟨g,0,none⟩) A4 p1 p2 cap p4:=by
 have hx:=zqj hgr (h.o.o.ne_ h.x hT3) h.x
 have e1 : b.os.length + 1 = (b.os ++ [c]).length:=by simp
 have how' : Ow x B 93 5 (.slice (some ⟨g,0,none⟩) (b.os ++ [c]).length cap) ((b.os ++ [c]).map Circle.cells):=by
  rw [← e1,List.map_append]
  rw [List.length_map] at how
  exact how
 refine ⟨hx,⟨?_,⟨(h.o.c.apart_ h.o.o (by decide) hgr).aside hx hT1 _,(h.o.h.apart_ h.o.o (by decide) hgr).aside hx hT2 _,by rw [e1];exact how'.aside hx hT3 _⟩,(h.l.apart_ h.o.o (by decide) hgr).aside hx hT4 _,(h.b.grown hgr h.ble (fun k e => (h.o.o.block k e).1)).setCell h.bx _,(h.f.grown h.o.o (by simp [wkTs]) hgr).set hx (by simp [wkTs]) _,h.bx⟩⟩
 have h9:=zqa (i:=5) (u:=.slice (some ⟨g,0,none⟩) (b.os ++ [c]).length cap) hx
 rw [e1]
 exact h9
theorem Wk.appH (h : Wk T w0 w B X b L code A1 A2 A3 A4 p1 p2 p3 p4) (hT1 : 103 ≠ T) (hT2 : 70 ≠ T) (hT3 : 93 ≠ T) (hT4 : 99 ≠ T) {x : World} {g cap : Nat} {c : Htlc} (how : Ow x B 70 7 (.slice (some ⟨g,0,none⟩) ((b.hs.map Htlc.cells).length + 1) cap) (b.hs.map Htlc.cells ++ [c.cells])) (hgr : w.grownBy x (Value.slice A2 b.hs.length p2).ownBlock) :
  x.heap[X]? = some (.cells #[.int .i64 b.t,.int .i64 b.n,.int .i64 b.w,.slice A1 b.cs.length p1,.slice A2 b.hs.length p2,.slice A3 b.os.length p3,.slice A4 L.length p4,.int .i64 code] T (0,0)) ∧
   Wk T w0 (x.setCell ⟨X,4,none⟩ (.slice (some ⟨g,0,none⟩) (b.hs.length + 1) cap)) B X ⟨b.t,b.n,b.w,b.cs,b.hs ++ [c],b.os⟩ L code A1 (some ⟨g,0,none⟩) A3 A4 p1 cap p3 p4:=by
 have hx:=zqj hgr (h.o.h.ne_ h.x hT2) h.x
 have e1 : b.hs.length + 1 = (b.hs ++ [c]).length:=by simp
 have how' : Ow x B 70 7 (.slice (some ⟨g,0,none⟩) (b.hs ++ [c]).length cap) ((b.hs ++ [c]).map Htlc.cells):=by
  rw [← e1,List.map_append]
  rw [List.length_map] at how
  exact how
 refine ⟨hx,⟨?_,⟨(h.o.c.apart_ h.o.h (by decide) hgr).aside hx hT1 _,by rw [e1];exact how'.aside hx hT2 _,(h.o.o.apart_ h.o.h (by decide) hgr).aside hx hT3 _⟩,(h.l.apart_ h.o.h (by decide) hgr).aside hx hT4 _,(h.b.grown hgr h.ble (fun k e => (h.o.h.block k e).1)).setCell h.bx _,(h.f.grown h.o.h (by simp [wkTs]) hgr).set hx (by simp [wkTs]) _,h.bx⟩⟩
 have h9:=zqa (i:=4) (u:=.slice (some ⟨g,0,none⟩) (b.hs ++ [c]).length cap) hx
 rw [e1]
 exact h9
end
section
variable {T : TypeId} {w0 w w' : World} {B X : Nat} {b : Bk} {L : List Line} {code : Int} {A1 A2 A3 A4 : Option Addr} {p1 p2 p3 p4 : Nat}
theorem Wk.ownBox {g C : Nat} {cells : Array Value} (h : Wk T w0 w B X b L code (some ⟨g,0,none⟩) A2 A3 A4 p1 p2 p3 p4) (hX : C ≠ X) (hg : g ≠ C) (hB : B ≤ C) (hC : w.heap[C]? = some (.cells cells 103 (0,0))) (hgr : w.grownBy w' (some C)) : Wk T w0 w' B X b L code (some ⟨g,0,none⟩) A2 A3 A4 p1 p2 p3 p4:=by
 refine ⟨zqj hgr (fun e => hX (Option.some.inj e).symm) h.x,⟨h.o.c.grown hgr (Or.inr (fun e => hg (by simpa [Value.ownBlock] using e))),h.o.h.grown hgr (Or.inr (h.o.h.ne_ hC (by decide)).symm),h.o.o.grown hgr (Or.inr (h.o.o.ne_ hC (by decide)).symm)⟩,h.l.grown hgr (Or.inr (h.l.ne_ hC (by decide)).symm),h.b.grown hgr h.ble (fun k e => by injection e with e;omega),?_,h.bx⟩
 intro k cs t h1 h2
 have h3:=h.f k cs t h1 h2
 refine zqj hgr ?_ h3
 intro e
 injection e with e
 subst e
 rw [hC] at h3
 injection h3 with h3
 injection h3 with _ h3
 exact h2 (by rw [← h3];simp [wkTs])
end
theorem own8 {w : World} {X : Nat} {T : TypeId} {u0 u1 u2 u3 u4 u5 u6 u7 : Value} (h : w.heap[X]? = some (.cells #[u0,u1,u2,u3,u4,u5,u6,u7] T (0,0))) : True∧w.cell? ⟨X,0,none⟩ = some u0∧w.cell? ⟨X,1,none⟩ = some u1∧w.cell? ⟨X,2,none⟩ = some u2∧w.cell? ⟨X,3,none⟩ = some u3∧w.cell? ⟨X,4,none⟩ = some u4∧w.cell? ⟨X,5,none⟩ = some u5∧w.cell? ⟨X,6,none⟩ = some u6∧w.cell? ⟨X,7,none⟩ = some u7∧(∀ i,w.frozen? ⟨X,i,none⟩ = false)∧X < w.heap.size :=
 ⟨trivial,zqd h 0,zqd h 1,zqd h 2,zqd h 3,zqd h 4,zqd h 5,zqd h 6,zqd h 7,zqo h,(gz_ h).1⟩
end Go.Proofs.YtdbmkfmenfcbiaaGreat
namespace Go.Proofs.YtdbmkfmenfcbiaaGreat
open Go.RowKit Go.Deep
set_option maxRecDepth 100000 in
set_option maxHeartbeats 4000000 in
theorem i_copyBook (b : Bk) (A1 A2 A3 : Option Addr) (p1 p2 p3 : Nat) (w : World) (l1 : b.cs.length ≤ 1048576) (l2 : b.hs.length ≤ 1048576) (l3 : b.os.length ≤ 1048576) (hr : RdBook w w.heap.size A1 b.cs A2 b.hs A3 b.os) :
  Calls Tryz.prog 43 #[.agg #[.int .i64 b.t,.int .i64 b.n,.int .i64 b.w,.slice A1 b.cs.length p1,.slice A2 b.hs.length p2,.slice A3 b.os.length p3]] w (CopyP w b):=by
 obtain ⟨i0,hi,hz0,hz1,hz2⟩:=info_parts zjp
 obtain ⟨j0,hj,hy0,hy1,hy2⟩:=info_parts zjq
 obtain ⟨k0,hk,hx0,hx1,hx2⟩:=info_parts zje
 have HI0:=hd_ hi
 have HI1:=hd_ hz0
 have HI2:=hd_ hz1
 have HI3:=hd_ hz2
 have HJ0:=hd_ hj
 have HJ1:=hd_ hy0
 have HJ2:=hd_ hy1
 have HJ3:=hd_ hy2
 have HK0:=hd_ hk
 have HK1:=hd_ hx0
 have HK2:=hd_ hx1
 have HK3:=hd_ hx2
 have HR:=hd_ hr
 clear hi hz0 hz1 hz2 hj hy0 hy1 hy2 hk hx0 hx1 hx2 hr
 go_enter Tryz.func43,Tryz.ntmps43
 go_wp2_with (at_builtin;refine Stop.go ?_)
 refine Stop.on ?_
 refine zjs rfl _ _ _ rfl w.heap.size 103 i0 _ 7 56 Tryz.underlying35 HI0.out HI1.out HI2.out HI3.out rfl (by decide) _ _ [] 0 rfl (by rfl) Ow.nil_ A1 p1 (b.cs.map Chan.cells) b.cs.length (by rw [List.length_map]) (by rfl) w.heap.size (HR.out.c.below (bl_)) (zju b.cs) (by rw [List.length_map];simp only [List.length_nil];omega) (by decide) (by first | omega | (simp;done) | (simp;omega)) ?_
 intro C1 q1 w1 how1 hb1 hg1
 simp only [Nat.zero_add,List.nil_append] at how1 ⊢
 have kX : Hid (w1.heap[w.heap.size]? = some (.cells (bkC b A1 p1 A2 p2 A3 p3) 39 (0,0))):=hd_ (zqj hg1 (by first | (simp [Value.ownBlock];done) | (simp [Value.ownBlock];omega)) (zqe (by simp) (zqk rfl)))
 have kY : Hid (w1.heap[w.heap.size + 1]? = some (.cells #[.int .i64 0,.int .i64 0,.int .i64 0,.slice none 0 0,.slice none 0 0,.slice none 0 0] 39 (0,0))):=hd_ (zqj hg1 (by first | (simp [Value.ownBlock];done) | (simp [Value.ownBlock];omega)) (zqk (by simp)))
 have kB : Hid (Below w.heap.size w w1):=hd_ (bl_)
 have kO1:=hd_ how1
 clear how1 hb1 hg1
 obtain ⟨_,x0,x1,x2,x3,x4,x5,xf,xz⟩:=own6 (Below.refl _ _) (gz_ kX.out).1 kX.out
 obtain ⟨_,y0,y1,y2,y3,y4,y5,yf,_⟩:=own6 (Below.refl _ _) (gz_ kY.out).1 kY.out
 go_wp2_with (at_builtin;refine Stop.go ?_)
 refine Stop.on ?_
 clear x0 x1 x2 x3 x4 x5 xf y0 y1 y2 y3 y4 y5 yf
 obtain ⟨v1,hv1⟩ : ∃ v,w1.setCell ⟨w.heap.size,3,none⟩ (.slice C1 b.cs.length q1) = v:=⟨_,rfl⟩
 have hX1 : Hid (v1.heap[w.heap.size]? = some (.cells (bkC b C1 q1 A2 p2 A3 p3) 39 (0,0))):=hd_ (by rw [← hv1];exact zqa kX.out)
 have hY1 : Hid (v1.heap[w.heap.size + 1]? = some (.cells #[.int .i64 0,.int .i64 0,.int .i64 0,.slice none 0 0,.slice none 0 0,.slice none 0 0] 39 (0,0))):=hd_ (by rw [← hv1];exact zjn (by simp) kY.out)
 have hB1 : Hid (Below w.heap.size w v1):=hd_ (by rw [← hv1];exact kB.out.setCell (Nat.le_refl _) _)
 have hO1:=hd_ (show Ow v1 w.heap.size 103 7 (.slice C1 b.cs.length q1) (b.cs.map Chan.cells) by rw [← hv1];exact kO1.out.aside kX.out (by decide) _)
 have hs1 : w1.heap.size = v1.heap.size:=by rw [← hv1];simp
 rw [hv1]
 try rw [hs1]
 clear hs1 hv1 kX kY kB xz kO1
 obtain ⟨_,x0,x1,x2,x3,x4,x5,xf,xz⟩:=own6 (Below.refl _ _) (gz_ hX1.out).1 hX1.out
 have yz:=(gz_ hY1.out).1
 refine zjs rfl _ _ _ rfl w.heap.size 70 j0 _ 7 56 Tryz.underlying36 HJ0.out HJ1.out HJ2.out HJ3.out rfl (by decide) _ _ [] 0 rfl (by rfl) Ow.nil_ A2 p2 (b.hs.map Htlc.cells) b.hs.length (by rw [List.length_map]) (by rfl) w.heap.size (HR.out.h.below (bl_)) (zwb b.hs) (by rw [List.length_map];simp only [List.length_nil];omega) (by decide) (by first | omega | (simp;done) | (simp;omega)) ?_
 intro C2 q2 w2 how2 hb2 hg2
 simp only [Nat.zero_add,List.nil_append] at how2 ⊢
 have kX : Hid (w2.heap[w.heap.size]? = some (.cells (bkC b C1 q1 A2 p2 A3 p3) 39 (0,0))):=hd_ (zqj hg2 (by first | (simp [Value.ownBlock];done) | (simp [Value.ownBlock];omega)) hX1.out)
 have kY : Hid (w2.heap[w.heap.size + 1]? = some (.cells #[.int .i64 0,.int .i64 0,.int .i64 0,.slice none 0 0,.slice none 0 0,.slice none 0 0] 39 (0,0))):=hd_ (zqj hg2 (by first | (simp [Value.ownBlock];done) | (simp [Value.ownBlock];omega)) hY1.out)
 have kB : Hid (Below w.heap.size w w2):=hd_ (bl_)
 have kO1:=hd_ (hO1.out.below ⟨hg2.os,hg2.tape,hg2.output,hg2.size,fun k9 h9 => hg2.block k9 h9 (by simp [Value.ownBlock])⟩)
 clear xf xz yz x0 x1 x2 x3 x4 x5 hO1 hX1 hY1 hB1
 have kO2:=hd_ how2
 clear how2 hb2 hg2
 obtain ⟨_,x0,x1,x2,x3,x4,x5,xf,xz⟩:=own6 (Below.refl _ _) (gz_ kX.out).1 kX.out
 obtain ⟨_,y0,y1,y2,y3,y4,y5,yf,_⟩:=own6 (Below.refl _ _) (gz_ kY.out).1 kY.out
 go_wp2_with (at_builtin;refine Stop.go ?_)
 refine Stop.on ?_
 clear x0 x1 x2 x3 x4 x5 xf y0 y1 y2 y3 y4 y5 yf
 obtain ⟨v2,hv2⟩ : ∃ v,w2.setCell ⟨w.heap.size,4,none⟩ (.slice C2 b.hs.length q2) = v:=⟨_,rfl⟩
 have hX2 : Hid (v2.heap[w.heap.size]? = some (.cells (bkC b C1 q1 C2 q2 A3 p3) 39 (0,0))):=hd_ (by rw [← hv2];exact zqa kX.out)
 have hY2 : Hid (v2.heap[w.heap.size + 1]? = some (.cells #[.int .i64 0,.int .i64 0,.int .i64 0,.slice none 0 0,.slice none 0 0,.slice none 0 0] 39 (0,0))):=hd_ (by rw [← hv2];exact zjn (by simp) kY.out)
 have hB2 : Hid (Below w.heap.size w v2):=hd_ (by rw [← hv2];exact kB.out.setCell (Nat.le_refl _) _)
 have hO1:=hd_ (show Ow v2 w.heap.size 103 7 (.slice C1 b.cs.length q1) (b.cs.map Chan.cells) by rw [← hv2];exact kO1.out.aside kX.out (by decide) _)
 have hO2:=hd_ (show Ow v2 w.heap.size 70 7 (.slice C2 b.hs.length q2) (b.hs.map Htlc.cells) by rw [← hv2];exact kO2.out.aside kX.out (by decide) _)
 have hs2 : w2.heap.size = v2.heap.size:=by rw [← hv2];simp
 rw [hv2]
 try rw [hs2]
 clear hs2 hv2 kX kY kB xz kO1 kO2
 obtain ⟨_,x0,x1,x2,x3,x4,x5,xf,xz⟩:=own6 (Below.refl _ _) (gz_ hX2.out).1 hX2.out
 have yz:=(gz_ hY2.out).1
 refine zjs rfl _ _ _ rfl w.heap.size 93 k0 _ 5 40 Tryz.underlying37 HK0.out HK1.out HK2.out HK3.out rfl (by decide) _ _ [] 0 rfl (by rfl) Ow.nil_ A3 p3 (b.os.map Circle.cells) b.os.length (by rw [List.length_map]) (by rfl) w.heap.size (HR.out.o.below (bl_)) (zkq b.os) (by rw [List.length_map];simp only [List.length_nil];omega) (by decide) (by first | omega | (simp;done) | (simp;omega)) ?_
 intro C3 q3 w3 how3 hb3 hg3
 simp only [Nat.zero_add,List.nil_append] at how3 ⊢
 have kX : Hid (w3.heap[w.heap.size]? = some (.cells (bkC b C1 q1 C2 q2 A3 p3) 39 (0,0))):=hd_ (zqj hg3 (by first | (simp [Value.ownBlock];done) | (simp [Value.ownBlock];omega)) hX2.out)
 have kY : Hid (w3.heap[w.heap.size + 1]? = some (.cells #[.int .i64 0,.int .i64 0,.int .i64 0,.slice none 0 0,.slice none 0 0,.slice none 0 0] 39 (0,0))):=hd_ (zqj hg3 (by first | (simp [Value.ownBlock];done) | (simp [Value.ownBlock];omega)) hY2.out)
 have kB : Hid (Below w.heap.size w w3):=hd_ (bl_)
 have kO1:=hd_ (hO1.out.below ⟨hg3.os,hg3.tape,hg3.output,hg3.size,fun k9 h9 => hg3.block k9 h9 (by simp [Value.ownBlock])⟩)
 have kO2:=hd_ (hO2.out.below ⟨hg3.os,hg3.tape,hg3.output,hg3.size,fun k9 h9 => hg3.block k9 h9 (by simp [Value.ownBlock])⟩)
 clear xf xz yz x0 x1 x2 x3 x4 x5 hO1 hO2 hX2 hY2 hB2
 have kO3:=hd_ how3
 clear how3 hb3 hg3
 obtain ⟨_,x0,x1,x2,x3,x4,x5,xf,xz⟩:=own6 (Below.refl _ _) (gz_ kX.out).1 kX.out
 obtain ⟨_,y0,y1,y2,y3,y4,y5,yf,_⟩:=own6 (Below.refl _ _) (gz_ kY.out).1 kY.out
 go_wp2_with (at_builtin;refine Stop.go ?_)
 clear x0 x1 x2 x3 x4 x5 xf y0 y1 y2 y3 y4 y5 yf
 obtain ⟨v3,hv3⟩ : ∃ v,w3.setCell ⟨w.heap.size,5,none⟩ (.slice C3 b.os.length q3) = v:=⟨_,rfl⟩
 have hX3 : Hid (v3.heap[w.heap.size]? = some (.cells (bkC b C1 q1 C2 q2 C3 q3) 39 (0,0))):=hd_ (by rw [← hv3];exact zqa kX.out)
 have hY3 : Hid (v3.heap[w.heap.size + 1]? = some (.cells #[.int .i64 0,.int .i64 0,.int .i64 0,.slice none 0 0,.slice none 0 0,.slice none 0 0] 39 (0,0))):=hd_ (by rw [← hv3];exact zjn (by simp) kY.out)
 have hB3 : Hid (Below w.heap.size w v3):=hd_ (by rw [← hv3];exact kB.out.setCell (Nat.le_refl _) _)
 have hO1:=hd_ (show Ow v3 w.heap.size 103 7 (.slice C1 b.cs.length q1) (b.cs.map Chan.cells) by rw [← hv3];exact kO1.out.aside kX.out (by decide) _)
 have hO2:=hd_ (show Ow v3 w.heap.size 70 7 (.slice C2 b.hs.length q2) (b.hs.map Htlc.cells) by rw [← hv3];exact kO2.out.aside kX.out (by decide) _)
 have hO3:=hd_ (show Ow v3 w.heap.size 93 5 (.slice C3 b.os.length q3) (b.os.map Circle.cells) by rw [← hv3];exact kO3.out.aside kX.out (by decide) _)
 have hs3 : w3.heap.size = v3.heap.size:=by rw [← hv3];simp
 rw [hv3]
 try rw [hs3]
 clear hs3 hv3 kX kY kB xz kO1 kO2 kO3
 obtain ⟨_,x0,x1,x2,x3,x4,x5,xf,xz⟩:=own6 (Below.refl _ _) (gz_ hX3.out).1 hX3.out
 have yz:=(gz_ hY3.out).1
 obtain ⟨vr,hvr⟩ : ∃ v,(((((v3.setCell ⟨w.heap.size + 1,0,none⟩ (.int .i64 b.t)).setCell ⟨w.heap.size + 1,1,none⟩ (.int .i64 b.n)).setCell ⟨w.heap.size + 1,2,none⟩ (.int .i64 b.w)).setCell ⟨w.heap.size + 1,3,none⟩ (.slice C1 b.cs.length q1)).setCell ⟨w.heap.size + 1,4,none⟩ (.slice C2 b.hs.length q2)).setCell ⟨w.heap.size + 1,5,none⟩ (.slice C3 b.os.length q3) = v:=⟨_,rfl⟩
 have hR : Hid (vr.heap[w.heap.size + 1]? = some (.cells (bkC b C1 q1 C2 q2 C3 q3) 39 (0,0))):=hd_ (by rw [← hvr];exact zqa (zqa (zqa (zqa (zqa (zqa hY3.out))))))
 have hG : Hid (v3.grownBy vr (some (w.heap.size + 1))):=hd_ (by rw [← hvr];exact zqg (zqg (zqg (zqg (zqg (zqg (World.grownBy.refl v3 (some (w.heap.size + 1))) _ _) _ _) _ _) _ _) _ _) _ _)
 rw [hvr]
 clear hvr x0 x1 x2 x3 x4 x5 xf xz yz
 obtain ⟨_,y0,y1,y2,y3,y4,y5,yf,_⟩:=own6 (Below.refl _ _) (gz_ hR.out).1 hR.out
 refine bodyPost_ret (v:=.agg #[.int .i64 b.t,.int .i64 b.n,.int .i64 b.w,.slice C1 b.cs.length q1,.slice C2 b.hs.length q2,.slice C3 b.os.length q3]) (by simp [results,Tryz.results43,go_sem, *]) rfl ?_
 refine ⟨_,_,_,_,_,_,rfl,⟨hO1.out.grown hG.out (Or.inr (hO1.out.ne_ hY3.out (by decide)).symm),hO2.out.grown hG.out (Or.inr (hO2.out.ne_ hY3.out (by decide)).symm),hO3.out.grown hG.out (Or.inr (hO3.out.ne_ hY3.out (by decide)).symm)⟩,hB3.out.grown hG.out (by have:=hB3.out.size;omega) (fun k e => by injection e with e;omega)⟩
end Go.Proofs.YtdbmkfmenfcbiaaGreat
namespace Go.Proofs.YtdbmkfmenfcbiaaGreat
open Go.RowKit Go.Deep
theorem tickB_2 {b : Bk} (h : b.t = 1125899906842624) : tickB b = bad 2:=by unfold tickB;rw [if_pos h]
theorem zps {b : Bk} (h : b.t ≠ 1125899906842624) (h5 : (b.t + 1) % 5 = 0) : tickB b = done ⟨b.t + 1,b.n,b.w,b.cs.map fadeC,b.hs.map olderH,b.os⟩ []:=by unfold tickB;rw [if_neg h,if_pos h5]
theorem zsp {b : Bk} (h : b.t ≠ 1125899906842624) (h5 : (b.t + 1) % 5 ≠ 0) : tickB b = done ⟨b.t + 1,b.n,b.w,b.cs,b.hs.map olderH,b.os⟩ []:=by unfold tickB;rw [if_neg h,if_neg h5]
set_option maxRecDepth 100000 in
set_option maxHeartbeats 4000000 in
theorem s_l07Tick (w0 w : World) (B X : Nat) (b : Bk) (A1 A2 A3 A4 : Option Addr) (p1 p2 p3 p4 : Nat) (hF : BookFacts b.t b.n b.w b.cs b.hs b.os) (h : Wk 108 w0 w B X b [] 0 A1 A2 A3 A4 p1 p2 p3 p4) :
  Calls Tryz.prog 72 #[.pointer (some ⟨X,0,none⟩)] w (Acts 108 w B X (tickB b)):=by
 have H:=hd_ h.here
 clear h
 obtain ⟨L,hL⟩ : ∃ L : List Line,L = []:=⟨_,rfl⟩
 rw [← hL] at H
 have HL:=hd_ hL
 clear hL
 obtain ⟨m1,m2⟩:=hF.t
 have hcl:=hF.cl
 have h60:=hF.small.hl
 have HAge : Hid (∀ k,(hk : k < b.hs.length) → 0 ≤ b.hs[k].Age∧b.hs[k].Age ≤ 1125899906842624):=hd_ (fun k hk => by have hp:=hF.parts;simp only [partsB,Bool.and_eq_true] at hp;have h1:=List.all_eq_true.1 hp.1.1 _ (List.getElem_mem hk);simp only [htlcB,Bool.and_eq_true,zxu] at h1;exact h1.2)
 clear hF
 cases t1 : (b.t == 1125899906842624)
 ·
  have hne:=hd_ (beq_eq_false_iff_ne.1 t1)
  have m3 : b.t < 1125899906842624:=by have:=hne.out;omega
  cases t5 : ((b.t + 1) % 5 == 0)
  ·
   have HO:=hd_ (zsp (b:=b) hne.out (beq_eq_false_iff_ne.1 t5))
   have HW_w:=H
   clear H
   obtain ⟨a0,a1,a2,a3,a4,a5,a6,a7,af,az⟩:=HW_w.out.open_
   go_enter Tryz.func72,Tryz.ntmps72
   go_wp2_with fail
   refine (zqm _ _ B X b L A1 A2 A3 A4 p1 p2 p3 p4 2 HW_w.out).mono ?_
   rintro e' wz ⟨rfl,rfl⟩
   clear t1
   go_wp2_with fail
   refine nm_ ?_
   intro w1 hw
   have HW_w1 : Hid (Wk 108 w w1 B X ⟨(b.t + 1),b.n,b.w,b.cs,b.hs,b.os⟩ L 0 A1 A2 A3 A4 p1 p2 p3 p4):=hd_ (by rw [hw];exact HW_w.out.setTick (by decide) (by decide) (by decide) (by decide) _)
   clear hw
   clear a0 a1 a2 a3 a4 a5 a6 a7 af az
   obtain ⟨a0,a1,a2,a3,a4,a5,a6,a7,af,az⟩:=HW_w1.out.open_
   clear a0 a1 a2 a3 a4 a5 a6 a7 af az
   go_loopw [27] (fun i wr => ∃ k : Nat,k ≤ b.hs.length∧i = .int .i64 k∧Hid (Wk 108 w wr B X ⟨(b.t + 1),b.n,b.w,b.cs,mapTo olderH b.hs k,b.os⟩ L 0 A1 A2 A3 A4 p1 p2 p3 p4)) (fun i _ => b.hs.length - (intOf i).toNat)
   case atStart => exact ⟨0,Nat.zero_le _,rfl,by rw [zka];exact HW_w1⟩
   case round =>
    obtain ⟨k,hk,rfl,HR⟩:=hrel
    have HW_wr:=HR
    clear HR
    have hml:=zkd olderH b.hs k
    have HML:=hd_ hml
    clear hml
    obtain ⟨a0,a1,a2,a3,a4,a5,a6,a7,af,az⟩:=HW_wr.out.open_
    simp only at a0 a1 a2 a3 a4 a5 a6
    rw [HML.out] at a4
    by_cases hlt : k < b.hs.length
    ·
     obtain ⟨g2,hA,hBg⟩:=HW_wr.out.o.h.headW (by rw [List.length_map,HML.out];omega)
     subst hA
     have HRow : Hid (((mapTo olderH b.hs k).map Htlc.cells)[k]? = some b.hs[k].cells):=hd_ (by rw [List.getElem?_map,zjh olderH hlt];rfl)
     have c6:=HW_wr.out.o.h.cellAt HRow.out (j:=6) (by decide)
     simp only [Htlc.cells,List.getElem?_cons_zero,List.getElem?_cons_succ] at c6
     have cf:=fun j => HW_wr.out.o.h.frozenAt j
     obtain ⟨ma,mb⟩:=HAge.out k hlt
     have j0 : (0 : Int) ≤ (k : Int):=by omega
     have j1 : (k : Int) < (b.hs.length : Int):=by omega
     cases tx : decide (b.hs[k].Age < 1125899906842624)
     ·
      have KS:=hd_ (show olderH b.hs[k] = b.hs[k] by unfold olderH;rw [if_neg (of_decide_eq_false tx)])
      go_wp2_with fail
      go_roundw
      case rel => exact ⟨k + 1,by omega,by go_num,by rw [← zyy olderH hlt KS.out];exact HW_wr⟩
      case measure => simp [intOf];omega
     ·
      have KS:=hd_ (show olderH b.hs[k] = { b.hs[k] with Age:=b.hs[k].Age + 1 } by unfold olderH;rw [if_pos (of_decide_eq_true tx)])
      go_wp2_with fail
      go_roundw
      case rel => exact ⟨k + 1,by omega,by go_num,hd_ (by have h9:=HW_wr.out.putCellH (i:=k) (j:=6) (c:=b.hs[k]) (c':={ b.hs[k] with Age:=b.hs[k].Age + 1 }) (u:=.int .i64 (b.hs[k].Age + 1)) (by decide) (zjh olderH hlt) (by decide) rfl;rw [← KS.out,zke olderH hlt] at h9;exact h9)⟩
      case measure => simp [intOf];omega
    ·
     obtain rfl : k = b.hs.length:=by omega
     go_wp2_with fail
     clear a0 a1 a2 a3 a4 a5 a6 a7 af az
     rw [zkn] at HW_wr
     clear HML hk
     obtain ⟨wo,rfl⟩ : ∃ wo : World,wo = wr:=⟨_,rfl⟩
     have HW_wo:=HW_wr
     clear HW_wr
     go_loopw [59] (fun i wr => ∃ k : Nat,k ≤ b.cs.length∧i = .int .i64 k∧Hid (Wk 108 w wr B X ⟨(b.t + 1),b.n,b.w,b.cs,(b.hs.map olderH),b.os⟩ L 0 A1 A2 A3 A4 p1 p2 p3 p4)) (fun i _ => b.cs.length - (intOf i).toNat)
     case atStart => exact ⟨0,Nat.zero_le _,rfl,HW_wo⟩
     case round =>
      obtain ⟨k,hk,rfl,HR⟩:=hrel
      have HW_wr:=HR
      clear HR
      obtain ⟨a0,a1,a2,a3,a4,a5,a6,a7,af,az⟩:=HW_wr.out.open_
      simp only at a0 a1 a2 a3 a4 a5 a6
      by_cases hlt : k < b.cs.length
      ·
       have j0 : (0 : Int) ≤ (k : Int):=by omega
       have j1 : (k : Int) < (b.cs.length : Int):=by omega
       go_wp2_with fail
       go_roundw
       case rel => exact ⟨k + 1,by omega,by go_num,HW_wr⟩
       case measure => simp [intOf];omega
      ·
       obtain rfl : k = b.cs.length:=by omega
       go_wp2_with fail
       go_end0
       rw [HO.out,← HL.out]
       exact Acts.ok ⟨_,_,_,_,_,_,_,_,rfl,HW_wr.out⟩
  ·
   have HO:=hd_ (zps (b:=b) hne.out (eq_of_beq t5))
   have HW_w:=H
   clear H
   obtain ⟨a0,a1,a2,a3,a4,a5,a6,a7,af,az⟩:=HW_w.out.open_
   go_enter Tryz.func72,Tryz.ntmps72
   go_wp2_with fail
   refine (zqm _ _ B X b L A1 A2 A3 A4 p1 p2 p3 p4 2 HW_w.out).mono ?_
   rintro e' wz ⟨rfl,rfl⟩
   clear t1
   go_wp2_with fail
   refine nm_ ?_
   intro w1 hw
   have HW_w1 : Hid (Wk 108 w w1 B X ⟨(b.t + 1),b.n,b.w,b.cs,b.hs,b.os⟩ L 0 A1 A2 A3 A4 p1 p2 p3 p4):=hd_ (by rw [hw];exact HW_w.out.setTick (by decide) (by decide) (by decide) (by decide) _)
   clear hw
   clear a0 a1 a2 a3 a4 a5 a6 a7 af az
   obtain ⟨a0,a1,a2,a3,a4,a5,a6,a7,af,az⟩:=HW_w1.out.open_
   clear a0 a1 a2 a3 a4 a5 a6 a7 af az
   go_loopw [27] (fun i wr => ∃ k : Nat,k ≤ b.hs.length∧i = .int .i64 k∧Hid (Wk 108 w wr B X ⟨(b.t + 1),b.n,b.w,b.cs,mapTo olderH b.hs k,b.os⟩ L 0 A1 A2 A3 A4 p1 p2 p3 p4)) (fun i _ => b.hs.length - (intOf i).toNat)
   case atStart => exact ⟨0,Nat.zero_le _,rfl,by rw [zka];exact HW_w1⟩
   case round =>
    obtain ⟨k,hk,rfl,HR⟩:=hrel
    have HW_wr:=HR
    clear HR
    have hml:=zkd olderH b.hs k
    have HML:=hd_ hml
    clear hml
    obtain ⟨a0,a1,a2,a3,a4,a5,a6,a7,af,az⟩:=HW_wr.out.open_
    simp only at a0 a1 a2 a3 a4 a5 a6
    rw [HML.out] at a4
    by_cases hlt : k < b.hs.length
    ·
     obtain ⟨g2,hA,hBg⟩:=HW_wr.out.o.h.headW (by rw [List.length_map,HML.out];omega)
     subst hA
     have HRow : Hid (((mapTo olderH b.hs k).map Htlc.cells)[k]? = some b.hs[k].cells):=hd_ (by rw [List.getElem?_map,zjh olderH hlt];rfl)
     have c6:=HW_wr.out.o.h.cellAt HRow.out (j:=6) (by decide)
     simp only [Htlc.cells,List.getElem?_cons_zero,List.getElem?_cons_succ] at c6
     have cf:=fun j => HW_wr.out.o.h.frozenAt j
     obtain ⟨ma,mb⟩:=HAge.out k hlt
     have j0 : (0 : Int) ≤ (k : Int):=by omega
     have j1 : (k : Int) < (b.hs.length : Int):=by omega
     cases tx : decide (b.hs[k].Age < 1125899906842624)
     ·
      have KS:=hd_ (show olderH b.hs[k] = b.hs[k] by unfold olderH;rw [if_neg (of_decide_eq_false tx)])
      go_wp2_with fail
      go_roundw
      case rel => exact ⟨k + 1,by omega,by go_num,by rw [← zyy olderH hlt KS.out];exact HW_wr⟩
      case measure => simp [intOf];omega
     ·
      have KS:=hd_ (show olderH b.hs[k] = { b.hs[k] with Age:=b.hs[k].Age + 1 } by unfold olderH;rw [if_pos (of_decide_eq_true tx)])
      go_wp2_with fail
      go_roundw
      case rel => exact ⟨k + 1,by omega,by go_num,hd_ (by have h9:=HW_wr.out.putCellH (i:=k) (j:=6) (c:=b.hs[k]) (c':={ b.hs[k] with Age:=b.hs[k].Age + 1 }) (u:=.int .i64 (b.hs[k].Age + 1)) (by decide) (zjh olderH hlt) (by decide) rfl;rw [← KS.out,zke olderH hlt] at h9;exact h9)⟩
      case measure => simp [intOf];omega
    ·
     obtain rfl : k = b.hs.length:=by omega
     go_wp2_with fail
     clear a0 a1 a2 a3 a4 a5 a6 a7 af az
     rw [zkn] at HW_wr
     clear HML hk
     obtain ⟨wo,rfl⟩ : ∃ wo : World,wo = wr:=⟨_,rfl⟩
     have HW_wo:=HW_wr
     clear HW_wr
     go_loopw [59] (fun i wr => ∃ k : Nat,k ≤ b.cs.length∧i = .int .i64 k∧Hid (Wk 108 w wr B X ⟨(b.t + 1),b.n,b.w,mapTo fadeC b.cs k,(b.hs.map olderH),b.os⟩ L 0 A1 A2 A3 A4 p1 p2 p3 p4)) (fun i _ => b.cs.length - (intOf i).toNat)
     case atStart => exact ⟨0,Nat.zero_le _,rfl,by rw [zka];exact HW_wo⟩
     case round =>
      obtain ⟨k,hk,rfl,HR⟩:=hrel
      have HW_wr:=HR
      clear HR
      have HML:=hd_ (zkd fadeC b.cs k)
      obtain ⟨a0,a1,a2,a3,a4,a5,a6,a7,af,az⟩:=HW_wr.out.open_
      simp only at a0 a1 a2 a3 a4 a5 a6
      rw [HML.out] at a3
      by_cases hlt : k < b.cs.length
      ·
       have j0 : (0 : Int) ≤ (k : Int):=by omega
       have j1 : (k : Int) < (b.cs.length : Int):=by omega
       obtain ⟨g,hA,hBg⟩:=HW_wr.out.o.c.headW (by rw [List.length_map,HML.out];omega)
       subst hA
       obtain ⟨c,hc⟩ : ∃ c,b.cs[k] = c:=⟨_,rfl⟩
       have hr : ((mapTo fadeC b.cs k).map Chan.cells)[k]? = some c.cells:=by rw [List.getElem?_map,zjh fadeC hlt,hc];rfl
       obtain ⟨y0,y1,y2,y3,y4,y5,y6⟩:=c
       have HRow:=hd_ hr
       have HCI:=hd_ hc
       clear hr hc
       have y6c:=HW_wr.out.o.c.cellAt HRow.out (j:=6) (by decide)
       simp only [Chan.cells,List.getElem?_cons_zero,List.getElem?_cons_succ] at y6c
       go_wp2_with fail
       rw [← HML.out] at a3
       have j2 : (k : Int) < ((mapTo fadeC b.cs k).length : Int):=by rw [HML.out];omega
       refine zqq (fun w' => kqiiissss w' X (b.t + 1) b.n b.w (some ⟨g,0,none⟩) ((mapTo fadeC b.cs k).length) p1 A2 ((b.hs.map olderH).length) p2 A3 b.os.length p3 A4 L.length p4 (kqio_ w' g (k * 7 + 6) y6)) [yF 0 69,yF 1 70,yF 2 71,yF 3 72,yF 4 73,yF 5 74,yF 6 75,yF 7 76,yF 8 77,yF 9 78,yF 10 79,yF 11 80,yF 12 81,yF 13 82,yF 14 83,yT 15 84,yF 16 85,yF 17 86] rfl (by kernel_rfl) (by kernel_rfl) (by kernel_rfl) (by kernel_rfl) (by kernel_rfl) (by kernel_rfl) ⟨a0,a1,a2,a3,a4,a5,a6,y6c⟩ (fun hHeld => ?_)
       obtain ⟨w2,hwd⟩ : ∃ wd,wr.drew = wd:=⟨_,rfl⟩
       have HW_w2 : Hid (Wk 108 w w2 B X ⟨(b.t + 1),b.n,b.w,(mapTo fadeC b.cs k),(b.hs.map olderH),b.os⟩ L 0 (some ⟨g,0,none⟩) A2 A3 A4 p1 p2 p3 p4):=hd_ (by rw [← hwd];exact HW_wr.out.drew)
       clear a0 a1 a2 a3 a4 a5 a6 a7 af az
       rw [hwd] at hHeld ⊢
       clear hwd
       obtain ⟨a0,a1,a2,a3,a4,a5,a6,a7,af,az⟩:=HW_w2.out.open_
       refine tk_ ?_
       clear y6c
       have y6c:=HW_w2.out.o.c.cellAt HRow.out (j:=6) (by decide)
       simp only [Chan.cells,List.getElem?_cons_zero,List.getElem?_cons_succ] at y6c
       have yf:=fun j => HW_w2.out.o.c.frozenAt j
       refine Sq.step rfl (by rfl) (fun K hK => ?_)
       go_simp
       refine (zgl _ _).mono ?_
       rintro e' wz ⟨rfl,rfl⟩
       go_simp
       refine hK.out _ _ ⟨a0,a1,a2,a3,a4,a5,a6,y6c⟩ (fun hHeld => ?_)
       clear hK K
       refine tk_ ?_
       refine Sq.done ?_
       intro KK hKK
       go_simp
       refine hKK _ _ (NoPanic.normal ?_)
       go_wp2_with fail
       go_roundw
       case rel => exact ⟨k + 1,by omega,by go_num,hd_ (by have h9:=HW_w2.out.putCellC (i:=k) (j:=6) (c:=⟨y0,y1,y2,y3,y4,y5,y6⟩) (c':=fadeC ⟨y0,y1,y2,y3,y4,y5,y6⟩) (u:=.int .i64 (fadeF y6)) (by decide) (by rw [← HCI.out];exact zjh fadeC hlt) (by decide) rfl;simp only at h9;rw [← HCI.out,zke fadeC hlt] at h9;exact h9)⟩
       case measure => simp [intOf];omega
      ·
       obtain rfl : k = b.cs.length:=by omega
       rw [zkn] at HW_wr
       go_wp2_with fail
       go_end0
       rw [HO.out,← HL.out]
       exact Acts.ok ⟨_,_,_,_,_,_,_,_,rfl,HW_wr.out⟩
 ·
  have HO:=hd_ (tickB_2 (b:=b) (eq_of_beq t1))
  have HW_w:=H
  clear H
  obtain ⟨a0,a1,a2,a3,a4,a5,a6,a7,af,az⟩:=HW_w.out.open_
  go_enter Tryz.func72,Tryz.ntmps72
  go_wp2_with fail
  refine (zqv _ _ B X b L A1 A2 A3 A4 p1 p2 p3 p4 2 (by decide) HW_w.out).mono ?_
  rintro e' w1 ⟨rfl,hh,ho⟩
  have HW_w1:=hd_ (HW_w.out.trans hh)
  clear hh ho
  clear a0 a1 a2 a3 a4 a5 a6 a7 af az
  obtain ⟨a0,a1,a2,a3,a4,a5,a6,a7,af,az⟩:=HW_w1.out.open_
  go_wp2_with fail
  go_end0
  rw [HO.out]
  exact Acts.no (by decide) ⟨_,_,_,_,_,_,_,_,rfl,HW_w1.out⟩
end Go.Proofs.YtdbmkfmenfcbiaaGreat
