/- What a step of the work comes to: done, or a code; a channel put to its place. Plain ground. -/
import Derived.Test.YtcjbjpobpefehaaVM3
namespace Go.Proofs.Ytcjbjpobpefehaa
open Go.RowKit Go.Deep
def Acts (T : TypeId) (w : World) (B X : Nat) (o : Out) (e : Ending) (w' : World) : Prop :=
 (o.code = 0 ∧ ∃ b', o.b = { b' with n := if o.l = [] then b'.n else b'.n + 1 } ∧ Done T w B X b' o.l 0 e w') ∨ (o.code ≠ 0 ∧ ∃ b' L', Done T w B X b' L' o.code e w')
theorem Acts.ok {T : TypeId} {w w' : World} {B X : Nat} {e : Ending} {b' : Bk} {l : List Line} (h : Done T w B X b' l 0 e w') : Acts T w B X (done b' l) e w' := .inl ⟨rfl, b', rfl, h⟩
theorem Acts.no {T : TypeId} {w w' : World} {B X : Nat} {e : Ending} {b' : Bk} {L' : List Line} {c : Int} (hc : c ≠ 0) (h : Done T w B X b' L' c e w') : Acts T w B X (bad c) e w' := .inr ⟨hc, b', L', h⟩
theorem Done.trans {T : TypeId} {w0 w w' : World} {B X : Nat} {b b' : Bk} {L L' : List Line} {code code' : Int} {e : Ending} {A1 A2 A3 A4 : Option Addr} {p1 p2 p3 p4 : Nat} (h0 : Wk T w0 w B X b L code A1 A2 A3 A4 p1 p2 p3 p4) (h : Done T w B X b' L' code' e w') : Done T w0 B X b' L' code' e w' := by
 obtain ⟨C1, C2, C3, C4, q1, q2, q3, q4, he, h⟩ := h
 exact ⟨C1, C2, C3, C4, q1, q2, q3, q4, he, h0.trans h⟩
theorem zjh (l : List Line) (k c a : Int) : (lineTo l k c a).length ≤ l.length + 1 := by
 unfold lineTo
 split
 ·
  omega
 ·
  exact addF_len _ _
theorem zwe {α : Type} {l : List α} {p : α → Bool} {k : Nat} (hk : k < l.length) : (l.take (k + 1)).filter p = (l.take k).filter p ++ (if p l[k] = true then [l[k]] else []) := by
 rw [List.take_succ_eq_append_getElem hk, List.filter_append]
 congr 1
 rw [List.filter_cons]
 split <;> rfl
/-! ### a new channel -/
def stepI (one : Chan) (r : Bool × List Chan) (c : Chan) : Bool × List Chan := if (!r.1 && decide (c.Id > one.Id)) = true then (true, r.2 ++ [one] ++ [c]) else (r.1, r.2 ++ [c])
def finI (one : Chan) (r : Bool × List Chan) : List Chan := if r.1 = true then r.2 else r.2 ++ [one]
theorem stepI_true (one : Chan) : ∀ (cs o : List Chan), cs.foldl (stepI one) (true, o) = (true, o ++ cs)
 | [], o => by simp
 | c :: cs, o => by
  rw [List.foldl_cons, show stepI one (true, o) c = (true, o ++ [c]) from rfl, stepI_true one cs]
  simp
theorem insC_fold (one : Chan) : ∀ (cs o : List Chan), (∀ c ∈ cs, c.Id ≠ one.Id) → finI one (cs.foldl (stepI one) (false, o)) = o ++ insC one cs
 | [], o, _ => by simp [finI, insC]
 | c :: cs, o, h => by
  rw [List.foldl_cons]
  have hc := h c (by simp)
  by_cases h1 : one.Id < c.Id
  ·
   rw [show stepI one (false, o) c = (true, o ++ [one] ++ [c]) by simp [stepI, h1], stepI_true]
   have h2 : ¬ c.Id < one.Id := by omega
   simp [finI, insC, h2]
  ·
   rw [show stepI one (false, o) c = (false, o ++ [c]) by simp [stepI, h1], insC_fold one cs _ (fun x hx => h x (by simp [hx]))]
   have h2 : c.Id < one.Id := by omega
   simp [insC, h2]
theorem chanIx_neg {cs : List Chan} {ch : Int} (h : chanIx cs ch < 0) : ∀ c ∈ cs, c.Id ≠ ch := by
 intro c hc he
 unfold chanIx at h
 split at h
 ·
  omega
 ·
  rename_i hn
  rw [List.findIdx?_eq_none_iff] at hn
  have := hn c hc
  simp [notId, he] at this
theorem stepI_len (one : Chan) : ∀ (cs : List Chan) (r : Bool × List Chan), (cs.foldl (stepI one) r).2.length ≤ r.2.length + 2 * cs.length
 | [], r => by simp
 | c :: cs, r => by
  rw [List.foldl_cons]
  have h1 := stepI_len one cs (stepI one r c)
  have h2 : (stepI one r c).2.length ≤ r.2.length + 2 := by
   unfold stepI
   split <;> simp
  rw [List.length_cons]
  omega
/-! ### moves of channels -/
def Bd (n : Int) (cs : List Chan) : Prop := ∀ c ∈ cs, (-n ≤ c.Local ∧ c.Local ≤ n) ∧ (-n ≤ c.Remote ∧ c.Remote ≤ n)
theorem Bd.modify {n m : Int} {cs : List Chan} (h : Bd n cs) (i : Nat) (f : Chan → Chan) (hf : ∀ c, (-n ≤ c.Local ∧ c.Local ≤ n) ∧ (-n ≤ c.Remote ∧ c.Remote ≤ n) → (-m ≤ (f c).Local ∧ (f c).Local ≤ m) ∧ (-m ≤ (f c).Remote ∧ (f c).Remote ≤ m)) (hnm : n ≤ m) : Bd m (cs.modify i f) := by
 intro c hc
 obtain ⟨j, hj, rfl⟩ := List.mem_iff_getElem.1 hc
 rw [List.getElem_modify]
 have hj' : j < cs.length := by rw [List.length_modify] at hj; exact hj
 have h1 := h _ (List.getElem_mem hj')
 split
 ·
  exact hf _ h1
 ·
  omega
theorem Bd.move {n k : Int} {cs : List Chan} (h : Bd n cs) (ch dl dr : Int) (h1 : -k ≤ dl ∧ dl ≤ k) (h2 : -k ≤ dr ∧ dr ≤ k) : Bd (n + k) (moveC cs ch dl dr) :=
 Bd.modify h _ (moveF dl dr) (fun c hc => by simp only [moveF]; omega) (by omega)
theorem chanOf_mem {cs : List Chan} {ch : Int} (h : 0 ≤ chanIx cs ch) : chanOf cs ch ∈ cs := by
 obtain ⟨i, hi⟩ := Int.eq_ofNat_of_zero_le h
 have hlt := zvd hi
 unfold chanOf
 rw [hi, Int.toNat_natCast, List.getD_eq_getElem?_getD, List.getElem?_eq_getElem hlt]
 exact List.getElem_mem hlt
theorem chanIx_modify (cs : List Chan) (i : Nat) (f : Chan → Chan) (hf : ∀ c, (f c).Id = c.Id) (ch : Int) : chanIx (cs.modify i f) ch = chanIx cs ch := by
 have h : ∀ (cs : List Chan) (i : Nat), (cs.modify i f).findIdx? (fun c => !notId ch c) = cs.findIdx? (fun c => !notId ch c) := by
  intro cs
  induction cs with
  | nil => intro i; simp
  | cons c cs ih =>
   intro i
   cases i with
   | zero => simp [List.findIdx?_cons, notId, hf]
   | succ i => simp [List.findIdx?_cons, ih]
 unfold chanIx
 rw [h]
theorem zvf (cs : List Chan) (a dl dr ch : Int) : chanIx (moveC cs a dl dr) ch = chanIx cs ch := chanIx_modify cs _ (moveF dl dr) (fun _ => rfl) ch
theorem zke (cs : List Chan) (a dl dr : Int) : (moveC cs a dl dr).length = cs.length := by
 unfold moveC setCh
 rw [List.length_modify]
theorem Bd.at_ {n : Int} {cs : List Chan} (h : Bd n cs) {ch : Int} (hix : 0 ≤ chanIx cs ch) : (-n ≤ (chanOf cs ch).Local ∧ (chanOf cs ch).Local ≤ n) ∧ (-n ≤ (chanOf cs ch).Remote ∧ (chanOf cs ch).Remote ≤ n) := h _ (chanOf_mem hix)
theorem setCh_at {cs : List Chan} {ch : Int} {i : Nat} (hi : chanIx cs ch = (i : Int)) (hlt : i < cs.length) (f : Chan → Chan) : setCh cs ch f = cs.set i (f cs[i]) := by
 unfold setCh
 rw [hi, Int.toNat_natCast, modify_at hlt]
theorem bd_of_facts {bt bn bw : Int} {cs : List Chan} {hs : List Htlc} {os : List Circle} (h : BookFacts bt bn bw cs hs os) : Bd 1125899906842624 cs := by
 intro c hc
 obtain ⟨j, hj, rfl⟩ := List.mem_iff_getElem.1 hc
 have h1 := h.ch j hj
 simp only [chB, Bool.and_eq_true, zvh] at h1
 omega
section
variable {T : TypeId} {w0 w : World} {B X : Nat} {b : Bk} {L : List Line} {code : Int} {A1 A2 A3 A4 : Option Addr} {p1 p2 p3 p4 : Nat}
theorem Wk.putCell {g i j : Nat} {c' : Chan} {u : Value} (h : Wk T w0 w B X b L code (some ⟨g, 0, none⟩) A2 A3 A4 p1 p2 p3 p4) (hT1 : 32 ≠ T) (hi : i < b.cs.length) (hj : j < 7) (hc : c'.cells = b.cs[i].cells.set j u) :
  Wk T w0 (w.setCell ⟨g, i * 7 + j, none⟩ u) B X ⟨b.t, b.n, b.w, b.cs.set i c', b.hs, b.os⟩ L code (some ⟨g, 0, none⟩) A2 A3 A4 p1 p2 p3 p4 := by
 have hg := zqg (World.grownBy.refl w (some g)) (i * 7 + j) u
 obtain ⟨cur, hh⟩ := h.o.c.heapW
 have hr : (b.cs.map Chan.cells)[i]? = some b.cs[i].cells := by rw [List.getElem?_map, List.getElem?_eq_getElem hi]; rfl
 have h7 := h.o.c.stored hr hj u
 have hgX : some X ≠ some g := fun e => by
  injection e with e
  subst e
  rw [h.x] at hh
  injection hh with hh
  injection hh with _ hh
  exact hT1 hh.symm
 have hBg : B ≤ g := (h.o.c.block g (by simp [Value.ownBlock])).1
 refine ⟨?_, ⟨?_, ?_, ?_⟩, ?_, ?_, ?_, h.bx⟩
 ·
  rw [List.length_set]
  exact zqe hg hgX h.x
 ·
  rw [List.length_set, map_set_cells, hc]
  exact h7
 ·
  exact h.o.h.grown hg (Or.inr (h.o.h.ne_ hh (by decide)).symm)
 ·
  exact h.o.o.grown hg (Or.inr (h.o.o.ne_ hh (by decide)).symm)
 ·
  exact h.l.grown hg (Or.inr (h.l.ne_ hh (by decide)).symm)
 ·
  exact h.b.grown hg h.ble (fun k e => by injection e with e; omega)
 ·
  intro k cs t h1 h2
  have h3 := h.f k cs t h1 h2
  refine zqe hg ?_ h3
  intro e
  injection e with e
  subst e
  rw [hh] at h3
  injection h3 with h3
  injection h3 with _ h3
  exact h2 (by rw [← h3]; simp [wkTs])
end
/-! ### a list that is mapped place by place -/
def mapTo {α : Type} (f : α → α) (l : List α) (k : Nat) : List α := (l.take k).map f ++ l.drop k
theorem mapTo_zero {α : Type} (f : α → α) (l : List α) : mapTo f l 0 = l := by simp [mapTo]
theorem mapTo_len {α : Type} (f : α → α) (l : List α) (k : Nat) : (mapTo f l k).length = l.length := by simp [mapTo]; omega
theorem mapTo_all {α : Type} (f : α → α) (l : List α) : mapTo f l l.length = l.map f := by simp [mapTo]
theorem mapTo_at {α : Type} (f : α → α) {l : List α} {k : Nat} (h : k < l.length) : (mapTo f l k)[k]? = some l[k] := by
 unfold mapTo
 rw [List.getElem?_append_right (by simp; omega)]
 simp only [List.length_map, List.length_take, Nat.min_eq_left (Nat.le_of_lt h), Nat.sub_self, List.getElem?_drop, Nat.add_zero]
 exact List.getElem?_eq_getElem h
theorem mapTo_set {α : Type} (f : α → α) {l : List α} {k : Nat} (h : k < l.length) : (mapTo f l k).set k (f l[k]) = mapTo f l (k + 1) := by
 unfold mapTo
 have e1 : l.drop k = l[k] :: l.drop (k + 1) := List.drop_eq_getElem_cons h
 rw [List.set_append_right _ _ (by simp; omega), e1]
 simp only [List.length_map, List.length_take, Nat.min_eq_left (Nat.le_of_lt h), Nat.sub_self, List.set_cons_zero]
 rw [List.take_succ_eq_append_getElem h, List.map_append, List.append_assoc]
 rfl
theorem mapTo_same {α : Type} (f : α → α) {l : List α} {k : Nat} (h : k < l.length) (hf : f l[k] = l[k]) : mapTo f l k = mapTo f l (k + 1) := by
 rw [← mapTo_set f h, hf]
 apply List.ext_getElem?
 intro j
 rw [List.getElem?_set]
 by_cases hj : k = j
 ·
  subst hj
  rw [mapTo_at f h]
  simp [mapTo_len, h]
 ·
  simp [hj]
section
variable {T : TypeId} {w0 w : World} {B X : Nat} {b : Bk} {L : List Line} {code : Int} {A1 A2 A3 A4 : Option Addr} {p1 p2 p3 p4 : Nat}
theorem Wk.putCellH {g i j : Nat} {c c' : Htlc} {u : Value} (h : Wk T w0 w B X b L code A1 (some ⟨g, 0, none⟩) A3 A4 p1 p2 p3 p4) (hT1 : 36 ≠ T) (hi : b.hs[i]? = some c) (hj : j < 7) (hc : c'.cells = c.cells.set j u) :
  Wk T w0 (w.setCell ⟨g, i * 7 + j, none⟩ u) B X ⟨b.t, b.n, b.w, b.cs, b.hs.set i c', b.os⟩ L code A1 (some ⟨g, 0, none⟩) A3 A4 p1 p2 p3 p4 := by
 have hg := zqg (World.grownBy.refl w (some g)) (i * 7 + j) u
 obtain ⟨cur, hh⟩ := h.o.h.heapW
 have hr : (b.hs.map Htlc.cells)[i]? = some c.cells := by rw [List.getElem?_map, hi]; rfl
 have h7 := h.o.h.stored hr hj u
 have hgX : some X ≠ some g := fun e => by
  injection e with e
  subst e
  rw [h.x] at hh
  injection hh with hh
  injection hh with _ hh
  exact hT1 hh.symm
 have hBg : B ≤ g := (h.o.h.block g (by simp [Value.ownBlock])).1
 refine ⟨?_, ⟨?_, ?_, ?_⟩, ?_, ?_, ?_, h.bx⟩
 ·
  rw [List.length_set]
  exact zqe hg hgX h.x
 ·
  exact h.o.c.grown hg (Or.inr (h.o.c.ne_ hh (by decide)).symm)
 ·
  rw [List.length_set, List.map_set, hc]
  exact h7
 ·
  exact h.o.o.grown hg (Or.inr (h.o.o.ne_ hh (by decide)).symm)
 ·
  exact h.l.grown hg (Or.inr (h.l.ne_ hh (by decide)).symm)
 ·
  exact h.b.grown hg h.ble (fun k e => by injection e with e; omega)
 ·
  intro k cs t h1 h2
  have h3 := h.f k cs t h1 h2
  refine zqe hg ?_ h3
  intro e
  injection e with e
  subst e
  rw [hh] at h3
  injection h3 with h3
  injection h3 with _ h3
  exact h2 (by rw [← h3]; simp [wkTs])
theorem Wk.putCellC {g i j : Nat} {c c' : Chan} {u : Value} (h : Wk T w0 w B X b L code (some ⟨g, 0, none⟩) A2 A3 A4 p1 p2 p3 p4) (hT1 : 32 ≠ T) (hi : b.cs[i]? = some c) (hj : j < 7) (hc : c'.cells = c.cells.set j u) :
  Wk T w0 (w.setCell ⟨g, i * 7 + j, none⟩ u) B X ⟨b.t, b.n, b.w, b.cs.set i c', b.hs, b.os⟩ L code (some ⟨g, 0, none⟩) A2 A3 A4 p1 p2 p3 p4 := by
 obtain ⟨hlt, hci⟩ := List.getElem?_eq_some_iff.1 hi
 exact h.putCell hT1 hlt hj (by rw [hci]; exact hc)
theorem Wk.appO (h : Wk T w0 w B X b L code A1 A2 A3 A4 p1 p2 p3 p4) (hT1 : 32 ≠ T) (hT2 : 36 ≠ T) (hT3 : 38 ≠ T) (hT4 : 121 ≠ T) {x : World} {g cap : Nat} {c : Circle} (how : Ow x B 38 5 (.slice (some ⟨g, 0, none⟩) ((b.os.map Circle.cells).length + 1) cap) (b.os.map Circle.cells ++ [c.cells])) (hgr : w.grownBy x (Value.slice A3 b.os.length p3).ownBlock) :
  x.heap[X]? = some (.cells #[.int .i64 b.t, .int .i64 b.n, .int .i64 b.w, .slice A1 b.cs.length p1, .slice A2 b.hs.length p2, .slice A3 b.os.length p3, .slice A4 L.length p4, .int .i64 code] T (0, 0)) ∧
   Wk T w0 (x.setCell ⟨X, 5, none⟩ (.slice (some ⟨g, 0, none⟩) (b.os.length + 1) cap)) B X ⟨b.t, b.n, b.w, b.cs, b.hs, b.os ++ [c]⟩ L code A1 A2 (some ⟨g, 0, none⟩) A4 p1 p2 cap p4 := by
 have hx := zqe hgr (h.o.o.ne_ h.x hT3) h.x
 have e1 : b.os.length + 1 = (b.os ++ [c]).length := by simp
 have how' : Ow x B 38 5 (.slice (some ⟨g, 0, none⟩) (b.os ++ [c]).length cap) ((b.os ++ [c]).map Circle.cells) := by
  rw [← e1, List.map_append]
  rw [List.length_map] at how
  exact how
 refine ⟨hx, ⟨?_, ⟨(h.o.c.apart_ h.o.o (by decide) hgr).aside hx hT1 _, (h.o.h.apart_ h.o.o (by decide) hgr).aside hx hT2 _, by rw [e1]; exact how'.aside hx hT3 _⟩, (h.l.apart_ h.o.o (by decide) hgr).aside hx hT4 _, (h.b.grown hgr h.ble (fun k e => (h.o.o.block k e).1)).setCell h.bx _, (h.f.grown h.o.o (by simp [wkTs]) hgr).set hx (by simp [wkTs]) _, h.bx⟩⟩
 have h9 := zqa (i := 5) (u := .slice (some ⟨g, 0, none⟩) (b.os ++ [c]).length cap) hx
 rw [e1]
 exact h9
theorem Wk.appH (h : Wk T w0 w B X b L code A1 A2 A3 A4 p1 p2 p3 p4) (hT1 : 32 ≠ T) (hT2 : 36 ≠ T) (hT3 : 38 ≠ T) (hT4 : 121 ≠ T) {x : World} {g cap : Nat} {c : Htlc} (how : Ow x B 36 7 (.slice (some ⟨g, 0, none⟩) ((b.hs.map Htlc.cells).length + 1) cap) (b.hs.map Htlc.cells ++ [c.cells])) (hgr : w.grownBy x (Value.slice A2 b.hs.length p2).ownBlock) :
  x.heap[X]? = some (.cells #[.int .i64 b.t, .int .i64 b.n, .int .i64 b.w, .slice A1 b.cs.length p1, .slice A2 b.hs.length p2, .slice A3 b.os.length p3, .slice A4 L.length p4, .int .i64 code] T (0, 0)) ∧
   Wk T w0 (x.setCell ⟨X, 4, none⟩ (.slice (some ⟨g, 0, none⟩) (b.hs.length + 1) cap)) B X ⟨b.t, b.n, b.w, b.cs, b.hs ++ [c], b.os⟩ L code A1 (some ⟨g, 0, none⟩) A3 A4 p1 cap p3 p4 := by
 have hx := zqe hgr (h.o.h.ne_ h.x hT2) h.x
 have e1 : b.hs.length + 1 = (b.hs ++ [c]).length := by simp
 have how' : Ow x B 36 7 (.slice (some ⟨g, 0, none⟩) (b.hs ++ [c]).length cap) ((b.hs ++ [c]).map Htlc.cells) := by
  rw [← e1, List.map_append]
  rw [List.length_map] at how
  exact how
 refine ⟨hx, ⟨?_, ⟨(h.o.c.apart_ h.o.h (by decide) hgr).aside hx hT1 _, by rw [e1]; exact how'.aside hx hT2 _, (h.o.o.apart_ h.o.h (by decide) hgr).aside hx hT3 _⟩, (h.l.apart_ h.o.h (by decide) hgr).aside hx hT4 _, (h.b.grown hgr h.ble (fun k e => (h.o.h.block k e).1)).setCell h.bx _, (h.f.grown h.o.h (by simp [wkTs]) hgr).set hx (by simp [wkTs]) _, h.bx⟩⟩
 have h9 := zqa (i := 4) (u := .slice (some ⟨g, 0, none⟩) (b.hs ++ [c]).length cap) hx
 rw [e1]
 exact h9
end
section
variable {T : TypeId} {w0 w w' : World} {B X : Nat} {b : Bk} {L : List Line} {code : Int} {A1 A2 A3 A4 : Option Addr} {p1 p2 p3 p4 : Nat}
theorem Wk.ownBox {g C : Nat} {cells : Array Value} (h : Wk T w0 w B X b L code (some ⟨g, 0, none⟩) A2 A3 A4 p1 p2 p3 p4) (hX : C ≠ X) (hg : g ≠ C) (hB : B ≤ C) (hC : w.heap[C]? = some (.cells cells 32 (0, 0))) (hgr : w.grownBy w' (some C)) : Wk T w0 w' B X b L code (some ⟨g, 0, none⟩) A2 A3 A4 p1 p2 p3 p4 := by
 refine ⟨zqe hgr (fun e => hX (Option.some.inj e).symm) h.x, ⟨h.o.c.grown hgr (Or.inr (fun e => hg (by simpa [Value.ownBlock] using e))), h.o.h.grown hgr (Or.inr (h.o.h.ne_ hC (by decide)).symm), h.o.o.grown hgr (Or.inr (h.o.o.ne_ hC (by decide)).symm)⟩, h.l.grown hgr (Or.inr (h.l.ne_ hC (by decide)).symm), h.b.grown hgr h.ble (fun k e => by injection e with e; omega), ?_, h.bx⟩
 intro k cs t h1 h2
 have h3 := h.f k cs t h1 h2
 refine zqe hgr ?_ h3
 intro e
 injection e with e
 subst e
 rw [hC] at h3
 injection h3 with h3
 injection h3 with _ h3
 exact h2 (by rw [← h3]; simp [wkTs])
end
theorem own8 {w : World} {X : Nat} {T : TypeId} {u0 u1 u2 u3 u4 u5 u6 u7 : Value} (h : w.heap[X]? = some (.cells #[u0, u1, u2, u3, u4, u5, u6, u7] T (0, 0))) : True ∧ w.cell? ⟨X, 0, none⟩ = some u0 ∧ w.cell? ⟨X, 1, none⟩ = some u1 ∧ w.cell? ⟨X, 2, none⟩ = some u2 ∧ w.cell? ⟨X, 3, none⟩ = some u3 ∧ w.cell? ⟨X, 4, none⟩ = some u4 ∧ w.cell? ⟨X, 5, none⟩ = some u5 ∧ w.cell? ⟨X, 6, none⟩ = some u6 ∧ w.cell? ⟨X, 7, none⟩ = some u7 ∧ (∀ i, w.frozen? ⟨X, i, none⟩ = false) ∧ X < w.heap.size :=
 ⟨trivial, zqb h 0, zqb h 1, zqb h 2, zqb h 3, zqb h 4, zqb h 5, zqb h 6, zqb h 7, zjb h, (gz_ h).1⟩
end Go.Proofs.Ytcjbjpobpefehaa
