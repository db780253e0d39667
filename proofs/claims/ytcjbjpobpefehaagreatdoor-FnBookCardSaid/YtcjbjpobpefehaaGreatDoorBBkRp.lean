/- Books read from a text: what a line's reading comes tq. -/
import Derived.Test.YtcjbjpobpefehaaGreatDoorRows
import Derived.Test.YtcjbjpobpefehaaGreatDoorBM3
import Derived.Test.YtcjbjpobpefehaaGreatDoorBM2
import Derived.Test.YtcjbjpobpefehaaGreatDoorBBkTx
import Derived.Deep.RegionHeld3
namespace Go.Proofs.YtcjbjpobpefehaaGreatDoor
open Go.RowKit Go.Deep
def bkTs : List TypeId := [27, 44, 46, 49]
def BoxB (w : World) (X : Nat) (b : Bk) (A1 A2 A3 : Option Addr) (p1 p2 p3 : Nat) : Prop := w.heap[X]? = some (.cells #[.int .i64 b.t, .int .i64 b.n, .int .i64 b.w, .slice A1 b.cs.length p1, .slice A2 b.hs.length p2, .slice A3 b.os.length p3] 27 (0, 0))
def PartP (X B : Nat) (b : Bk) (row : List UInt8) (w : World) (e : Ending) (w' : World) : Prop :=
 ((partI b row = none ∧ e = .returned (.bool false)) ∨ ∃ (b' : Bk) (A1 A2 A3 : Option Addr) (p1 p2 p3 : Nat), partI b row = some b' ∧ e = .returned (.bool true) ∧ BoxB w' X b' A1 A2 A3 p1 p2 p3 ∧ OwB w' B b' A1 A2 A3 p1 p2 p3) ∧ Below B w w' ∧ Fr bkTs w w'
section
variable {X B : Nat} {b b' : Bk} {row : List UInt8} {w w' : World} {A1 A2 A3 : Option Addr} {p1 p2 p3 : Nat}
theorem PartP.no (h : partI b row = none) (hb : Below B w w') (hf : Fr bkTs w w') : PartP X B b row w (.returned (.bool false)) w' := ⟨Or.inl ⟨h, rfl⟩, hb, hf⟩
theorem PartP.yes (h : partI b row = some b') (hx : BoxB w' X b' A1 A2 A3 p1 p2 p3) (ho : OwB w' B b' A1 A2 A3 p1 p2 p3) (hb : Below B w w') (hf : Fr bkTs w w') : PartP X B b row w (.returned (.bool true)) w' := ⟨Or.inr ⟨b', A1, A2, A3, p1, p2, p3, h, rfl, hx, ho⟩, hb, hf⟩
theorem BoxB.lt (h : BoxB w X b A1 A2 A3 p1 p2 p3) : X < w.heap.size := (gz_ h).1
end
theorem zjh {w : World} {X i b j : Nat} {v u : Value} (hne : b ≠ X) (h : w.cell? ⟨b, j, none⟩ = some v) : (w.setCell ⟨X, i, none⟩ u).cell? ⟨b, j, none⟩ = some v :=
 ((zqi (World.grownBy.refl w (some X)) i u).cell_far ⟨b, j, none⟩ (Lib.lt_of_cell h) (fun e => hne (Option.some.inj e))).trans h
theorem zvj {B X i : Nat} {w w' : World} (h : Below B w w') (hX : B ≤ X) (u : Value) : Below B w (w'.setCell ⟨X, i, none⟩ u) := h.setCell hX u
theorem Ow.heapB {w : World} {B size n cap g : Nat} {e : TypeId} {rows : List (List Value)} (h : Ow w B e size (.slice (some ⟨g, 0, none⟩) n cap) rows) : ∃ cur, w.heap[g]? = some (.cells cur e (0, 0)) := by
 rcases h.2.2 with ⟨hv, _⟩ | ⟨g', cap', cur, hv, _, hh, _⟩
 ·
  cases hv
 ·
  injection hv with h1
  injection h1 with h1
  injection h1 with h1
  subst h1
  exact ⟨cur, hh⟩
theorem zwd {w : World} {p : Addr} {v : Value} (k : w.cell? p = some v) : w.drew.cell? p = some v := k
theorem info_chanB : (Tryz.prog.info? 44).map (fun i => (i.zero, i.size, i.bytes)) = some (some (.agg #[.int .i64 0, .int .i64 0, .int .i64 0, .int .i64 0, .int .i64 0, .int .i64 0, .int .i64 0]), 7, 56) := by kernel_rfl
theorem zta : (Tryz.prog.info? 46).map (fun i => (i.zero, i.size, i.bytes)) = some (some (.agg #[.int .i64 0, .int .i64 0, .int .i64 0, .int .i64 0, .int .i64 0, .bool false, .int .i64 0]), 7, 56) := by kernel_rfl
theorem info_circB : (Tryz.prog.info? 49).map (fun i => (i.zero, i.size, i.bytes)) = some (some (.agg #[.int .i64 0, .int .i64 0, .int .i64 0, .int .i64 0, .int .i64 0]), 5, 40) := by kernel_rfl
theorem zka {w : World} {B b o : Nat} {x : List UInt8} {l : List (List UInt8)} (h : Rd w B 1 (some ⟨b, o, none⟩) ((x :: l).map strC)) : Rd w B 1 (some ⟨b, o + 1, none⟩) (l.map strC) := by
 refine ⟨strs_uni l, fun hn => ?_⟩
 obtain ⟨b', o', e, hb, hc⟩ := h.2 (by simp)
 simp only [Option.some.injEq, Addr.mk.injEq, and_true] at e
 obtain ⟨rfl, rfl⟩ := e
 refine ⟨b, o + 1, rfl, hb, fun i r j v h1 h2 => ?_⟩
 have := hc (i + 1) r j v (by simpa using h1) h2
 rwa [show o + (i + 1) * 1 + j = o + 1 + i * 1 + j by omega] at this
theorem zxd {w : World} {B g n cap : Nat} {e : TypeId} {l : List Int} (h : Ow w B e 1 (.slice (some ⟨g, 0, none⟩) n cap) (l.map intCells)) {k : Nat} (hk : k < l.length) : w.cell? ⟨g, k, none⟩ = some (.int .i64 l[k]) := by
 obtain ⟨b, off, e1, _, hc⟩ := ints_rd h.rd hk
 simp only [Option.some.injEq, Addr.mk.injEq, and_true] at e1
 obtain ⟨rfl, rfl⟩ := e1
 simpa using hc
theorem Ow.head_ {w : World} {B n cap size : Nat} {e : TypeId} {A : Option Addr} {rows : List (List Value)} (h : Ow w B e size (.slice A n cap) rows) (h0 : 0 < rows.length) : ∃ g, A = some ⟨g, 0, none⟩ ∧ B ≤ g := by
 rcases h.open_ with ⟨hr, hv⟩ | ⟨g, cap', hv, hB, _, _⟩
 ·
  rw [hr] at h0
  simp at h0
 ·
  injection hv with h1
  exact ⟨g, h1, hB⟩
theorem list3 {α : Type} {l : List α} (h : l.length = 3) : ∃ a b c, l = [a, b, c] := by
 match l, h with | [a, b, c], _ => exact ⟨a, b, c, rfl⟩
theorem list5 {α : Type} {l : List α} (h : l.length = 5) : ∃ a b c d e, l = [a, b, c, d, e] := by
 match l, h with | [a, b, c, d, e], _ => exact ⟨a, b, c, d, e, rfl⟩
theorem list6 {α : Type} {l : List α} (h : l.length = 6) : ∃ a b c d e f, l = [a, b, c, d, e, f] := by
 match l, h with | [a, b, c, d, e, f], _ => exact ⟨a, b, c, d, e, f, rfl⟩
theorem list7 {α : Type} {l : List α} (h : l.length = 7) : ∃ a b c d e f g, l = [a, b, c, d, e, f, g] := by
 match l, h with | [a, b, c, d, e, f, g], _ => exact ⟨a, b, c, d, e, f, g, rfl⟩
theorem ne_book_chan : (bookW = chanW) = False := eq_false (by decide)
theorem zmb : (bookW = htlcW) = False := eq_false (by decide)
theorem ztk : (bookW = circW) = False := eq_false (by decide)
theorem ne_book_over : (bookW = overW) = False := eq_false (by decide)
theorem zyi : (chanW = bookW) = False := eq_false (by decide)
theorem ztm : (chanW = htlcW) = False := eq_false (by decide)
theorem ztj : (chanW = circW) = False := eq_false (by decide)
theorem zti : (chanW = overW) = False := eq_false (by decide)
theorem zkj : (htlcW = bookW) = False := eq_false (by decide)
theorem zkk : (htlcW = chanW) = False := eq_false (by decide)
theorem zwa : (htlcW = circW) = False := eq_false (by decide)
theorem zwc : (htlcW = overW) = False := eq_false (by decide)
theorem zhk : (circW = bookW) = False := eq_false (by decide)
theorem zhj : (circW = chanW) = False := eq_false (by decide)
theorem zhi : (circW = htlcW) = False := eq_false (by decide)
theorem zyg : (circW = overW) = False := eq_false (by decide)
theorem ne_over_book : (overW = bookW) = False := eq_false (by decide)
theorem ne_over_chan : (overW = chanW) = False := eq_false (by decide)
theorem ne_over_htlc : (overW = htlcW) = False := eq_false (by decide)
theorem ne_over_circ : (overW = circW) = False := eq_false (by decide)
theorem tw0_ {p q : Prop} (h : q) (f : q → p := by intro hq; refine wpAnyH_take (i := 0) (v := ?_) rfl (by kernel_rfl) (by kernel_rfl) (by kernel_rfl) (fun _ _ _ h => h) (Or.inl ⟨by rfl, ?_⟩) (by clear hq; assumption) ?_; rotate_left; (focus (intro w hSw; (try dsimp only at hSw); go_simp; (try with_reducible rfl))); ((try simp only [Act.put]); (try simp only [List.setIfInBounds_toArray]); (repeat (first | simp only [List.set_cons_succ] | simp only [List.set_cons_zero]))); exact hq) : p := f h
theorem tw1_ {p q : Prop} (h : q) (f : q → p := by intro hq; refine wpAnyH_take (i := 1) (v := ?_) rfl (by kernel_rfl) (by kernel_rfl) (by kernel_rfl) (fun _ _ _ h => h) (Or.inl ⟨by rfl, ?_⟩) (by clear hq; assumption) ?_; rotate_left; (focus (intro w hSw; (try dsimp only at hSw); go_simp; (try with_reducible rfl))); ((try simp only [Act.put]); (try simp only [List.setIfInBounds_toArray]); (repeat (first | simp only [List.set_cons_succ] | simp only [List.set_cons_zero]))); exact hq) : p := f h
theorem tw2_ {p q : Prop} (h : q) (f : q → p := by intro hq; refine wpAnyH_take (i := 2) (v := ?_) rfl (by kernel_rfl) (by kernel_rfl) (by kernel_rfl) (fun _ _ _ h => h) (Or.inl ⟨by rfl, ?_⟩) (by clear hq; assumption) ?_; rotate_left; (focus (intro w hSw; (try dsimp only at hSw); go_simp; (try with_reducible rfl))); ((try simp only [Act.put]); (try simp only [List.setIfInBounds_toArray]); (repeat (first | simp only [List.set_cons_succ] | simp only [List.set_cons_zero]))); exact hq) : p := f h
theorem tw3_ {p q : Prop} (h : q) (f : q → p := by intro hq; refine wpAnyH_take (i := 3) (v := ?_) rfl (by kernel_rfl) (by kernel_rfl) (by kernel_rfl) (fun _ _ _ h => h) (Or.inl ⟨by rfl, ?_⟩) (by clear hq; assumption) ?_; rotate_left; (focus (intro w hSw; (try dsimp only at hSw); go_simp; (try with_reducible rfl))); ((try simp only [Act.put]); (try simp only [List.setIfInBounds_toArray]); (repeat (first | simp only [List.set_cons_succ] | simp only [List.set_cons_zero]))); exact hq) : p := f h
theorem tw4_ {p q : Prop} (h : q) (f : q → p := by intro hq; refine wpAnyH_take (i := 4) (v := ?_) rfl (by kernel_rfl) (by kernel_rfl) (by kernel_rfl) (fun _ _ _ h => h) (Or.inl ⟨by rfl, ?_⟩) (by clear hq; assumption) ?_; rotate_left; (focus (intro w hSw; (try dsimp only at hSw); go_simp; (try with_reducible rfl))); ((try simp only [Act.put]); (try simp only [List.setIfInBounds_toArray]); (repeat (first | simp only [List.set_cons_succ] | simp only [List.set_cons_zero]))); exact hq) : p := f h
theorem tw5_ {p q : Prop} (h : q) (f : q → p := by intro hq; refine wpAnyH_take (i := 5) (v := ?_) rfl (by kernel_rfl) (by kernel_rfl) (by kernel_rfl) (fun _ _ _ h => h) (Or.inl ⟨by rfl, ?_⟩) (by clear hq; assumption) ?_; rotate_left; (focus (intro w hSw; (try dsimp only at hSw); go_simp; (try with_reducible rfl))); ((try simp only [Act.put]); (try simp only [List.setIfInBounds_toArray]); (repeat (first | simp only [List.set_cons_succ] | simp only [List.set_cons_zero]))); exact hq) : p := f h
theorem tw6_ {p q : Prop} (h : q) (f : q → p := by intro hq; refine wpAnyH_take (i := 6) (v := ?_) rfl (by kernel_rfl) (by kernel_rfl) (by kernel_rfl) (fun _ _ _ h => h) (Or.inl ⟨by rfl, ?_⟩) (by clear hq; assumption) ?_; rotate_left; (focus (intro w hSw; (try dsimp only at hSw); go_simp; (try with_reducible rfl))); ((try simp only [Act.put]); (try simp only [List.setIfInBounds_toArray]); (repeat (first | simp only [List.set_cons_succ] | simp only [List.set_cons_zero]))); exact hq) : p := f h
theorem tw7_ {p q : Prop} (h : q) (f : q → p := by intro hq; refine wpAnyH_take (i := 7) (v := ?_) rfl (by kernel_rfl) (by kernel_rfl) (by kernel_rfl) (fun _ _ _ h => h) (Or.inl ⟨by rfl, ?_⟩) (by clear hq; assumption) ?_; rotate_left; (focus (intro w hSw; (try dsimp only at hSw); go_simp; (try with_reducible rfl))); ((try simp only [Act.put]); (try simp only [List.setIfInBounds_toArray]); (repeat (first | simp only [List.set_cons_succ] | simp only [List.set_cons_zero]))); exact hq) : p := f h
theorem tw8_ {p q : Prop} (h : q) (f : q → p := by intro hq; refine wpAnyH_take (i := 8) (v := ?_) rfl (by kernel_rfl) (by kernel_rfl) (by kernel_rfl) (fun _ _ _ h => h) (Or.inl ⟨by rfl, ?_⟩) (by clear hq; assumption) ?_; rotate_left; (focus (intro w hSw; (try dsimp only at hSw); go_simp; (try with_reducible rfl))); ((try simp only [Act.put]); (try simp only [List.setIfInBounds_toArray]); (repeat (first | simp only [List.set_cons_succ] | simp only [List.set_cons_zero]))); exact hq) : p := f h
theorem tw9_ {p q : Prop} (h : q) (f : q → p := by intro hq; refine wpAnyH_take (i := 9) (v := ?_) rfl (by kernel_rfl) (by kernel_rfl) (by kernel_rfl) (fun _ _ _ h => h) (Or.inl ⟨by rfl, ?_⟩) (by clear hq; assumption) ?_; rotate_left; (focus (intro w hSw; (try dsimp only at hSw); go_simp; (try with_reducible rfl))); ((try simp only [Act.put]); (try simp only [List.setIfInBounds_toArray]); (repeat (first | simp only [List.set_cons_succ] | simp only [List.set_cons_zero]))); exact hq) : p := f h
theorem tw10_ {p q : Prop} (h : q) (f : q → p := by intro hq; refine wpAnyH_take (i := 10) (v := ?_) rfl (by kernel_rfl) (by kernel_rfl) (by kernel_rfl) (fun _ _ _ h => h) (Or.inl ⟨by rfl, ?_⟩) (by clear hq; assumption) ?_; rotate_left; (focus (intro w hSw; (try dsimp only at hSw); go_simp; (try with_reducible rfl))); ((try simp only [Act.put]); (try simp only [List.setIfInBounds_toArray]); (repeat (first | simp only [List.set_cons_succ] | simp only [List.set_cons_zero]))); exact hq) : p := f h
theorem tw11_ {p q : Prop} (h : q) (f : q → p := by intro hq; refine wpAnyH_take (i := 11) (v := ?_) rfl (by kernel_rfl) (by kernel_rfl) (by kernel_rfl) (fun _ _ _ h => h) (Or.inl ⟨by rfl, ?_⟩) (by clear hq; assumption) ?_; rotate_left; (focus (intro w hSw; (try dsimp only at hSw); go_simp; (try with_reducible rfl))); ((try simp only [Act.put]); (try simp only [List.setIfInBounds_toArray]); (repeat (first | simp only [List.set_cons_succ] | simp only [List.set_cons_zero]))); exact hq) : p := f h
theorem tw12_ {p q : Prop} (h : q) (f : q → p := by intro hq; refine wpAnyH_take (i := 12) (v := ?_) rfl (by kernel_rfl) (by kernel_rfl) (by kernel_rfl) (fun _ _ _ h => h) (Or.inl ⟨by rfl, ?_⟩) (by clear hq; assumption) ?_; rotate_left; (focus (intro w hSw; (try dsimp only at hSw); go_simp; (try with_reducible rfl))); ((try simp only [Act.put]); (try simp only [List.setIfInBounds_toArray]); (repeat (first | simp only [List.set_cons_succ] | simp only [List.set_cons_zero]))); exact hq) : p := f h
theorem tw13_ {p q : Prop} (h : q) (f : q → p := by intro hq; refine wpAnyH_take (i := 13) (v := ?_) rfl (by kernel_rfl) (by kernel_rfl) (by kernel_rfl) (fun _ _ _ h => h) (Or.inl ⟨by rfl, ?_⟩) (by clear hq; assumption) ?_; rotate_left; (focus (intro w hSw; (try dsimp only at hSw); go_simp; (try with_reducible rfl))); ((try simp only [Act.put]); (try simp only [List.setIfInBounds_toArray]); (repeat (first | simp only [List.set_cons_succ] | simp only [List.set_cons_zero]))); exact hq) : p := f h
theorem tw14_ {p q : Prop} (h : q) (f : q → p := by intro hq; refine wpAnyH_take (i := 14) (v := ?_) rfl (by kernel_rfl) (by kernel_rfl) (by kernel_rfl) (fun _ _ _ h => h) (Or.inl ⟨by rfl, ?_⟩) (by clear hq; assumption) ?_; rotate_left; (focus (intro w hSw; (try dsimp only at hSw); go_simp; (try with_reducible rfl))); ((try simp only [Act.put]); (try simp only [List.setIfInBounds_toArray]); (repeat (first | simp only [List.set_cons_succ] | simp only [List.set_cons_zero]))); exact hq) : p := f h
theorem tw15_ {p q : Prop} (h : q) (f : q → p := by intro hq; refine wpAnyH_take (i := 15) (v := ?_) rfl (by kernel_rfl) (by kernel_rfl) (by kernel_rfl) (fun _ _ _ h => h) (Or.inl ⟨by rfl, ?_⟩) (by clear hq; assumption) ?_; rotate_left; (focus (intro w hSw; (try dsimp only at hSw); go_simp; (try with_reducible rfl))); ((try simp only [Act.put]); (try simp only [List.setIfInBounds_toArray]); (repeat (first | simp only [List.set_cons_succ] | simp only [List.set_cons_zero]))); exact hq) : p := f h
theorem tw16_ {p q : Prop} (h : q) (f : q → p := by intro hq; refine wpAnyH_take (i := 16) (v := ?_) rfl (by kernel_rfl) (by kernel_rfl) (by kernel_rfl) (fun _ _ _ h => h) (Or.inl ⟨by rfl, ?_⟩) (by clear hq; assumption) ?_; rotate_left; (focus (intro w hSw; (try dsimp only at hSw); go_simp; (try with_reducible rfl))); ((try simp only [Act.put]); (try simp only [List.setIfInBounds_toArray]); (repeat (first | simp only [List.set_cons_succ] | simp only [List.set_cons_zero]))); exact hq) : p := f h
theorem tw17_ {p q : Prop} (h : q) (f : q → p := by intro hq; refine wpAnyH_take (i := 17) (v := ?_) rfl (by kernel_rfl) (by kernel_rfl) (by kernel_rfl) (fun _ _ _ h => h) (Or.inl ⟨by rfl, ?_⟩) (by clear hq; assumption) ?_; rotate_left; (focus (intro w hSw; (try dsimp only at hSw); go_simp; (try with_reducible rfl))); ((try simp only [Act.put]); (try simp only [List.setIfInBounds_toArray]); (repeat (first | simp only [List.set_cons_succ] | simp only [List.set_cons_zero]))); exact hq) : p := f h
theorem tw18_ {p q : Prop} (h : q) (f : q → p := by intro hq; refine wpAnyH_take (i := 18) (v := ?_) rfl (by kernel_rfl) (by kernel_rfl) (by kernel_rfl) (fun _ _ _ h => h) (Or.inl ⟨by rfl, ?_⟩) (by clear hq; assumption) ?_; rotate_left; (focus (intro w hSw; (try dsimp only at hSw); go_simp; (try with_reducible rfl))); ((try simp only [Act.put]); (try simp only [List.setIfInBounds_toArray]); (repeat (first | simp only [List.set_cons_succ] | simp only [List.set_cons_zero]))); exact hq) : p := f h
theorem tw19_ {p q : Prop} (h : q) (f : q → p := by intro hq; refine wpAnyH_take (i := 19) (v := ?_) rfl (by kernel_rfl) (by kernel_rfl) (by kernel_rfl) (fun _ _ _ h => h) (Or.inl ⟨by rfl, ?_⟩) (by clear hq; assumption) ?_; rotate_left; (focus (intro w hSw; (try dsimp only at hSw); go_simp; (try with_reducible rfl))); ((try simp only [Act.put]); (try simp only [List.setIfInBounds_toArray]); (repeat (first | simp only [List.set_cons_succ] | simp only [List.set_cons_zero]))); exact hq) : p := f h
theorem tw20_ {p q : Prop} (h : q) (f : q → p := by intro hq; refine wpAnyH_take (i := 20) (v := ?_) rfl (by kernel_rfl) (by kernel_rfl) (by kernel_rfl) (fun _ _ _ h => h) (Or.inl ⟨by rfl, ?_⟩) (by clear hq; assumption) ?_; rotate_left; (focus (intro w hSw; (try dsimp only at hSw); go_simp; (try with_reducible rfl))); ((try simp only [Act.put]); (try simp only [List.setIfInBounds_toArray]); (repeat (first | simp only [List.set_cons_succ] | simp only [List.set_cons_zero]))); exact hq) : p := f h
theorem tw21_ {p q : Prop} (h : q) (f : q → p := by intro hq; refine wpAnyH_take (i := 21) (v := ?_) rfl (by kernel_rfl) (by kernel_rfl) (by kernel_rfl) (fun _ _ _ h => h) (Or.inl ⟨by rfl, ?_⟩) (by clear hq; assumption) ?_; rotate_left; (focus (intro w hSw; (try dsimp only at hSw); go_simp; (try with_reducible rfl))); ((try simp only [Act.put]); (try simp only [List.setIfInBounds_toArray]); (repeat (first | simp only [List.set_cons_succ] | simp only [List.set_cons_zero]))); exact hq) : p := f h
theorem tw22_ {p q : Prop} (h : q) (f : q → p := by intro hq; refine wpAnyH_take (i := 22) (v := ?_) rfl (by kernel_rfl) (by kernel_rfl) (by kernel_rfl) (fun _ _ _ h => h) (Or.inl ⟨by rfl, ?_⟩) (by clear hq; assumption) ?_; rotate_left; (focus (intro w hSw; (try dsimp only at hSw); go_simp; (try with_reducible rfl))); ((try simp only [Act.put]); (try simp only [List.setIfInBounds_toArray]); (repeat (first | simp only [List.set_cons_succ] | simp only [List.set_cons_zero]))); exact hq) : p := f h
theorem tw23_ {p q : Prop} (h : q) (f : q → p := by intro hq; refine wpAnyH_take (i := 23) (v := ?_) rfl (by kernel_rfl) (by kernel_rfl) (by kernel_rfl) (fun _ _ _ h => h) (Or.inl ⟨by rfl, ?_⟩) (by clear hq; assumption) ?_; rotate_left; (focus (intro w hSw; (try dsimp only at hSw); go_simp; (try with_reducible rfl))); ((try simp only [Act.put]); (try simp only [List.setIfInBounds_toArray]); (repeat (first | simp only [List.set_cons_succ] | simp only [List.set_cons_zero]))); exact hq) : p := f h
theorem tw24_ {p q : Prop} (h : q) (f : q → p := by intro hq; refine wpAnyH_take (i := 24) (v := ?_) rfl (by kernel_rfl) (by kernel_rfl) (by kernel_rfl) (fun _ _ _ h => h) (Or.inl ⟨by rfl, ?_⟩) (by clear hq; assumption) ?_; rotate_left; (focus (intro w hSw; (try dsimp only at hSw); go_simp; (try with_reducible rfl))); ((try simp only [Act.put]); (try simp only [List.setIfInBounds_toArray]); (repeat (first | simp only [List.set_cons_succ] | simp only [List.set_cons_zero]))); exact hq) : p := f h
theorem tw27_ {p q : Prop} (h : q) (f : q → p := by intro hq; refine wpAnyH_take (i := 27) (v := ?_) rfl (by kernel_rfl) (by kernel_rfl) (by kernel_rfl) (fun _ _ _ h => h) (Or.inl ⟨by rfl, ?_⟩) (by clear hq; assumption) ?_; rotate_left; (focus (intro w hSw; (try dsimp only at hSw); go_simp; (try with_reducible rfl))); ((try simp only [Act.put]); (try simp only [List.setIfInBounds_toArray]); (repeat (first | simp only [List.set_cons_succ] | simp only [List.set_cons_zero]))); exact hq) : p := f h
theorem tw28_ {p q : Prop} (h : q) (f : q → p := by intro hq; refine wpAnyH_take (i := 28) (v := ?_) rfl (by kernel_rfl) (by kernel_rfl) (by kernel_rfl) (fun _ _ _ h => h) (Or.inl ⟨by rfl, ?_⟩) (by clear hq; assumption) ?_; rotate_left; (focus (intro w hSw; (try dsimp only at hSw); go_simp; (try with_reducible rfl))); ((try simp only [Act.put]); (try simp only [List.setIfInBounds_toArray]); (repeat (first | simp only [List.set_cons_succ] | simp only [List.set_cons_zero]))); exact hq) : p := f h
end Go.Proofs.YtcjbjpobpefehaaGreatDoor
