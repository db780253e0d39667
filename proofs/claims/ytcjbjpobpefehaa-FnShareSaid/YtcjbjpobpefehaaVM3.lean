/- ApB · DrawM · DrawMb · EvS · Wk · Wk2 · SWk: each text proves what its theorems say, with no conditions but theirs. -/
import Derived.Test.YtcjbjpobpefehaaRows
import Derived.Test.YtcjbjpobpefehaaVM1
import Derived.Test.YtcjbjpobpefehaaVDrawL
import Derived.Deep.QuietTactic
import Derived.BigQuiet
namespace Go.Proofs.Ytcjbjpobpefehaa
open Go
/-! ### lines -/
def lineTo (l : List Line) (k c a : Int) : List Line := if a = 0 then l else addF ⟨k, c, a⟩ l
def nz (l : List Line) : List Line := l.filter fun x => x.Amt != 0
theorem nz_nil : nz [] = [] := rfl
theorem nz_cons (x : Line) (l : List Line) : nz (x :: l) = if x.Amt = 0 then nz l else x :: nz l := by
 unfold nz
 rw [List.filter_cons]
 by_cases h : x.Amt = 0 <;> simp [h]
theorem line2 {k c a k' c' a' : Int} (h : k < k') : lineTo (lineTo [] k c a) k' c' a' = nz [⟨k, c, a⟩, ⟨k', c', a'⟩] := by
 have h1 : lessB k c k' c' = true := lessB_iff.2 (Or.inl h)
 unfold lineTo
 simp only [nz_cons, nz_nil]
 by_cases h0 : a = 0 <;> by_cases h2 : a' = 0 <;> simp [h0, h2, addF, h1]
theorem line3 {k c a k' c' a' k2 c2 a2 : Int} (h : k < k') (h2 : k' < k2) : lineTo (lineTo (lineTo [] k c a) k' c' a') k2 c2 a2 = nz [⟨k, c, a⟩, ⟨k', c', a'⟩, ⟨k2, c2, a2⟩] := by
 have h1 : lessB k' c' k2 c2 = true := lessB_iff.2 (Or.inl h2)
 have h3 : lessB k c k2 c2 = true := lessB_iff.2 (Or.inl (by omega))
 rw [line2 h]
 unfold lineTo
 simp only [nz_cons, nz_nil]
 by_cases e0 : a = 0 <;> by_cases e1 : a' = 0 <;> by_cases e2 : a2 = 0 <;> simp [e0, e1, e2, addF, h1, h3]
/-! ### events -/
def evB (e : Event) : Bool :=
 if e.Kind = 1 then e.Key == 0 && e.Ch == 0 && e.To == 0 && inB e.Amt 1 1125899906842624 && e.Fee == 0 && !e.Yes
 else if e.Kind = 2 then e.Key == 0 && isChanB e.Ch && e.To == 0 && inB e.Amt 1 1125899906842624 && amtB e.Fee && !e.Yes
 else if e.Kind = 3 then e.Key == 0 && isChanB e.Ch && e.To == 0 && e.Amt == 0 && amtB e.Fee && !e.Yes
 else if e.Kind = 4 then e.Key == 0 && isChanB e.Ch && e.To == 0 && amtB e.Amt && inB e.Fee 0 1000000 && !e.Yes
 else if e.Kind = 5 then inB e.Key 1 1000000 && isChanB e.Ch && isChanB e.To && (e.Ch != e.To) && inB e.Amt 1 1125899906842624 && e.Fee == 0
 else if e.Kind = 8 then e.Key == 0 && e.Ch == 0 && e.To == 0 && e.Amt == 0 && e.Fee == 0 && !e.Yes
 else if e.Kind = 9 then inB e.Key 1 1000000 && isChanB e.Ch && isChanB e.To && (e.Ch != e.To) && inB e.Amt 1 1125899906842624 && amtB e.Fee && !e.Yes
 else if e.Kind = 6 ∨ e.Kind = 7 ∨ e.Kind = 10 ∨ e.Kind = 11 then inB e.Key 1 1000000 && e.Ch == 0 && e.To == 0 && e.Amt == 0 && e.Fee == 0 && !e.Yes
 else false
/-! ### pieces -/
def chan0 : Chan := ⟨0, 0, 0, 0, 0, 0, 0⟩
def chanOf (cs : List Chan) (ch : Int) : Chan := cs.getD (chanIx cs ch).toNat chan0
def setCh (cs : List Chan) (ch : Int) (f : Chan → Chan) : List Chan := cs.modify (chanIx cs ch).toNat f
def moveF (dl dr : Int) (c : Chan) : Chan := { c with Local := c.Local + dl, Remote := c.Remote + dr }
def moveC (cs : List Chan) (ch dl dr : Int) : List Chan := setCh cs ch (moveF dl dr)
def insC (c : Chan) (cs : List Chan) : List Chan := cs.takeWhile (fun x => decide (x.Id < c.Id)) ++ c :: cs.dropWhile (fun x => decide (x.Id < c.Id))
def usesH (ch : Int) (h : Htlc) : Bool := h.In == ch || h.Out == ch
def usesC (ch : Int) (c : Circle) : Bool := c.From == ch || c.To == ch
def busyB (hs : List Htlc) (os : List Circle) (ch : Int) : Bool := hs.any (usesH ch) || os.any (usesC ch)
def fewH (ch n : Int) (h : Htlc) : Int := if (h.Out == ch) = true then (if h.Kept = true then n else n + h.AmtOut) else n
def slotH (ch n : Int) (h : Htlc) : Int := if (h.Out == ch) = true then n + 1 else n
def slotFewH (ch n : Int) (h : Htlc) : Int := if (h.Out == ch) = true then (if h.Kept = true then n else n + 1) else n
def standB (score : Int) (yes : Bool) : Bool := inB score (-100) 100 && decide (20 ≤ score) && yes
def allowF (size few all sf s amt : Int) (good : Bool) : Int :=
 if (amtB size && amtB few && amtB all && amtB amt && decide (0 ≤ sf) && decide (0 ≤ s) && decide (few ≤ all) && decide (sf ≤ s)) = false then 0
 else if 10 ≤ s ∨ size < all + amt then 0
 else if sf < 5 ∧ few + amt ≤ size / 2 then 1
 else if good = true then 2 else 0
def roomF (hs : List Htlc) (to : Chan) (ch amt score : Int) (yes : Bool) : Int :=
 allowF to.Size (hs.foldl (fewH ch) 0) (hs.foldl (outH ch) 0) (hs.foldl (slotFewH ch) 0) (hs.foldl (slotH ch) 0) amt (standB score yes)
def feeQ (ppm n : Int) : Int := n * ppm / 1000000 + (if 0 < n * ppm % 1000000 then 1 else 0)
def feeOk (base ppm n : Int) : Bool := amtB base && amtB n && inB ppm 0 1000000 && amtB (feeQ ppm n) && amtB (base + feeQ ppm n)
def feeV (base ppm n : Int) : Int := if feeOk base ppm n = true then base + feeQ ppm n else 0
def upF (n : Int) : Int := if inB n (-100) 100 = true then min (n + 10) 100 else 0
def downF (n : Int) : Int := if inB n (-100) 100 = true then max (n - 15) (-100) else 0
def fadeF (n : Int) : Int := if inB n (-100) 100 = true then (if 0 < n then n - 1 else if n < 0 then n + 1 else 0) else 0
def scoreUp (c : Chan) : Chan := { c with Score := upF c.Score }
def scoreDown (c : Chan) : Chan := { c with Score := downF c.Score }
def fadeC (c : Chan) : Chan := { c with Score := fadeF c.Score }
def olderH (h : Htlc) : Htlc := { h with Age := if h.Age < 1125899906842624 then h.Age + 1 else h.Age }
/-! ### what an event does: the code, the book, the lines -/
structure Out where
 code : Int
 b : Bk
 l : List Line
def bad (c : Int) : Out := ⟨c, bk0, []⟩
def done (b : Bk) (l : List Line) : Out := ⟨0, { b with n := if l = [] then b.n else b.n + 1 }, l⟩
def depB (b : Bk) (e : Event) : Out :=
 if 1125899906842624 < b.w + e.Amt then bad 2 else done { b with w := b.w + e.Amt } (nz [⟨1, 0, e.Amt⟩, ⟨2, 0, -e.Amt⟩])
def openB (b : Bk) (e : Event) : Out :=
 if 1125899906842624 < e.Amt + e.Fee then bad 2
 else if 0 ≤ chanIx b.cs e.Ch ∨ 20 ≤ b.cs.length then bad 3
 else if b.w < e.Amt then bad 4
 else done { b with cs := insC ⟨e.Ch, e.Amt + e.Fee, e.Amt, e.Fee, 0, 0, 0⟩ b.cs, w := b.w - e.Amt } (nz [⟨1, 0, -e.Amt⟩, ⟨6, e.Ch, e.Amt⟩])
def priceB (b : Bk) (e : Event) : Out :=
 if chanIx b.cs e.Ch < 0 then bad 6 else done { b with cs := setCh b.cs e.Ch fun c => { c with Base := e.Amt, Ppm := e.Fee } } []
def tickB (b : Bk) : Out :=
 if b.t = 1125899906842624 then bad 2
 else done { b with t := b.t + 1, hs := b.hs.map olderH, cs := if (b.t + 1) % 5 = 0 then b.cs.map fadeC else b.cs } []
end Go.Proofs.Ytcjbjpobpefehaa
namespace Go.Proofs.Ytcjbjpobpefehaa
open Go.RowKit

end Go.Proofs.Ytcjbjpobpefehaa
namespace Go.Proofs.Ytcjbjpobpefehaa
open Go.RowKit

structure Mvd (w w' : World) (s : Nat → Prop) : Prop where
  os : w'.os = w.os
  tape : w'.tape = w.tape
  output : w'.output = w.output
  size : w.heap.size ≤ w'.heap.size
  block : ∀ k, k < w.heap.size → ¬ s k → w'.heap[k]? = w.heap[k]?
section
variable {w w' w'' a : World} {s : Nat → Prop}
theorem Mvd.of_grown {g : Nat} (h : w.grownBy w' (some g)) (hs : s g) : Mvd w w' s := ⟨h.os, h.tape, h.output, h.size, fun k hk hn => h.block k hk (fun e => by injection e with e; subst e; exact hn hs)⟩
theorem Mvd.trans (h : Mvd a w s) (k : Mvd w w' s) : Mvd a w' s :=
  ⟨k.os.trans h.os, k.tape.trans h.tape, k.output.trans h.output, Nat.le_trans h.size k.size, fun i hi hn => (k.block i (Nat.lt_of_lt_of_le hi h.size) hn).trans (h.block i hi hn)⟩
theorem Mvd.set (h : Mvd a w s) {q : Nat} (hq : s q) (i : Nat) (u : Value) : Mvd a (w.setCell ⟨q, i, none⟩ u) s := h.trans (Mvd.of_grown (zqg (World.grownBy.refl w (some q)) i u) hq)
theorem Mvd.refl (w : World) (s : Nat → Prop) : Mvd w w s := ⟨rfl, rfl, rfl, Nat.le_refl _, fun _ _ _ => rfl⟩
theorem Mvd.alloc (h : Mvd a w s) (o : Obj) : Mvd a (w.alloc o) s := h.trans ⟨rfl, rfl, rfl, by simp, fun _ hk _ => zqd hk (by rw [Array.getElem?_eq_getElem hk]) |>.trans (by rw [Array.getElem?_eq_getElem hk])⟩
theorem Mvd.heap {n : Nat} {x : Obj} (h : Mvd w w' s) (hn : ¬ s n) (k : w.heap[n]? = some x) : w'.heap[n]? = some x := (h.block n (gz_ k).1 hn).trans k
theorem Mvd.grown {g : Nat} (h : a.grownBy w (some g)) (k : Mvd w w' s) (hs : ∀ i, s i → i = g ∨ a.heap.size ≤ i) : a.grownBy w' (some g) :=
  ⟨k.os.trans h.os, k.tape.trans h.tape, k.output.trans h.output, Nat.le_trans h.size k.size, fun i hi hne => (k.block i (Nat.lt_of_lt_of_le hi h.size) (fun hc => (hs i hc).elim (fun e => hne (by rw [e])) (fun e => absurd hi (by omega)))).trans (h.block i hi hne)⟩
end
section
variable {w : World} {B q n cp : Nat} {e : TypeId} {L : List Line}
theorem Ow.shorter {A : Option Addr} {size : Nat} {rows : List (List Value)} (h : Ow w B e size (.slice A rows.length cp) rows) {m : Nat} (hm : m ≤ rows.length) : Ow w B e size (.slice A m cp) (rows.take m) := by
  have hlen : (rows.take m).length = m := by rw [List.length_take]; omega
  have hu : ∀ r ∈ rows.take m, r.length = size := fun r hr => h.1 r (List.mem_of_mem_take hr)
  refine ⟨hu, by rw [hlen]; rw [zkj _ size hu, hlen], ?_⟩
  rcases h.2.2 with ⟨hv, h0⟩ | ⟨g, cap, cur, hv, hg, hh, hn, hmx, hs, ht⟩
  · left
    injection hv with h1 _ h3
    subst h1 h3
    have : m = 0 := by omega
    subst this
    exact ⟨rfl, by simp⟩
  · right
    injection hv with h1 _ h3
    subst h1 h3
    refine ⟨g, cp, cur, by rw [hlen], hg, hh, by rw [hlen]; omega, hmx, hs, ?_⟩
    rw [hlen]
    have : rows.flatten.take (m * size) = (rows.take m).flatten := by
      conv => lhs; rw [← List.take_append_drop m rows, List.flatten_append]
      rw [List.take_append_of_le_length (by rw [zkj _ size hu, hlen]; exact Nat.le_refl _), List.take_of_length_le (by rw [zkj _ size hu, hlen]; exact Nat.le_refl _)]
    rw [← this, ← ht, List.take_take, Nat.min_eq_left (Nat.mul_le_mul_right _ hm)]
end
end Go.Proofs.Ytcjbjpobpefehaa
namespace Go.Proofs.Ytcjbjpobpefehaa
open Go.RowKit Go.Deep

def hasR (k : Int) : List Bool :=
  if k = 1 then [false, false, false, true, false, false]
  else if k = 2 ∨ k = 4 then [false, true, false, true, true, false]
  else if k = 3 then [false, true, false, false, true, false]
  else if k = 5 then [true, true, true, true, false, true]
  else if k = 9 then [true, true, true, true, true, false]
  else if k = 8 then [false, false, false, false, false, false]
  else [true, false, false, false, false, false]
def fldB (has : Bool) (n lo hi : Int) : Bool := if has = true then inB n lo hi else n == 0
def evS (h0 h1 h2 h3 h4 h5 : Bool) (least most : Int) (e : Event) : Bool :=
  fldB h0 e.Key 1 1000000 && fldB h1 e.Ch 1 99 && fldB h2 e.To 1 99 && !(h2 && e.Ch == e.To) && fldB h3 e.Amt least 1125899906842624 && fldB h4 e.Fee 0 most && (h5 || !e.Yes)
theorem evB_out {e : Event} (h : e.Kind < 1 ∨ 11 < e.Kind) : evB e = false := by
  unfold evB
  rw [if_neg (by omega), if_neg (by omega), if_neg (by omega), if_neg (by omega), if_neg (by omega), if_neg (by omega), if_neg (by omega), if_neg (by omega)]
theorem evB_in {e : Event} (h1 : 1 ≤ e.Kind) (h2 : e.Kind ≤ 11) : ∃ h0 h1' h2' h3 h4 h5, hasR e.Kind = [h0, h1', h2', h3, h4, h5] ∧ evB e = evS h0 h1' h2' h3 h4 h5 (if e.Kind = 4 then 0 else 1) (if e.Kind = 4 then 1000000 else 1125899906842624) e := by
  obtain ⟨k, key, ch, to, amt, fee, yes⟩ := e
  simp only at h1 h2
  have hk : k = 1 ∨ k = 2 ∨ k = 3 ∨ k = 4 ∨ k = 5 ∨ k = 6 ∨ k = 7 ∨ k = 8 ∨ k = 9 ∨ k = 10 ∨ k = 11 := by omega
  rcases hk with rfl | rfl | rfl | rfl | rfl | rfl | rfl | rfl | rfl | rfl | rfl <;>
    exact ⟨_, _, _, _, _, _, rfl, by cases yes <;> simp [evB, evS, fldB, isChanB, amtB, Bool.and_assoc, bne]⟩
theorem name_wp {P : Program} {c : Go.Code} {Q : Exit → Act → World → Prop} {a : Act} {w : World} (h : ∀ wq, wq = w → Go.Code.wp P c Q a wq) : Go.Code.wp P c Q a w := h w rfl
theorem zkg (has : Bool) (n lo hi : Int) (w : World) : Calls Try.prog 87 #[.bool has, .int .i64 n, .int .i64 lo, .int .i64 hi] w fun e w' => e = .returned (.bool (fldB has n lo hi)) ∧ w = w' := by
  cases has
  · go_enter Try.func87, Try.ntmps87
    go_wp2
    go_ret
    exact ⟨rfl, rfl⟩
  · by_cases h1 : lo ≤ n <;> by_cases h2 : n ≤ hi
    all_goals
      go_enter Try.func87, Try.ntmps87
      go_wp2
      all_goals go_ret
      all_goals exact ⟨by simp [fldB, inB, h1, h2] <;> omega, rfl⟩
def HasP (k : Int) (w : World) (e : Ending) (w' : World) : Prop := e = .returned (.slice (some ⟨w.heap.size, 0, none⟩) 6 6) ∧ w' = w.alloc (.cells ((hasR k).map Value.bool).toArray 4)
theorem s_l04Has (k : Int) (w : World) (h1 : 1 ≤ k) (h2 : k ≤ 11) : Calls Try.prog 86 #[.int .i64 k] w (HasP k w) := by
  have hk : k = 1 ∨ k = 2 ∨ k = 3 ∨ k = 4 ∨ k = 5 ∨ k = 6 ∨ k = 7 ∨ k = 8 ∨ k = 9 ∨ k = 10 ∨ k = 11 := by omega
  clear h1 h2
  rcases hk with rfl | rfl | rfl | rfl | rfl | rfl | rfl | rfl | rfl | rfl | rfl
  all_goals
    go_enter Try.func86, Try.ntmps86
    go_wp2
    go_ret
    exact ⟨rfl, rfl⟩
end Go.Proofs.Ytcjbjpobpefehaa
namespace Go.Proofs.Ytcjbjpobpefehaa
open Go.RowKit Go.Deep
def wkTs (T : TypeId) : List TypeId := [T, 32, 36, 38, 121]
def wkCells (b : Bk) (L : List Line) (code : Int) (A1 A2 A3 A4 : Option Addr) (p1 p2 p3 p4 : Nat) : Array Value :=
 #[.int .i64 b.t, .int .i64 b.n, .int .i64 b.w, .slice A1 b.cs.length p1, .slice A2 b.hs.length p2, .slice A3 b.os.length p3, .slice A4 L.length p4, .int .i64 code]
structure Wk (T : TypeId) (w0 w : World) (B X : Nat) (b : Bk) (L : List Line) (code : Int) (A1 A2 A3 A4 : Option Addr) (p1 p2 p3 p4 : Nat) : Prop where
 x : w.heap[X]? = some (.cells #[.int .i64 b.t, .int .i64 b.n, .int .i64 b.w, .slice A1 b.cs.length p1, .slice A2 b.hs.length p2, .slice A3 b.os.length p3, .slice A4 L.length p4, .int .i64 code] T (0, 0))
 o : OwB w B b A1 A2 A3 p1 p2 p3
 l : Ow w B 121 3 (.slice A4 L.length p4) (L.map Line.cells)
 b : Below B w0 w
 f : Fr (wkTs T) w0 w
 bx : B ≤ X
section
variable {T : TypeId} {w0 w w' : World} {B X : Nat} {b : Bk} {L : List Line} {code : Int} {A1 A2 A3 A4 : Option Addr} {p1 p2 p3 p4 : Nat}
theorem Wk.lt (h : Wk T w0 w B X b L code A1 A2 A3 A4 p1 p2 p3 p4) : X < w.heap.size := (gz_ h.x).1
theorem Wk.ble (h : Wk T w0 w B X b L code A1 A2 A3 A4 p1 p2 p3 p4) : B ≤ w.heap.size := by have := h.lt; have := h.bx; omega
theorem Wk.below (h : Wk T w0 w B X b L code A1 A2 A3 A4 p1 p2 p3 p4) (hb : Below w.heap.size w w') : Wk T w0 w' B X b L code A1 A2 A3 A4 p1 p2 p3 p4 :=
 ⟨(hb.block X h.lt).trans h.x, h.o.below hb, h.l.below hb, h.b.trans (hb.mono h.ble), h.f.below hb, h.bx⟩
theorem Wk.alloc (h : Wk T w0 w B X b L code A1 A2 A3 A4 p1 p2 p3 p4) (o : Obj) : Wk T w0 (w.alloc o) B X b L code A1 A2 A3 A4 p1 p2 p3 p4 := h.below ((Below.refl _ _).alloc (Nat.le_refl _) o)
theorem Wk.drew (h : Wk T w0 w B X b L code A1 A2 A3 A4 p1 p2 p3 p4) : Wk T w0 w.drew B X b L code A1 A2 A3 A4 p1 p2 p3 p4 := ⟨h.x, h.o.drew, h.l, h.b.drew, h.f.drew, h.bx⟩
theorem Wk.here (h : Wk T w0 w B X b L code A1 A2 A3 A4 p1 p2 p3 p4) : Wk T w w B X b L code A1 A2 A3 A4 p1 p2 p3 p4 := ⟨h.x, h.o, h.l, Below.refl _ _, Fr.refl _ _, h.bx⟩
theorem Wk.trans (h0 : Wk T w0 w B X b L code A1 A2 A3 A4 p1 p2 p3 p4) {b' : Bk} {L' : List Line} {code' : Int} {C1 C2 C3 C4 : Option Addr} {q1 q2 q3 q4 : Nat} (h : Wk T w w' B X b' L' code' C1 C2 C3 C4 q1 q2 q3 q4) : Wk T w0 w' B X b' L' code' C1 C2 C3 C4 q1 q2 q3 q4 :=
 ⟨h.x, h.o, h.l, h0.b.trans h.b, h0.f.trans h.f, h.bx⟩
theorem Wk.box (h : Wk T w w' B X b L code A1 A2 A3 A4 p1 p2 p3 p4) {k : Nat} {cs : Array Value} {t : TypeId} (hk : w.heap[k]? = some (.cells cs t (0, 0))) (ht : t ∉ wkTs T) : w'.heap[k]? = some (.cells cs t (0, 0)) := h.f.box hk ht
theorem Wk.cell (h : Wk T w0 w B X b L code A1 A2 A3 A4 p1 p2 p3 p4) (i : Nat) : w.cell? ⟨X, i, none⟩ = (wkCells b L code A1 A2 A3 A4 p1 p2 p3 p4)[i]? := zqb h.x i
theorem Wk.open_ (h : Wk T w0 w B X b L code A1 A2 A3 A4 p1 p2 p3 p4) : w.cell? ⟨X, 0, none⟩ = some (.int .i64 b.t) ∧ w.cell? ⟨X, 1, none⟩ = some (.int .i64 b.n) ∧ w.cell? ⟨X, 2, none⟩ = some (.int .i64 b.w) ∧ w.cell? ⟨X, 3, none⟩ = some (.slice A1 b.cs.length p1) ∧ w.cell? ⟨X, 4, none⟩ = some (.slice A2 b.hs.length p2) ∧ w.cell? ⟨X, 5, none⟩ = some (.slice A3 b.os.length p3) ∧ w.cell? ⟨X, 6, none⟩ = some (.slice A4 L.length p4) ∧ w.cell? ⟨X, 7, none⟩ = some (.int .i64 code) ∧ (∀ i, w.frozen? ⟨X, i, none⟩ = false) ∧ X < w.heap.size :=
 ⟨zqb h.x 0, zqb h.x 1, zqb h.x 2, zqb h.x 3, zqb h.x 4, zqb h.x 5, zqb h.x 6, zqb h.x 7, zjb h.x, h.lt⟩
theorem Wk.set (h : Wk T w0 w B X b L code A1 A2 A3 A4 p1 p2 p3 p4) (hT1 : 32 ≠ T) (hT2 : 36 ≠ T) (hT3 : 38 ≠ T) (hT4 : 121 ≠ T) (i : Nat) (u : Value) :
  OwB (w.setCell ⟨X, i, none⟩ u) B b A1 A2 A3 p1 p2 p3 ∧ Ow (w.setCell ⟨X, i, none⟩ u) B 121 3 (.slice A4 L.length p4) (L.map Line.cells) ∧ Below B w0 (w.setCell ⟨X, i, none⟩ u) ∧ Fr (wkTs T) w0 (w.setCell ⟨X, i, none⟩ u) :=
 ⟨h.o.aside h.x hT1 hT2 hT3 u, h.l.aside h.x hT4 u, h.b.setCell h.bx u, h.f.set h.x (by simp [wkTs]) u⟩
theorem Wk.setCode (h : Wk T w0 w B X b L code A1 A2 A3 A4 p1 p2 p3 p4) (hT1 : 32 ≠ T) (hT2 : 36 ≠ T) (hT3 : 38 ≠ T) (hT4 : 121 ≠ T) (c : Int) : Wk T w0 (w.setCell ⟨X, 7, none⟩ (.int .i64 c)) B X b L c A1 A2 A3 A4 p1 p2 p3 p4 :=
 ⟨zqa h.x, (h.set hT1 hT2 hT3 hT4 7 _).1, (h.set hT1 hT2 hT3 hT4 7 _).2.1, (h.set hT1 hT2 hT3 hT4 7 _).2.2.1, (h.set hT1 hT2 hT3 hT4 7 _).2.2.2, h.bx⟩
theorem Wk.setWallet (h : Wk T w0 w B X b L code A1 A2 A3 A4 p1 p2 p3 p4) (hT1 : 32 ≠ T) (hT2 : 36 ≠ T) (hT3 : 38 ≠ T) (hT4 : 121 ≠ T) (c : Int) : Wk T w0 (w.setCell ⟨X, 2, none⟩ (.int .i64 c)) B X ⟨b.t, b.n, c, b.cs, b.hs, b.os⟩ L code A1 A2 A3 A4 p1 p2 p3 p4 :=
 ⟨zqa h.x, ⟨(h.set hT1 hT2 hT3 hT4 2 _).1.c, (h.set hT1 hT2 hT3 hT4 2 _).1.h, (h.set hT1 hT2 hT3 hT4 2 _).1.o⟩, (h.set hT1 hT2 hT3 hT4 2 _).2.1, (h.set hT1 hT2 hT3 hT4 2 _).2.2.1, (h.set hT1 hT2 hT3 hT4 2 _).2.2.2, h.bx⟩
theorem Wk.setTick (h : Wk T w0 w B X b L code A1 A2 A3 A4 p1 p2 p3 p4) (hT1 : 32 ≠ T) (hT2 : 36 ≠ T) (hT3 : 38 ≠ T) (hT4 : 121 ≠ T) (c : Int) : Wk T w0 (w.setCell ⟨X, 0, none⟩ (.int .i64 c)) B X ⟨c, b.n, b.w, b.cs, b.hs, b.os⟩ L code A1 A2 A3 A4 p1 p2 p3 p4 :=
 ⟨zqa h.x, ⟨(h.set hT1 hT2 hT3 hT4 0 _).1.c, (h.set hT1 hT2 hT3 hT4 0 _).1.h, (h.set hT1 hT2 hT3 hT4 0 _).1.o⟩, (h.set hT1 hT2 hT3 hT4 0 _).2.1, (h.set hT1 hT2 hT3 hT4 0 _).2.2.1, (h.set hT1 hT2 hT3 hT4 0 _).2.2.2, h.bx⟩
theorem Wk.setNext (h : Wk T w0 w B X b L code A1 A2 A3 A4 p1 p2 p3 p4) (hT1 : 32 ≠ T) (hT2 : 36 ≠ T) (hT3 : 38 ≠ T) (hT4 : 121 ≠ T) (c : Int) : Wk T w0 (w.setCell ⟨X, 1, none⟩ (.int .i64 c)) B X ⟨b.t, c, b.w, b.cs, b.hs, b.os⟩ L code A1 A2 A3 A4 p1 p2 p3 p4 :=
 ⟨zqa h.x, ⟨(h.set hT1 hT2 hT3 hT4 1 _).1.c, (h.set hT1 hT2 hT3 hT4 1 _).1.h, (h.set hT1 hT2 hT3 hT4 1 _).1.o⟩, (h.set hT1 hT2 hT3 hT4 1 _).2.1, (h.set hT1 hT2 hT3 hT4 1 _).2.2.1, (h.set hT1 hT2 hT3 hT4 1 _).2.2.2, h.bx⟩
theorem Wk.setC (h : Wk T w0 w B X b L code A1 A2 A3 A4 p1 p2 p3 p4) (hT1 : 32 ≠ T) (hT2 : 36 ≠ T) (hT3 : 38 ≠ T) (hT4 : 121 ≠ T) {cs : List Chan} {C : Option Addr} {q : Nat} (hC : Ow w B 32 7 (.slice C cs.length q) (cs.map Chan.cells)) :
  Wk T w0 (w.setCell ⟨X, 3, none⟩ (.slice C cs.length q)) B X ⟨b.t, b.n, b.w, cs, b.hs, b.os⟩ L code C A2 A3 A4 q p2 p3 p4 :=
 ⟨zqa h.x, ⟨hC.aside h.x hT1 _, (h.set hT1 hT2 hT3 hT4 3 _).1.h, (h.set hT1 hT2 hT3 hT4 3 _).1.o⟩, (h.set hT1 hT2 hT3 hT4 3 _).2.1, (h.set hT1 hT2 hT3 hT4 3 _).2.2.1, (h.set hT1 hT2 hT3 hT4 3 _).2.2.2, h.bx⟩
theorem Wk.setH (h : Wk T w0 w B X b L code A1 A2 A3 A4 p1 p2 p3 p4) (hT1 : 32 ≠ T) (hT2 : 36 ≠ T) (hT3 : 38 ≠ T) (hT4 : 121 ≠ T) {hs : List Htlc} {C : Option Addr} {q : Nat} (hC : Ow w B 36 7 (.slice C hs.length q) (hs.map Htlc.cells)) :
  Wk T w0 (w.setCell ⟨X, 4, none⟩ (.slice C hs.length q)) B X ⟨b.t, b.n, b.w, b.cs, hs, b.os⟩ L code A1 C A3 A4 p1 q p3 p4 :=
 ⟨zqa h.x, ⟨(h.set hT1 hT2 hT3 hT4 4 _).1.c, hC.aside h.x hT2 _, (h.set hT1 hT2 hT3 hT4 4 _).1.o⟩, (h.set hT1 hT2 hT3 hT4 4 _).2.1, (h.set hT1 hT2 hT3 hT4 4 _).2.2.1, (h.set hT1 hT2 hT3 hT4 4 _).2.2.2, h.bx⟩
theorem Wk.setO (h : Wk T w0 w B X b L code A1 A2 A3 A4 p1 p2 p3 p4) (hT1 : 32 ≠ T) (hT2 : 36 ≠ T) (hT3 : 38 ≠ T) (hT4 : 121 ≠ T) {os : List Circle} {C : Option Addr} {q : Nat} (hC : Ow w B 38 5 (.slice C os.length q) (os.map Circle.cells)) :
  Wk T w0 (w.setCell ⟨X, 5, none⟩ (.slice C os.length q)) B X ⟨b.t, b.n, b.w, b.cs, b.hs, os⟩ L code A1 A2 C A4 p1 p2 q p4 :=
 ⟨zqa h.x, ⟨(h.set hT1 hT2 hT3 hT4 5 _).1.c, (h.set hT1 hT2 hT3 hT4 5 _).1.h, hC.aside h.x hT3 _⟩, (h.set hT1 hT2 hT3 hT4 5 _).2.1, (h.set hT1 hT2 hT3 hT4 5 _).2.2.1, (h.set hT1 hT2 hT3 hT4 5 _).2.2.2, h.bx⟩
theorem Wk.setL (h : Wk T w0 w B X b L code A1 A2 A3 A4 p1 p2 p3 p4) (hT1 : 32 ≠ T) (hT2 : 36 ≠ T) (hT3 : 38 ≠ T) (hT4 : 121 ≠ T) {L' : List Line} {C : Option Addr} {q : Nat} (hC : Ow w B 121 3 (.slice C L'.length q) (L'.map Line.cells)) :
  Wk T w0 (w.setCell ⟨X, 6, none⟩ (.slice C L'.length q)) B X b L' code A1 A2 A3 C p1 p2 p3 q :=
 ⟨zqa h.x, (h.set hT1 hT2 hT3 hT4 6 _).1, hC.aside h.x hT4 _, (h.set hT1 hT2 hT3 hT4 6 _).2.2.1, (h.set hT1 hT2 hT3 hT4 6 _).2.2.2, h.bx⟩
end
end Go.Proofs.Ytcjbjpobpefehaa
namespace Go.Proofs.Ytcjbjpobpefehaa
open Go.RowKit Go.Deep
theorem Ow.heapW {w : World} {B size n cap g : Nat} {e : TypeId} {rows : List (List Value)} (h : Ow w B e size (.slice (some ⟨g, 0, none⟩) n cap) rows) : ∃ cur, w.heap[g]? = some (.cells cur e (0, 0)) := by
 rcases h.2.2 with ⟨hv, _⟩ | ⟨g', cap', cur, hv, _, hh, _⟩
 ·
  cases hv
 ·
  injection hv with h1
  injection h1 with h1
  injection h1 with h1
  subst h1
  exact ⟨cur, hh⟩
theorem Ow.headW {w : World} {B n cap size : Nat} {e : TypeId} {A : Option Addr} {rows : List (List Value)} (h : Ow w B e size (.slice A n cap) rows) (h0 : 0 < rows.length) : ∃ g, A = some ⟨g, 0, none⟩ ∧ B ≤ g := by
 rcases h.open_ with ⟨hr, hv⟩ | ⟨g, cap', hv, hB, _, _⟩
 ·
  rw [hr] at h0
  simp at h0
 ·
  injection hv with h1
  exact ⟨g, h1, hB⟩
def set7 (w : World) (g o : Nat) (u0 u1 u2 u3 u4 u5 u6 : Value) : World :=
 ((((((w.setCell ⟨g, o, none⟩ u0).setCell ⟨g, o + 1, none⟩ u1).setCell ⟨g, o + 2, none⟩ u2).setCell ⟨g, o + 3, none⟩ u3).setCell ⟨g, o + 4, none⟩ u4).setCell ⟨g, o + 5, none⟩ u5).setCell ⟨g, o + 6, none⟩ u6
theorem grown_set7 (w : World) (g o : Nat) (u0 u1 u2 u3 u4 u5 u6 : Value) : w.grownBy (set7 w g o u0 u1 u2 u3 u4 u5 u6) (some g) :=
 zqg (zqg (zqg (zqg (zqg (zqg (zqg (World.grownBy.refl w (some g)) o u0) (o + 1) u1) (o + 2) u2) (o + 3) u3) (o + 4) u4) (o + 5) u5) (o + 6) u6
theorem Ow.set7 {w : World} {B n cap g i : Nat} {e : TypeId} {rows : List (List Value)} {r : List Value} (h : Ow w B e 7 (.slice (some ⟨g, 0, none⟩) n cap) rows) (hi : rows[i]? = some r) (u0 u1 u2 u3 u4 u5 u6 : Value) :
  Ow (Go.Proofs.Ytcjbjpobpefehaa.set7 w g (i * 7) u0 u1 u2 u3 u4 u5 u6) B e 7 (.slice (some ⟨g, 0, none⟩) n cap) (rows.set i [u0, u1, u2, u3, u4, u5, u6]) := by
 have hlt : i < rows.length := (List.getElem?_eq_some_iff.1 hi).1
 have hl := h.1 r (List.mem_of_getElem? hi)
 have at_ : ∀ (R : List (List Value)) (x : List Value), R.length = rows.length → (R.set i x)[i]? = some x := fun R x hR => by
  rw [List.getElem?_set_self (by omega)]
 have s0 := h.stored hi (j := 0) (by decide) u0
 have s1 := s0.stored (at_ _ _ rfl) (j := 1) (by decide) u1
 rw [List.set_set] at s1
 have s2 := s1.stored (at_ _ _ rfl) (j := 2) (by decide) u2
 rw [List.set_set] at s2
 have s3 := s2.stored (at_ _ _ rfl) (j := 3) (by decide) u3
 rw [List.set_set] at s3
 have s4 := s3.stored (at_ _ _ rfl) (j := 4) (by decide) u4
 rw [List.set_set] at s4
 have s5 := s4.stored (at_ _ _ rfl) (j := 5) (by decide) u5
 rw [List.set_set] at s5
 have s6 := s5.stored (at_ _ _ rfl) (j := 6) (by decide) u6
 rw [List.set_set] at s6
 match r, hl with
 | [_, _, _, _, _, _, _], _ => exact s6
theorem zvd {cs : List Chan} {ch : Int} {i : Nat} (h : chanIx cs ch = (i : Int)) : i < cs.length := by
 unfold chanIx at h
 split at h
 ·
  rename_i j hj
  have := (List.findIdx?_eq_some_iff_getElem.1 hj).1
  omega
 ·
  omega
theorem modify_at {α : Type} {l : List α} {i : Nat} (h : i < l.length) (f : α → α) : l.modify i f = l.set i (f l[i]) := by
 apply List.ext_getElem?
 intro j
 rw [List.getElem?_modify, List.getElem?_set]
 by_cases hj : i = j
 ·
  subst hj
  simp [h]
 ·
  simp [hj]
section
variable {T : TypeId} {w0 w : World} {B X : Nat} {b : Bk} {L : List Line} {code : Int} {A1 A2 A3 A4 : Option Addr} {p1 p2 p3 p4 : Nat}
theorem map_set_cells (cs : List Chan) (i : Nat) (c : Chan) : (cs.set i c).map Chan.cells = (cs.map Chan.cells).set i c.cells := by
 rw [List.map_set]
theorem Wk.putChan {g i : Nat} (h : Wk T w0 w B X b L code (some ⟨g, 0, none⟩) A2 A3 A4 p1 p2 p3 p4) (hT1 : 32 ≠ T) (hi : i < b.cs.length) (c : Chan) :
  Wk T w0 (Go.Proofs.Ytcjbjpobpefehaa.set7 w g (i * 7) (.int .i64 c.Id) (.int .i64 c.Size) (.int .i64 c.Local) (.int .i64 c.Remote) (.int .i64 c.Base) (.int .i64 c.Ppm) (.int .i64 c.Score)) B X ⟨b.t, b.n, b.w, b.cs.set i c, b.hs, b.os⟩ L code (some ⟨g, 0, none⟩) A2 A3 A4 p1 p2 p3 p4 := by
 have hg := grown_set7 w g (i * 7) (.int .i64 c.Id) (.int .i64 c.Size) (.int .i64 c.Local) (.int .i64 c.Remote) (.int .i64 c.Base) (.int .i64 c.Ppm) (.int .i64 c.Score)
 obtain ⟨cur, hh⟩ := h.o.c.heapW
 have hr : (b.cs.map Chan.cells)[i]? = some b.cs[i].cells := by rw [List.getElem?_map, List.getElem?_eq_getElem hi]; rfl
 have h7 := h.o.c.set7 hr (.int .i64 c.Id) (.int .i64 c.Size) (.int .i64 c.Local) (.int .i64 c.Remote) (.int .i64 c.Base) (.int .i64 c.Ppm) (.int .i64 c.Score)
 have hgX : some X ≠ some g := fun e => by
  injection e with e
  subst e
  rw [h.x] at hh
  injection hh with hh
  injection hh with _ hh
  exact hT1 hh.symm
 have hBg : B ≤ g := (h.o.c.block g (by simp [Value.ownBlock])).1
 refine ⟨?_, ⟨?_, ?_, ?_⟩, ?_, ?_, ?_, h.bx⟩
 ·
  rw [List.length_set]
  exact zqe hg hgX h.x
 ·
  rw [List.length_set, map_set_cells]
  exact h7
 ·
  exact h.o.h.grown hg (Or.inr (h.o.h.ne_ hh (by decide)).symm)
 ·
  exact h.o.o.grown hg (Or.inr (h.o.o.ne_ hh (by decide)).symm)
 ·
  exact h.l.grown hg (Or.inr (h.l.ne_ hh (by decide)).symm)
 ·
  exact h.b.grown hg h.ble (fun k e => by injection e with e; omega)
 ·
  intro k cs t h1 h2
  have h3 := h.f k cs t h1 h2
  refine zqe hg ?_ h3
  intro e
  injection e with e
  subst e
  rw [hh] at h3
  injection h3 with h3
  injection h3 with _ h3
  exact h2 (by rw [← h3]; simp [wkTs])
end
end Go.Proofs.Ytcjbjpobpefehaa
namespace Go.Proofs.Ytcjbjpobpefehaa
open Go.RowKit Go.Deep
def OnlyX (X : Nat) (w w' : World) : Prop := ∀ k x, k ≠ X → w.heap[k]? = some x → w'.heap[k]? = some x
theorem OnlyX.refl (X : Nat) (w : World) : OnlyX X w w := fun _ _ _ h => h
theorem OnlyX.set (X : Nat) (w : World) (i : Nat) (u : Value) : OnlyX X w (w.setCell ⟨X, i, none⟩ u) := fun _ _ hk h => zqc hk h
theorem OnlyX.of_below {X : Nat} {w w' : World} (hb : Below w.heap.size w w') : OnlyX X w w' := fun k _ _ h => (hb.block k (gz_ h).1).trans h
theorem OnlyX.trans {X : Nat} {w w' w'' : World} (h : OnlyX X w w') (h' : OnlyX X w' w'') : OnlyX X w w'' := fun k x hk hx => h' k x hk (h k x hk hx)
theorem zxh (w0 w : World) (B X : Nat) (b : Bk) (L : List Line) (A1 A2 A3 A4 : Option Addr) (p1 p2 p3 p4 : Nat) (c : Int) (hc : (c != 0) = true) (h : Wk 98 w0 w B X b L 0 A1 A2 A3 A4 p1 p2 p3 p4) :
  Calls Try.prog 62 #[.pointer (some ⟨X, 0, none⟩), .bool true, .int .i64 c] w fun e w' => e = .returned (.bool true) ∧ Wk 98 w w' B X b L c A1 A2 A3 A4 p1 p2 p3 p4 ∧ OnlyX X w w' := by
 have H := Lib.hid h.here
 obtain ⟨a0, a1, a2, a3, a4, a5, a6, a7, af, az⟩ := h.open_
 clear h
 go_enter Try.func62, Try.ntmps62
 go_wp2_with fail
 go_ret
 exact ⟨rfl, H.out.setCode (by decide) (by decide) (by decide) (by decide) c, OnlyX.set _ _ _ _⟩
theorem zxb (w0 w : World) (B X : Nat) (b : Bk) (L : List Line) (A1 A2 A3 A4 : Option Addr) (p1 p2 p3 p4 : Nat) (c : Int) (h : Wk 98 w0 w B X b L 0 A1 A2 A3 A4 p1 p2 p3 p4) :
  Calls Try.prog 62 #[.pointer (some ⟨X, 0, none⟩), .bool false, .int .i64 c] w fun e w' => e = .returned (.bool false) ∧ w = w' := by
 obtain ⟨a0, a1, a2, a3, a4, a5, a6, a7, af, az⟩ := h.open_
 clear h
 go_enter Try.func62, Try.ntmps62
 go_wp2_with fail
 go_ret
 exact ⟨rfl, rfl⟩
def Done (T : TypeId) (w : World) (B X : Nat) (b : Bk) (L : List Line) (code : Int) (e : Ending) (w' : World) : Prop :=
 ∃ (A1 A2 A3 A4 : Option Addr) (p1 p2 p3 p4 : Nat), e = .returned (.tuple #[]) ∧ Wk T w w' B X b L code A1 A2 A3 A4 p1 p2 p3 p4
theorem zka (w0 w : World) (B X : Nat) (b : Bk) (L : List Line) (code : Int) (A1 A2 A3 A4 : Option Addr) (p1 p2 p3 p4 : Nat) (k c a : Int) (hl : L.length ≤ 1000) (h : Wk 98 w0 w B X b L code A1 A2 A3 A4 p1 p2 p3 p4) :
  Calls Try.prog 64 #[.pointer (some ⟨X, 0, none⟩), .int .i64 k, .int .i64 c, .int .i64 a] w (fun e w' => Done 98 w B X b (lineTo L k c a) code e w' ∧ OnlyX X w w') := by
 have H := Lib.hid h.here
 obtain ⟨a0, a1, a2, a3, a4, a5, a6, a7, af, az⟩ := h.open_
 clear h
 by_cases ha : a = 0
 ·
  have HE := Lib.hid (show lineTo L k c a = L by unfold lineTo; rw [if_pos ha])
  have ta : (a != 0) = false := by rw [ha]; rfl
  clear ha
  go_enter Try.func64, Try.ntmps64
  go_wp2_with fail
  go_end0
  rw [HE.out]
  exact ⟨⟨_, _, _, _, _, _, _, _, rfl, H.out⟩, OnlyX.refl _ _⟩
 ·
  have HE := Lib.hid (show lineTo L k c a = addF ⟨k, c, a⟩ L by unfold lineTo; rw [if_neg ha])
  have ta : (a != 0) = true := by rw [bne_iff_ne]; exact ha
  clear ha
  go_enter Try.func64, Try.ntmps64
  go_wp2_with fail
  refine (s_l02Add L _ _ k c a _ (by omega) H.out.l.rd).mono ?_
  rintro e w1 ⟨A', cap', rfl, how, hb1⟩
  have H1 := Lib.hid (H.out.below hb1)
  have HL := Lib.hid (how.more H.out.ble)
  have HO := Lib.hid (OnlyX.of_below (X := X) hb1)
  clear hb1 how a0 a1 a2 a3 a4 a5 a6 a7 af az
  obtain ⟨a0, a1, a2, a3, a4, a5, a6, a7, af, az⟩ := H1.out.open_
  go_wp2_with fail
  go_end0
  rw [HE.out]
  exact ⟨⟨_, _, _, _, _, _, _, _, rfl, H1.out.setL (by decide) (by decide) (by decide) (by decide) HL.out⟩, HO.out.trans (OnlyX.set _ _ _ _)⟩
set_option maxRecDepth 100000 in
set_option maxHeartbeats 2000000 in
theorem zvc (w0 w : World) (B X : Nat) (b : Bk) (L : List Line) (code : Int) (A1 A2 A3 A4 : Option Addr) (p1 p2 p3 p4 : Nat) (ch dl dr : Int) (hcl : b.cs.length ≤ 1048576) (hix : 0 ≤ chanIx b.cs ch) (hb : (-1152921504606846976 ≤ (chanOf b.cs ch).Local ∧ (chanOf b.cs ch).Local ≤ 1152921504606846976) ∧ (-1152921504606846976 ≤ (chanOf b.cs ch).Remote ∧ (chanOf b.cs ch).Remote ≤ 1152921504606846976)) (hdl : -1152921504606846976 ≤ dl ∧ dl ≤ 1152921504606846976) (hdr : -1152921504606846976 ≤ dr ∧ dr ≤ 1152921504606846976) (h : Wk 98 w0 w B X b L code A1 A2 A3 A4 p1 p2 p3 p4) :
  Calls Try.prog 92 #[.pointer (some ⟨X, 0, none⟩), .int .i64 ch, .int .i64 dl, .int .i64 dr] w (fun e w' => e = .returned (.tuple #[]) ∧ Wk 98 w w' B X ⟨b.t, b.n, b.w, moveC b.cs ch dl dr, b.hs, b.os⟩ L code A1 A2 A3 A4 p1 p2 p3 p4 ∧ ∀ g, A1 = some ⟨g, 0, none⟩ → OnlyX g w w') := by
 obtain ⟨i, hi⟩ := Int.eq_ofNat_of_zero_le hix
 have hlt : i < b.cs.length := zvd hi
 have hof : chanOf b.cs ch = b.cs[i] := by
  unfold chanOf
  rw [hi, Int.toNat_natCast, List.getD_eq_getElem?_getD, List.getElem?_eq_getElem hlt]
  rfl
 rw [hof] at hb
 have hm : moveC b.cs ch dl dr = b.cs.set i (moveF dl dr b.cs[i]) := by
  unfold moveC setCh
  rw [hi, Int.toNat_natCast, modify_at hlt]
 have HIX := Lib.hid hi
 have hr : (b.cs.map Chan.cells)[i]? = some b.cs[i].cells := by rw [List.getElem?_map, List.getElem?_eq_getElem hlt]; rfl
 obtain ⟨c, hc⟩ : ∃ c, b.cs[i] = c := ⟨_, rfl⟩
 rw [hc] at hb hm hr
 obtain ⟨k0, k1, k2, k3, k4, k5, k6⟩ := c
 have HM := Lib.hid (show moveC b.cs ch dl dr = b.cs.set i ⟨k0, k1, k2 + dl, k3 + dr, k4, k5, k6⟩ from hm)
 obtain ⟨g, rfl, hBg⟩ := h.o.c.headW (by rw [List.length_map]; omega)
 have H := Lib.hid h.here
 have HRow := Lib.hid hr
 obtain ⟨⟨b1, b2⟩, b3, b4⟩ := hb
 obtain ⟨b5, b6⟩ := hdl
 obtain ⟨b7, b8⟩ := hdr
 simp only at b1 b2 b3 b4
 obtain ⟨a0, a1, a2, a3, a4, a5, a6, a7, af, az⟩ := h.open_
 clear h hi hix hof hc hm hr
 have i0 : (0 : Int) ≤ (i : Int) := by omega
 have i1 : (i : Int) < (b.cs.length : Int) := by omega
 go_enter Try.func92, Try.ntmps92
 go_wp2_with fail
 refine (zve b.t b.n b.w b.cs b.hs b.os _ _ _ _ _ _ ch _ hcl H.out.o.rd).mono ?_
 rintro e w1 ⟨rfl, hb1⟩
 rw [HIX.out]
 have H1 := Lib.hid (H.out.below hb1)
 have HG1 := Lib.hid (OnlyX.of_below (X := g) hb1)
 clear hb1 a0 a1 a2 a3 a4 a5 a6 a7 af az
 obtain ⟨a0, a1, a2, a3, a4, a5, a6, a7, af, az⟩ := H1.out.open_
 have c0 := H1.out.o.c.cellAt HRow.out (j := 0) (by decide)
 have c1 := H1.out.o.c.cellAt HRow.out (j := 1) (by decide)
 have c2 := H1.out.o.c.cellAt HRow.out (j := 2) (by decide)
 have c3 := H1.out.o.c.cellAt HRow.out (j := 3) (by decide)
 have c4 := H1.out.o.c.cellAt HRow.out (j := 4) (by decide)
 have c5 := H1.out.o.c.cellAt HRow.out (j := 5) (by decide)
 have c6 := H1.out.o.c.cellAt HRow.out (j := 6) (by decide)
 simp only [Chan.cells, List.getElem?_cons_zero, List.getElem?_cons_succ, Nat.add_zero] at c0 c1 c2 c3 c4 c5 c6
 go_wp2_with fail
 obtain ⟨Y, hY⟩ : ∃ Y, Y = w1.heap.size := ⟨_, rfl⟩
 obtain ⟨wy, hwy⟩ : ∃ v, w1.alloc (.cells #[.int .i64 k0, .int .i64 k1, .int .i64 (k2 + dl), .int .i64 (k3 + dr), .int .i64 k4, .int .i64 k5, .int .i64 k6] 32) = v := ⟨_, rfl⟩
 have Hy : Hid (Wk 98 w wy B X b L code (some ⟨g, 0, none⟩) A2 A3 A4 p1 p2 p3 p4) := Lib.hid (by rw [← hwy]; exact H1.out.alloc _)
 have HY : Hid (wy.heap[Y]? = some (.cells #[.int .i64 k0, .int .i64 k1, .int .i64 (k2 + dl), .int .i64 (k3 + dr), .int .i64 k4, .int .i64 k5, .int .i64 k6] 32 (0, 0))) := Lib.hid (by rw [← hwy, hY]; exact zxc rfl)
 have HG2 : Hid (OnlyX g w wy) := Lib.hid (by rw [← hwy]; exact HG1.out.trans (OnlyX.of_below ((Below.refl _ _).alloc (Nat.le_refl _) _)))
 rw [hwy, ← hY]
 clear HG1 hwy hY a0 a1 a2 a3 a4 a5 a6 a7 af az c0 c1 c2 c3 c4 c5 c6 H1
 refine wp_region_noPanic ?_
 refine wp_region_lastL2 (S := (fun w' => w'.cell? ⟨X, 3, none⟩ = some (.slice (some ⟨g, 0, none⟩) b.cs.length p1) ∧ w'.cell? ⟨Y, 0, none⟩ = some (.int .i64 k0) ∧ w'.cell? ⟨Y, 1, none⟩ = some (.int .i64 k1) ∧ w'.cell? ⟨Y, 2, none⟩ = some (.int .i64 (k2 + dl)) ∧ w'.cell? ⟨Y, 3, none⟩ = some (.int .i64 (k3 + dr)) ∧ w'.cell? ⟨Y, 4, none⟩ = some (.int .i64 k4) ∧ w'.cell? ⟨Y, 5, none⟩ = some (.int .i64 k5) ∧ w'.cell? ⟨Y, 6, none⟩ = some (.int .i64 k6))) rfl (by kernel_rfl) (by kernel_rfl) (by kernel_rfl) (by kernel_rfl) ⟨Hy.out.open_.2.2.2.1, zqb HY.out 0, zqb HY.out 1, zqb HY.out 2, zqb HY.out 3, zqb HY.out 4, zqb HY.out 5, zqb HY.out 6⟩ (fun hHeld => ?_)
 obtain ⟨wd, hwd⟩ : ∃ wd, wy.drew = wd := ⟨_, rfl⟩
 have Hd : Hid (Wk 98 w wd B X b L code (some ⟨g, 0, none⟩) A2 A3 A4 p1 p2 p3 p4) := Lib.hid (by rw [← hwd]; exact Hy.out.drew)
 have HG3 : Hid (OnlyX g w wd) := Lib.hid (by rw [← hwd]; exact HG2.out)
 rw [hwd] at hHeld ⊢
 clear hwd Hy HY HG2
 have c0 := Hd.out.o.c.cellAt HRow.out (j := 0) (by decide)
 have c1 := Hd.out.o.c.cellAt HRow.out (j := 1) (by decide)
 have c2 := Hd.out.o.c.cellAt HRow.out (j := 2) (by decide)
 have c3 := Hd.out.o.c.cellAt HRow.out (j := 3) (by decide)
 have c4 := Hd.out.o.c.cellAt HRow.out (j := 4) (by decide)
 have c5 := Hd.out.o.c.cellAt HRow.out (j := 5) (by decide)
 have c6 := Hd.out.o.c.cellAt HRow.out (j := 6) (by decide)
 simp only [Chan.cells, List.getElem?_cons_zero, List.getElem?_cons_succ, Nat.add_zero] at c0 c1 c2 c3 c4 c5 c6
 have cf := fun j => Hd.out.o.c.frozenAt j
 simp only [List.dropLast]
 refine wpAnyH_take (i := 0) (v := ?v1) rfl (by kernel_rfl) (by kernel_rfl) (by kernel_rfl) (fun _ _ _ h => h) (Or.inl ⟨by rfl, ?hy1⟩) (by assumption) ?rest1
 case hy1 => (intro w hSw; (try dsimp only at hSw); go_simp; (try with_reducible rfl))
 ((try simp only [Act.put]); (try simp only [List.setIfInBounds_toArray]); (repeat (first | simp only [List.set_cons_succ] | simp only [List.set_cons_zero])))
 refine wpAnyH_take (i := 1) (v := ?v2) rfl (by kernel_rfl) (by kernel_rfl) (by kernel_rfl) (fun _ _ _ h => h) (Or.inl ⟨by rfl, ?hy2⟩) (by assumption) ?rest2
 case hy2 => (intro w hSw; (try dsimp only at hSw); go_simp; (try with_reducible rfl))
 ((try simp only [Act.put]); (try simp only [List.setIfInBounds_toArray]); (repeat (first | simp only [List.set_cons_succ] | simp only [List.set_cons_zero])))
 refine wpAnyH_take (i := 2) (v := ?v3) rfl (by kernel_rfl) (by kernel_rfl) (by kernel_rfl) (fun _ _ _ h => h) (Or.inl ⟨by rfl, ?hy3⟩) (by assumption) ?rest3
 case hy3 => (intro w hSw; (try dsimp only at hSw); go_simp; (try with_reducible rfl))
 ((try simp only [Act.put]); (try simp only [List.setIfInBounds_toArray]); (repeat (first | simp only [List.set_cons_succ] | simp only [List.set_cons_zero])))
 refine wpAnyH_take (i := 3) (v := ?v4) rfl (by kernel_rfl) (by kernel_rfl) (by kernel_rfl) (fun _ _ _ h => h) (Or.inl ⟨by rfl, ?hy4⟩) (by assumption) ?rest4
 case hy4 => (intro w hSw; (try dsimp only at hSw); go_simp; (try with_reducible rfl))
 ((try simp only [Act.put]); (try simp only [List.setIfInBounds_toArray]); (repeat (first | simp only [List.set_cons_succ] | simp only [List.set_cons_zero])))
 refine wpAnyH_take (i := 4) (v := ?v5) rfl (by kernel_rfl) (by kernel_rfl) (by kernel_rfl) (fun _ _ _ h => h) (Or.inl ⟨by rfl, ?hy5⟩) (by assumption) ?rest5
 case hy5 => (intro w hSw; (try dsimp only at hSw); go_simp; (try with_reducible rfl))
 ((try simp only [Act.put]); (try simp only [List.setIfInBounds_toArray]); (repeat (first | simp only [List.set_cons_succ] | simp only [List.set_cons_zero])))
 refine wpAnyH_take (i := 5) (v := ?v6) rfl (by kernel_rfl) (by kernel_rfl) (by kernel_rfl) (fun _ _ _ h => h) (Or.inl ⟨by rfl, ?hy6⟩) (by assumption) ?rest6
 case hy6 => (intro w hSw; (try dsimp only at hSw); go_simp; (try with_reducible rfl))
 ((try simp only [Act.put]); (try simp only [List.setIfInBounds_toArray]); (repeat (first | simp only [List.set_cons_succ] | simp only [List.set_cons_zero])))
 refine wpAnyH_take (i := 6) (v := ?v7) rfl (by kernel_rfl) (by kernel_rfl) (by kernel_rfl) (fun _ _ _ h => h) (Or.inl ⟨by rfl, ?hy7⟩) (by assumption) ?rest7
 case hy7 => (intro w hSw; (try dsimp only at hSw); go_simp; (try with_reducible rfl))
 ((try simp only [Act.put]); (try simp only [List.setIfInBounds_toArray]); (repeat (first | simp only [List.set_cons_succ] | simp only [List.set_cons_zero])))
 refine wpAnyH_take (i := 7) (v := ?v8) rfl (by kernel_rfl) (by kernel_rfl) (by kernel_rfl) (fun _ _ _ h => h) (Or.inl ⟨by rfl, ?hy8⟩) (by assumption) ?rest8
 case hy8 => (intro w hSw; (try dsimp only at hSw); go_simp; (try with_reducible rfl))
 ((try simp only [Act.put]); (try simp only [List.setIfInBounds_toArray]); (repeat (first | simp only [List.set_cons_succ] | simp only [List.set_cons_zero])))
 refine wpAnyH_done (by kernel_rfl) ?_ _
 intro KK hKK
 go_simp
 refine hKK _ _ (NoPanic.normal ?_)
 go_wp2_with fail
 go_end0
 rw [HM.out]
 refine ⟨rfl, H.out.trans (Hd.out.putChan (by decide) hlt ⟨k0, k1, k2 + dl, k3 + dr, k4, k5, k6⟩), fun g' hg' => ?_⟩
 injection hg' with hg'
 injection hg' with hg'
 subst hg'
 exact ((((((HG3.out.trans (OnlyX.set _ _ _ _)).trans (OnlyX.set _ _ _ _)).trans (OnlyX.set _ _ _ _)).trans (OnlyX.set _ _ _ _)).trans (OnlyX.set _ _ _ _)).trans (OnlyX.set _ _ _ _)).trans (OnlyX.set _ _ _ _)
end Go.Proofs.Ytcjbjpobpefehaa
