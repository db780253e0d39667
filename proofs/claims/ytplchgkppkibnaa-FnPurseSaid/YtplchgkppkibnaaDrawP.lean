/- Draws of purses. -/
import Derived.Test.YtplchgkppkibnaaRows
import Derived.Test.YtplchgkppkibnaaDraw
import Derived.Test.YtplchgkppkibnaaApp2
import Derived.Test.YtplchgkppkibnaaSpendS
import Derived.Test.YtplchgkppkibnaaLast
import Derived.Deep.RegionHeld3
namespace Go.Proofs.Ytplchgkppkibnaa
open Go.RowKit

theorem sizeUpP (w : World) (o : Obj) : (w.alloc o).heap.size = w.heap.size + 1 := by simp
theorem someNeP {a b : Nat} (h : a ≠ b) : some a ≠ some b := fun e => h (Option.some.inj e)
theorem grown_allocP {a w : World} {r : Option Nat} (h : a.grownBy w r) (o : Obj) : a.grownBy (w.alloc o) r := grown_trans h (grown_of_below ((Below.refl _ _).alloc (Nat.le_refl _) o))
theorem grown_setP {a w : World} {r : Option Nat} {b : Nat} (h : a.grownBy w r) (hb : a.heap.size ≤ b) (i : Nat) (u : Value) : a.grownBy (w.setCell ⟨b, i, none⟩ u) r :=
  ⟨h.os, h.tape, h.output, by simpa [World.setCell] using h.size, fun k hk hne => (Below.heap_setCell w ⟨b, i, none⟩ u k (fun e => by simp only at e; omega)).trans (h.block k hk hne)⟩
theorem grown_belowP {a w w' : World} {r : Option Nat} (h : a.grownBy w r) (hb : Below w.heap.size w w') : a.grownBy w' r := grown_trans h (grown_of_below hb)
theorem Ow.pastC {w w' : World} {B g : Nat} {e : TypeId} {n : Nat} {v : Value} {rows : List (List Value)} (h : Ow w B e n v rows) (hg : w.grownBy w' (some g)) (hB : g < B) : Ow w' B e n v rows :=
  h.grown hg (by
    cases hv : v.ownBlock with
    | none => exact .inl rfl
    | some k => exact .inr (someNeP (by have := (h.block k hv).1; omega)))
theorem cell_aside {w : World} {p : Addr} {b i : Nat} {u v : Value} (h : p.block ≠ b) (k : w.cell? p = some v) : (w.setCell ⟨b, i, none⟩ u).cell? p = some v := by
  rw [← k]
  exact World.cell?_of_block (Below.heap_setCell w ⟨b, i, none⟩ u p.block h)
theorem cell_undrew {w : World} {p : Addr} {v : Value} (k : w.cell? p = some v) : w.drew.cell? p = some v := k
def DrewP (g : Nat) (w : World) (e : Ending) (w' : World) : Prop := ∃ (c s : Int) (l : List Coin) (A : Option Addr) (cap : Nat), e = .returned (.agg #[.int .i64 c, .int .i64 s, .slice A l.length cap]) ∧ l.length ≤ 60 ∧ Ow w' w.heap.size 108 2 (.slice A l.length cap) (l.map Coin.cells) ∧ Crs w' g ∧ w.grownBy w' (some g)
/-- What the draw of a purse keeps: the purse in block P, the result in the first own block, the coins, the cursor. -/
def PuK (w : World) (g P : Nat) (c s : Int) (L : List Coin) (A : Option Addr) (cp : Nat) (w' : World) : Prop :=
  w'.heap[P]? = some (.cells #[.int .i64 c, .int .i64 s, .slice A L.length cp] 59 (0, 0)) ∧ w'.heap[w.heap.size]? = some (.cells #[.int .i64 0, .int .i64 0, .slice none 0 0] 59 (0, 0)) ∧
  Ow w' w.heap.size 108 2 (.slice A L.length cp) (L.map Coin.cells) ∧ Crs w' g ∧ w.grownBy w' (some g) ∧ w.heap.size < P ∧ g < w.heap.size
section
variable {w w' w'' : World} {g P cp : Nat} {c s : Int} {L : List Coin} {A : Option Addr}
theorem PuK.drew (h : PuK w g P c s L A cp w') : PuK w g P c s L A cp w'.drew :=
  ⟨h.1, h.2.1, h.2.2.1, h.2.2.2.1.below ((Below.refl _ _).drew), ⟨h.2.2.2.2.1.os, h.2.2.2.2.1.tape, h.2.2.2.2.1.output, h.2.2.2.2.1.size, h.2.2.2.2.1.block⟩, h.2.2.2.2.2⟩
theorem PuK.lt (h : PuK w g P c s L A cp w') : P < w'.heap.size := (Array.getElem?_eq_some_iff.1 h.1).1
theorem PuK.below (h : PuK w g P c s L A cp w') (hb : Below w'.heap.size w' w'') : PuK w g P c s L A cp w'' :=
  ⟨heap_below hb h.lt h.1, heap_below hb (Nat.lt_trans h.2.2.2.2.2.1 h.lt) h.2.1, h.2.2.1.below hb, h.2.2.2.1.below hb, grown_belowP h.2.2.2.2.1 hb, h.2.2.2.2.2⟩
theorem PuK.alloc (h : PuK w g P c s L A cp w') (o : Obj) : PuK w g P c s L A cp (w'.alloc o) := h.below ((Below.refl _ _).alloc (Nat.le_refl _) o)
theorem PuK.draw (h : PuK w g P c s L A cp w') (hg : w'.grownBy w'' (some g)) (hc : Crs w'' g) : PuK w g P c s L A cp w'' :=
  ⟨heap_grown hg (someNeP (by have := h.2.2.2.2.2; omega)) h.1, heap_grown hg (someNeP (by have := h.2.2.2.2.2; omega)) h.2.1, h.2.2.1.pastC hg h.2.2.2.2.2.2, hc, grown_trans h.2.2.2.2.1 hg, h.2.2.2.2.2⟩
theorem PuK.aside (h : PuK w g P c s L A cp w') {X i : Nat} {u : Value} (hP : P < X) (hX : some X ≠ (Value.slice A L.length cp).ownBlock) : PuK w g P c s L A cp (w'.setCell ⟨X, i, none⟩ u) := by
  obtain ⟨h1, h2, h3, h4, h5, h6, h7⟩ := h
  have gr := grown_set (World.grownBy.refl w' (some X)) i u
  refine ⟨heap_grown gr (someNeP (by omega)) h1, heap_grown gr (someNeP (by omega)) h2, h3.grown gr (.inr (Ne.symm hX)), h4.set (by omega), grown_setP h5 (by omega) i u, h6, h7⟩
theorem PuK.cells (h : PuK w g P c s L A cp w') : w'.cell? ⟨P, 0, none⟩ = some (.int .i64 c) ∧ w'.cell? ⟨P, 1, none⟩ = some (.int .i64 s) ∧ w'.cell? ⟨P, 2, none⟩ = some (.slice A L.length cp) := by
  obtain ⟨_, p0, p1, p2, _⟩ := own3 (Below.refl w'.heap.size w') h.lt h.1
  exact ⟨p0, p1, p2⟩
theorem coin_one (l : List Coin) : ∀ u ∈ (l.map Coin.cells).flatten, u.oneCell' = true := by
  intro u hu
  rw [List.mem_flatten] at hu
  obtain ⟨r, hr, hu⟩ := hu
  obtain ⟨d, _, rfl⟩ := List.mem_map.1 hr
  simp [Coin.cells] at hu
  rcases hu with rfl | rfl <;> rfl
theorem Ow.lastC {B g9 n cap9 : Nat} {e : TypeId} {L2 : List Coin} {d : Coin} (h : Ow w' B e 2 (.slice (some ⟨g9, 0, none⟩) n cap9) (L2.map Coin.cells ++ [[.int .i64 d.At, .int .i64 d.Amt]])) (hn : n = L2.length + 1) :
    Ow w' B e 2 (.slice (some ⟨g9, 0, none⟩) (L2 ++ [d]).length cap9) ((L2 ++ [d]).map Coin.cells) := by
  subst hn
  rw [List.map_append, List.length_append]
  exact h
theorem Ow.asideT {w' : World} {B X n i : Nat} {e t : TypeId} {v u : Value} {cs : Array Value} {rows : List (List Value)} (h : Ow w' B e n v rows) (hx : w'.heap[X]? = some (.cells cs t (0, 0))) (hne : e ≠ t) : Ow (w'.setCell ⟨X, i, none⟩ u) B e n v rows :=
  h.grown (grown_set (World.grownBy.refl w' (some X)) i u) (.inr (Ne.symm (h.ne_ hx hne)))
theorem PuK.asideT (h : PuK w g P c s L A cp w') {X i : Nat} {u : Value} {cs : Array Value} (hP : P < X) (hx : w'.heap[X]? = some (.cells cs 59 (0, 0))) : PuK w g P c s L A cp (w'.setCell ⟨X, i, none⟩ u) :=
  h.aside hP (h.2.2.1.ne_ hx (by decide))
theorem purse_put {X cap2 : Nat} {L2 : List Coin} {A2 : Option Addr} {z0 z1 z2 a b v : Value} (K : PuK w g P c s L A cp w') (hP : P < X) (hx : w'.heap[X]? = some (.cells #[z0, z1, z2] 59 (0, 0)))
    (ho : Ow w' w.heap.size 108 2 (.slice A2 L2.length cap2) (L2.map Coin.cells)) :
    PuK w g P c s L A cp (((w'.setCell ⟨X, 0, none⟩ a).setCell ⟨X, 1, none⟩ b).setCell ⟨X, 2, none⟩ v) ∧ (((w'.setCell ⟨X, 0, none⟩ a).setCell ⟨X, 1, none⟩ b).setCell ⟨X, 2, none⟩ v).heap[X]? = some (.cells #[a, b, v] 59 (0, 0)) ∧
    Ow (((w'.setCell ⟨X, 0, none⟩ a).setCell ⟨X, 1, none⟩ b).setCell ⟨X, 2, none⟩ v) w.heap.size 108 2 (.slice A2 L2.length cap2) (L2.map Coin.cells) := by
  have h1 : (w'.setCell ⟨X, 0, none⟩ a).heap[X]? = some (.cells #[a, z1, z2] 59 (0, 0)) := heap_set hx
  have h2 : ((w'.setCell ⟨X, 0, none⟩ a).setCell ⟨X, 1, none⟩ b).heap[X]? = some (.cells #[a, b, z2] 59 (0, 0)) := heap_set h1
  exact ⟨((K.asideT hP hx).asideT hP h1).asideT hP h2, heap_set h2, ((ho.asideT hx (by decide)).asideT h1 (by decide)).asideT h2 (by decide)⟩
theorem purse_move {cap2 : Nat} {L2 : List Coin} {A2 : Option Addr} {c2 s2 : Int} (K : PuK w g P c s L A cp w') (ho : Ow w' w.heap.size 108 2 (.slice A2 L2.length cap2) (L2.map Coin.cells)) :
    PuK w g P c2 s2 L2 A2 cap2 (((w'.setCell ⟨P, 0, none⟩ (.int .i64 c2)).setCell ⟨P, 1, none⟩ (.int .i64 s2)).setCell ⟨P, 2, none⟩ (.slice A2 L2.length cap2)) := by
  obtain ⟨hp, hr, _, hc, hG, h6, h7⟩ := K
  have h1 : (w'.setCell ⟨P, 0, none⟩ (.int .i64 c2)).heap[P]? = some (.cells #[.int .i64 c2, .int .i64 s, .slice A L.length cp] 59 (0, 0)) := heap_set hp
  have h2 : ((w'.setCell ⟨P, 0, none⟩ (.int .i64 c2)).setCell ⟨P, 1, none⟩ (.int .i64 s2)).heap[P]? = some (.cells #[.int .i64 c2, .int .i64 s2, .slice A L.length cp] 59 (0, 0)) := heap_set h1
  have gr := grown_set (grown_set (grown_set (World.grownBy.refl w' (some P)) 0 (.int .i64 c2)) 1 (.int .i64 s2)) 2 (.slice A2 L2.length cap2)
  exact ⟨heap_set h2, heap_grown gr (someNeP (by omega)) hr, ((ho.asideT hp (by decide)).asideT h1 (by decide)).asideT h2 (by decide), ((hc.set (by omega)).set (by omega)).set (by omega), grown_setP (grown_setP (grown_setP hG (by omega) _ _) (by omega) _ _) (by omega) _ _, h6, h7⟩
theorem PuK.set0 (K : PuK w g P c s L A cp w') (x : Int) : PuK w g P x s L A cp (w'.setCell ⟨P, 0, none⟩ (.int .i64 x)) := by
  obtain ⟨hp, hr, ho, hc, hG, h6, h7⟩ := K
  exact ⟨heap_set hp, heap_grown (grown_set (World.grownBy.refl w' (some P)) 0 (.int .i64 x)) (someNeP (by omega)) hr, ho.asideT hp (by decide), hc.set (by omega), grown_setP hG (by omega) _ _, h6, h7⟩
theorem PuK.set1 (K : PuK w g P c s L A cp w') (x : Int) : PuK w g P c x L A cp (w'.setCell ⟨P, 1, none⟩ (.int .i64 x)) := by
  obtain ⟨hp, hr, ho, hc, hG, h6, h7⟩ := K
  exact ⟨heap_set hp, heap_grown (grown_set (World.grownBy.refl w' (some P)) 1 (.int .i64 x)) (someNeP (by omega)) hr, ho.asideT hp (by decide), hc.set (by omega), grown_setP hG (by omega) _ _, h6, h7⟩
theorem PuK.setC {q : Nat} {d : Coin} {t : List Coin} (K : PuK w g P c s (d :: t) (some ⟨q, 0, none⟩) cp w') (x : Int) : PuK w g P c s (⟨d.At, x⟩ :: t) (some ⟨q, 0, none⟩) cp (w'.setCell ⟨q, 1, none⟩ (.int .i64 x)) := by
  obtain ⟨hp, hr, ho, hc, hG, h6, h7⟩ := K
  have hb := (ho.block q rfl).1
  have n1 := ho.ne_ hp (by decide)
  have n2 := ho.ne_ hr (by decide)
  have gr := grown_set (World.grownBy.refl w' (some q)) 1 (.int .i64 x)
  have hs := ho.stored (i := 0) (j := 1) (r := d.cells) rfl (by omega) (.int .i64 x)
  rw [Nat.zero_mul, Nat.zero_add] at hs
  exact ⟨heap_grown gr n1 hp, heap_grown gr n2 hr, hs, hc.set (by omega), grown_setP hG hb _ _, h6, h7⟩
theorem PuK.setA {q : Nat} {d : Coin} {t : List Coin} (K : PuK w g P c s (d :: t) (some ⟨q, 0, none⟩) cp w') (x : Int) : PuK w g P c s (⟨x, d.Amt⟩ :: t) (some ⟨q, 0, none⟩) cp (w'.setCell ⟨q, 0, none⟩ (.int .i64 x)) := by
  obtain ⟨hp, hr, ho, hc, hG, h6, h7⟩ := K
  have hb := (ho.block q rfl).1
  have n1 := ho.ne_ hp (by decide)
  have n2 := ho.ne_ hr (by decide)
  have gr := grown_set (World.grownBy.refl w' (some q)) 0 (.int .i64 x)
  have hs := ho.stored (i := 0) (j := 0) (r := d.cells) rfl (by omega) (.int .i64 x)
  rw [Nat.zero_mul, Nat.zero_add] at hs
  exact ⟨heap_grown gr n1 hp, heap_grown gr n2 hr, hs, hc.set (by omega), grown_setP hG hb _ _, h6, h7⟩
theorem PuK.setCoin {q : Nat} (K : PuK w g P c s L (some ⟨q, 0, none⟩) cp w') (hl : 0 < L.length) (x : Int) : ∃ L' : List Coin, L'.length = L.length ∧ PuK w g P c s L' (some ⟨q, 0, none⟩) cp (w'.setCell ⟨q, 1, none⟩ (.int .i64 x)) := by
  match L, hl, K with
  | d :: t, _, K => exact ⟨⟨d.At, x⟩ :: t, rfl, K.setC x⟩
theorem PuK.setCoinAt {q : Nat} (K : PuK w g P c s L (some ⟨q, 0, none⟩) cp w') (hl : 0 < L.length) (x : Int) : ∃ L' : List Coin, L'.length = L.length ∧ PuK w g P c s L' (some ⟨q, 0, none⟩) cp (w'.setCell ⟨q, 0, none⟩ (.int .i64 x)) := by
  match L, hl, K with
  | d :: t, _, K => exact ⟨⟨x, d.Amt⟩ :: t, rfl, K.setA x⟩
theorem PuK.open_ (K : PuK w g P c s L A cp w') (hl : 0 < L.length) : ∃ q, A = some ⟨q, 0, none⟩ ∧ P ≠ q ∧ w'.cell? ⟨q, 0, none⟩ = some (.int .i64 L[0].At) ∧ w'.cell? ⟨q, 1, none⟩ = some (.int .i64 L[0].Amt) ∧ ∀ i, w'.frozen? ⟨q, i, none⟩ = false := by
  obtain ⟨hp, hr, ho, _⟩ := K
  rcases ho.open_ with ⟨h0, _⟩ | ⟨q, cap', hv, hB, _⟩
  · rw [List.map_eq_nil_iff] at h0
    subst h0
    simp at hl
  · injection hv with hv
    subst hv
    have hk' : (L.map Coin.cells)[0]? = some L[0].cells := by rw [List.getElem?_map, List.getElem?_eq_getElem hl]; rfl
    have h0 := ho.cellAt (i := 0) (j := 0) hk' (by omega)
    have h1 := ho.cellAt (i := 0) (j := 1) hk' (by omega)
    rw [Nat.zero_mul, Nat.zero_add] at h0 h1
    exact ⟨q, rfl, fun e => ho.ne_ hp (by decide) (by rw [e]; rfl), h0, h1, ho.frozenAt⟩
theorem three_self {W : World} {R : Nat} {a b d x y z : Value} {t : TypeId} (h : W.heap[R]? = some (.cells #[a, b, d] t (0, 0))) :
    (W.setCell ⟨R, 0, none⟩ x).cell? ⟨R, 0, none⟩ = some x ∧ ((W.setCell ⟨R, 0, none⟩ x).setCell ⟨R, 1, none⟩ y).cell? ⟨R, 1, none⟩ = some y ∧ (((W.setCell ⟨R, 0, none⟩ x).setCell ⟨R, 1, none⟩ y).setCell ⟨R, 2, none⟩ z).cell? ⟨R, 2, none⟩ = some z := by
  have h1 : (W.setCell ⟨R, 0, none⟩ x).heap[R]? = some (.cells #[x, b, d] t (0, 0)) := heap_set h
  have h2 : ((W.setCell ⟨R, 0, none⟩ x).setCell ⟨R, 1, none⟩ y).heap[R]? = some (.cells #[x, y, d] t (0, 0)) := heap_set h1
  have h3 : (((W.setCell ⟨R, 0, none⟩ x).setCell ⟨R, 1, none⟩ y).setCell ⟨R, 2, none⟩ z).heap[R]? = some (.cells #[x, y, z] t (0, 0)) := heap_set h2
  exact ⟨blk_cell h1 0, blk_cell h2 1, blk_cell h3 2⟩
theorem PuK.done (K : PuK w g P c s L A cp w') (hl : L.length ≤ 60) : DrewP g w (.returned (.agg #[.int .i64 c, .int .i64 s, .slice A L.length cp])) (((w'.setCell ⟨w.heap.size, 0, none⟩ (.int .i64 c)).setCell ⟨w.heap.size, 1, none⟩ (.int .i64 s)).setCell ⟨w.heap.size, 2, none⟩ (.slice A L.length cp)) := by
  obtain ⟨_, hr, ho, hc, hG, h6, h7⟩ := K
  have h1 : (w'.setCell ⟨w.heap.size, 0, none⟩ (.int .i64 c)).heap[w.heap.size]? = some (.cells #[.int .i64 c, .int .i64 0, .slice none 0 0] 59 (0, 0)) := heap_set hr
  have h2 : ((w'.setCell ⟨w.heap.size, 0, none⟩ (.int .i64 c)).setCell ⟨w.heap.size, 1, none⟩ (.int .i64 s)).heap[w.heap.size]? = some (.cells #[.int .i64 c, .int .i64 s, .slice none 0 0] 59 (0, 0)) := heap_set h1
  exact ⟨c, s, L, A, cp, rfl, hl, ((ho.asideT hr (by decide)).asideT h1 (by decide)).asideT h2 (by decide), ((hc.set h7).set h7).set h7, grown_setP (grown_setP (grown_setP hG (Nat.le_refl _) _ _) (Nat.le_refl _) _ _) (Nat.le_refl _) _ _⟩
end
theorem spendCoins_len (c s at_ n : Int) (l : List Coin) : (spendCoins c s at_ n l).length ≤ 40 ∧ (spendCode c s at_ n l = 0 → 0 < (spendCoins c s at_ n l).length) := by
  unfold spendCoins
  split
  · rename_i h
    have : (spendKeep s at_ l).length + 1 ≤ 40 := by
      unfold spendCode at h
      split at h
      · split at h
        · split at h
          · omega
          · omega
        · omega
      · omega
    exact ⟨by simp; omega, fun _ => by simp⟩
  · rename_i h
    exact ⟨by simp, fun h' => absurd h' h⟩
theorem s_SpendW (c s at_ n : Int) (l : List Coin) (A : Option Addr) (cap : Nat) (w : World) (hl : l.length ≤ 1048576) (hr : Rd w w.heap.size 2 A (l.map Coin.cells)) :
    Calls Try.prog 98 #[.agg #[.int .i64 c, .int .i64 s, .slice A l.length cap], .int .i64 at_, .int .i64 n] w fun e w' => ∃ (c2 s2 : Int) (l2 : List Coin) (A2 : Option Addr) (cap2 : Nat) (k : Int),
      e = .returned (.tuple #[.agg #[.int .i64 c2, .int .i64 s2, .slice A2 l2.length cap2], .int .i64 k]) ∧ l2.length ≤ 40 ∧ (k = 0 → 0 < l2.length) ∧ Ow w' w.heap.size 108 2 (.slice A2 l2.length cap2) (l2.map Coin.cells) ∧ Below w.heap.size w w' :=
  (s_Spend c s at_ n l A cap w hl hr).mono fun _ _ ⟨A2, cap2, h1, h2, h3⟩ => ⟨_, _, _, A2, cap2, _, h1, (spendCoins_len ..).1, (spendCoins_len ..).2, h2, h3⟩
set_option linter.unusedSimpArgs false in
set_option maxRecDepth 100000 in
set_option maxHeartbeats 4000000 in
theorem s_l23Draw (g : Nat) (w : World) (hc : Crs w g) :
    Calls Try.prog 73 #[.pointer (some ⟨g, 0, none⟩)] w (DrewP g w) := by
  have hgw := hc.lt
  obtain ⟨i0, hi, hz0, hz1, hz2⟩ := info_parts info_coin
  have HI := Lib.hid hi
  have HZ0 := Lib.hid hz0
  have HZ1 := Lib.hid hz1
  have HZ2 := Lib.hid hz2
  clear hi hz0 hz1 hz2
  go_enter Try.func73, Try.ntmps73
  go_wp2_with fail
  refine (s_l01Below g 100 _ (hc.alloc _) (by decide) (by decide)).mono ?_
  rintro e w1 ⟨x, x1, x2, rfl, hc1, hg1⟩
  have z1 := hg1.size
  rw [sizeUpP] at z1
  have r1 : w1.heap[w.heap.size]? = some (.cells #[.int .i64 0, .int .i64 0, .slice none 0 0] 59 (0, 0)) := heap_grown hg1 (someNeP (by omega)) (heap_at rfl)
  have hG1 : w.grownBy w1 (some g) := grown_trans (grown_allocP (World.grownBy.refl _ _) _) hg1
  clear hg1
  go_wp2_with fail
  refine (s_l01Below g 20 _ hc1 (by decide) (by decide)).mono ?_
  rintro e w2 ⟨y, y1, y2, rfl, hc2, hg2⟩
  have z2 := hg2.size
  have r2 := heap_grown hg2 (someNeP (by omega)) r1
  have hG2 : w.grownBy w2 (some g) := grown_trans hG1 hg2
  clear hg2 r1 hG1 hc1
  go_wp2_with fail
  refine (s_l01Below g 7 _ (hc2.alloc _) (by decide) (by decide)).mono ?_
  rintro e w3 ⟨N0, n1, n2, rfl, hc3, hg3⟩
  have z3 := hg3.size
  rw [sizeUpP] at z3
  have r3 := heap_grown hg3 (someNeP (by omega)) (heap_past (by omega) r2)
  have p3 : w3.heap[w2.heap.size]? = some (.cells #[.int .i64 (50 + x), .int .i64 (1 + y), .slice none 0 0] 59 (0, 0)) := heap_grown hg3 (someNeP (by omega)) (heap_at rfl)
  have hG3 : w.grownBy w3 (some g) := grown_trans (grown_allocP hG2 _) hg3
  clear hg3 r2 hG2 hc2
  obtain ⟨P, hP⟩ : ∃ P, w2.heap.size = P := ⟨_, rfl⟩
  rw [hP] at p3 z3
  have hPw : w.heap.size < P := by omega
  have HP := Lib.hid hP
  go_wp2_with fail
  go_loopw [4, 5] (fun at_ i wr => ∃ (T N c s : Int) (L : List Coin) (A : Option Addr) (cp : Nat), at_ = .int .i64 T ∧ 0 ≤ T ∧ T + 8 * N ≤ 48 ∧ 0 ≤ N ∧ N ≤ 6 ∧ i = .int .i64 N ∧ (L.length : Int) + N ≤ 46 ∧ Ow wr w.heap.size 108 2 (.slice A L.length cp) (L.map Coin.cells) ∧ wr.heap[P]? = some (.cells #[.int .i64 c, .int .i64 s, .slice A L.length cp] 59 (0, 0)) ∧ wr.heap[w.heap.size]? = some (.cells #[.int .i64 0, .int .i64 0, .slice none 0 0] 59 (0, 0)) ∧ Crs wr g ∧ w.grownBy wr (some g)) (fun _ i _ => (intOf i).toNat)
  case atStart => exact ⟨0, N0, _, _, [], none, 0, rfl, by decide, by omega, n1, by omega, rfl, by simp; omega, Ow.nil_, p3, r3, hc3, hG3⟩
  case round =>
    clear hc3 hG3 p3 r3 z3 z1 z2
    obtain ⟨T, N, c, s, L, A, cp, rfl, t1, t2, hN1, hN2, rfl, hLN, how, hp, hr, hcr, hG⟩ := hrel
    have hbz := hG.size
    have hPz := (Array.getElem?_eq_some_iff.1 hp).1
    have HW := Lib.hid how
    clear how
    by_cases hlt : 0 < N
    · go_wp2_with fail
      refine (s_l01Below g 9 _ hcr (by decide) (by decide)).mono ?_
      rintro e w4 ⟨dt, d1, d2, rfl, hc4, hg4⟩
      have z4 := hg4.size
      have K4 := Lib.hid (PuK.draw (w := w) (g := g) (P := P) ⟨hp, hr, HW.out, hcr, hG, hPw, hgw⟩ hg4 hc4)
      clear hg4 hp hr hG hcr HW hc4
      obtain ⟨p0, p1, p2⟩ := K4.out.cells
      have hP4 := K4.out.lt
      have hLl : L.length ≤ 1048576 := by omega
      go_wp2_with fail
      go_region_held3 (fun w' => w'.cell? ⟨P, 0, none⟩ = some (.int .i64 c) ∧ w'.cell? ⟨P, 1, none⟩ = some (.int .i64 s) ∧ w'.cell? ⟨P, 2, none⟩ = some (.slice A L.length cp))
        (((try dsimp only); (repeat' apply And.intro) <;> (repeat (first | (with_reducible assumption) | (with_reducible refine cell_undrew ?_) | (with_reducible refine cell_aside (by simp only; omega) ?_) | (with_reducible refine cell_past (by simp only; omega) ?_)))))
        (first | (go_at_call 50; refine (s_l01Below g 50 _ (by first | exact K4.out.drew.2.2.2.1 | exact (K4.out.drew.alloc _).2.2.2.1) (by decide) (by decide)).mono ?_; rintro e w5 ⟨y5, y51, y52, rfl, hc5, hg5⟩; have z5 := hg5.size; have K5 : Hid (PuK w g P c s L A cp w5) := Lib.hid (by first | exact K4.out.drew.draw hg5 hc5 | exact (K4.out.drew.alloc _).draw hg5 hc5); have hP5 := K5.out.lt; obtain ⟨q0, q1, q2⟩ := K5.out.cells; (try have x5 : w5.heap[w4.heap.size]? = some (.cells #[.int .i64 0, .int .i64 0, .slice none 0 0] 59 (0, 0)) := heap_grown hg5 (someNeP (by omega)) (heap_at rfl)); clear hc5 hg5) | (go_at_call 98; refine (s_SpendW c s _ _ L A cp _ hLl (by first | exact K5.out.2.2.1.rd | exact (K5.out.alloc _).2.2.1.rd)).mono ?_; rintro e w6 ⟨c2, s2, L2, A2, cap2, k, rfl, hl2, hk, how6, hb6⟩; have z6 := hb6.size; have K6 : Hid (PuK w g P c s L A cp w6) := Lib.hid (by first | exact K5.out.below hb6 | exact (K5.out.alloc _).below hb6); have hP6 := K6.out.lt; obtain ⟨s0, s1, s2_⟩ := K6.out.cells; have HX6 := Lib.hid how6; clear how6; (try have x6 : w6.heap[w4.heap.size]? = some (.cells #[.int .i64 0, .int .i64 0, .slice none 0 0] 59 (0, 0)) := heap_below hb6 (Array.getElem?_eq_some_iff.1 x5).1 x5); (try have x6 : w6.heap[w5.heap.size]? = some (.cells #[.int .i64 0, .int .i64 0, .slice none 0 0] 59 (0, 0)) := heap_below hb6 (show w5.heap.size < (w5.alloc _).heap.size by simp) (heap_at rfl)); (try have u0 := blk_cell x6 0); (try have u1 := blk_cell x6 1); (try have u2 := blk_cell x6 2); (try have uf := blk_frozen x6); (try simp only [List.getElem?_toArray, List.getElem?_cons_zero, List.getElem?_cons_succ] at u0 u1 u2)))
      rotate_left
      rotate_left
      rotate_left
      · obtain ⟨X, hX⟩ : ∃ x, w6.heap.size = x := ⟨_, rfl⟩
        obtain ⟨W, hW⟩ : ∃ x : World, w6.alloc (.cells #[.int .i64 c2, .int .i64 s2, .slice A2 L2.length cap2] 59) = x := ⟨_, rfl⟩
        have hPX : P < X := by omega
        have KW : Hid (PuK w g P c s L A cp W) := Lib.hid (by rw [← hW]; exact K6.out.alloc _)
        have xW : W.heap[X]? = some (.cells #[.int .i64 c2, .int .i64 s2, .slice A2 L2.length cap2] 59 (0, 0)) := by rw [← hW, ← hX]; exact heap_at rfl
        have HXW : Hid (Ow W w.heap.size 108 2 (.slice A2 L2.length cap2) (L2.map Coin.cells)) := Lib.hid (by rw [← hW]; exact ((HX6.out.more (by first | omega | (simp; omega)))).alloc _)
        rw [hW, hX]
        clear hX hW hb6 K6
        cases hk0 : (k == 0)
        · go_wp2_with fail
          go_roundw
          case rel => exact ⟨T + dt, N - 1, c, s, L, A, cp, rfl, by omega, by omega, by omega, by omega, by first | rfl | go_num, by omega, KW.out.2.2.1, KW.out.1, KW.out.2.1, KW.out.2.2.2.1, KW.out.2.2.2.2.1⟩
          case measure => simp [intOf]; omega
        · have h2 := hk (by simpa using hk0)
          have hXg : X ≠ g := by omega
          go_wp2_with fail
          refine (s_l01Below g 3 _ KW.out.2.2.2.1 (by decide) (by decide)).mono ?_
          rintro e w7 ⟨y7, y71, y72, rfl, hc7, hg7⟩
          have K7 := Lib.hid (KW.out.draw hg7 hc7)
          have x8 := heap_grown hg7 (someNeP hXg) xW
          have HX7 := Lib.hid (HXW.out.pastC hg7 hgw)
          clear hg7 hc7 KW xW HXW
          obtain ⟨_, u0, u1, u2, uf, hX7⟩ := own3 (Below.refl w7.heap.size w7) (Array.getElem?_eq_some_iff.1 x8).1 x8
          obtain ⟨p0, p1, p2⟩ := K7.out.cells
          have pf := fun i => blk_frozen K7.out.1 i
          have hP7 := K7.out.lt
          cases hy7 : (y7 == 0)
          · go_wp2_with fail
            go_roundw
            case rel =>
              have KM := purse_move (c2 := c2) (s2 := s2) K7.out HX7.out
              exact ⟨T + dt, N - 1, c2, s2, L2, A2, cap2, rfl, by omega, by omega, by omega, by omega, by first | rfl | go_num, by omega, KM.2.2.1, KM.1, KM.2.1, KM.2.2.2.1, KM.2.2.2.2.1⟩
            case measure => simp [intOf]; omega
          · obtain ⟨m, hm⟩ : ∃ m, L2.length = m + 1 := ⟨L2.length - 1, by omega⟩
            have hml : m < L2.length := by omega
            obtain ⟨b, off, hA2, hbB, cA, cM⟩ := Coin.rd HX7.out.rd hml
            subst hA2
            have i1 : (0 : Int) ≤ (m : Int) := by omega
            have i2 : (m : Int) < (L2.length : Int) := by omega
            have e1 : (L2.length : Int) - 1 = (m : Int) := by omega
            have e2 : IntKind.i64.wrap (m : Int) = (m : Int) := IntWalk.i64_in _ ⟨by omega, by omega⟩
            have HM := Lib.hid hm
            clear hm
            have hsz7 : ∀ o, (w7.alloc o).heap.size = w7.heap.size + 1 := sizeUpP w7
            go_wp2_with fail
            refine wp_region_noPanic ?_
            refine wp_region_lastL (S := (fun w' => w'.cell? ⟨P, 2, none⟩ = some (.slice A L.length cp) ∧ w'.cell? ⟨X, 2, none⟩ = some (.slice (some ⟨b, off, none⟩) L2.length cap2) ∧ w'.cell? ⟨b, off + m * 2, none⟩ = some (.int .i64 L2[m].At) ∧ w'.cell? ⟨b, off + m * 2 + 1, none⟩ = some (.int .i64 L2[m].Amt))) rfl (by kernel_rfl) (by kernel_rfl) (by kernel_rfl) (by kernel_rfl) ?_ (fun hHeld => ?_)
            · ((try dsimp only); (repeat' apply And.intro) <;> (repeat (first | (with_reducible assumption) | (with_reducible refine cell_undrew ?_) | (with_reducible refine cell_past (by first | (simp only; omega) | (simp; omega)) ?_))))
            simp only [List.dropLast]
            refine wpAnyH_take (i := 1) (v := ?v1) rfl (by kernel_rfl) (by kernel_rfl) (by kernel_rfl) (fun _ _ _ h => h) (Or.inl ⟨by rfl, ?hy1⟩) (by assumption) ?rest1
            case hy1 => (intro w hSw; (try dsimp only at hSw); go_simp; (try with_reducible rfl))
            try simp only [Act.put, List.setIfInBounds_toArray, List.set_cons_zero, List.set_cons_succ]
            refine wpAnyH_take (i := 2) (v := ?v2) rfl (by kernel_rfl) (by kernel_rfl) (by kernel_rfl) (fun _ _ _ h => h) (Or.inl ⟨by rfl, ?hy2⟩) (by assumption) ?rest2
            case hy2 => (intro w hSw; (try dsimp only at hSw); go_simp; (try with_reducible rfl))
            try simp only [Act.put, List.setIfInBounds_toArray, List.set_cons_zero, List.set_cons_succ]
            refine wpAnyH_take (i := 4) (v := ?v3) rfl (by kernel_rfl) (by kernel_rfl) (by kernel_rfl) (fun _ _ _ h => h) (Or.inl ⟨by rfl, ?hy3⟩) (by assumption) ?rest3
            case hy3 => (intro w hSw; (try dsimp only at hSw); go_simp; (try with_reducible rfl))
            try simp only [Act.put, List.setIfInBounds_toArray, List.set_cons_zero, List.set_cons_succ]
            refine wpAnyH_take (i := 5) (v := ?v4) rfl (by kernel_rfl) (by kernel_rfl) (by kernel_rfl) (fun _ _ _ h => h) (Or.inl ⟨by rfl, ?hy4⟩) (by assumption) ?rest4
            case hy4 => (intro w hSw; (try dsimp only at hSw); go_simp; (try with_reducible rfl))
            try simp only [Act.put, List.setIfInBounds_toArray, List.set_cons_zero, List.set_cons_succ]
            refine wpAnyH_take (i := 6) (v := ?v5) rfl (by kernel_rfl) (by kernel_rfl) (by kernel_rfl) (fun _ _ _ h => h) (Or.inl ⟨by rfl, ?hy5⟩) (by assumption) ?rest5
            case hy5 => (intro w hSw; (try dsimp only at hSw); go_simp; (try with_reducible rfl))
            try simp only [Act.put, List.setIfInBounds_toArray, List.set_cons_zero, List.set_cons_succ]
            refine wpAnyH_take (i := 7) (v := ?v6) rfl (by kernel_rfl) (by kernel_rfl) (by kernel_rfl) (fun _ _ _ h => h) (Or.inl ⟨by rfl, ?hy6⟩) (by assumption) ?rest6
            case hy6 => (intro w hSw; (try dsimp only at hSw); go_simp; (try with_reducible rfl))
            try simp only [Act.put, List.setIfInBounds_toArray, List.set_cons_zero, List.set_cons_succ]
            refine wpAnyH_take (i := 8) (v := ?v7) rfl (by kernel_rfl) (by kernel_rfl) (by kernel_rfl) (fun _ _ _ h => h) (Or.inl ⟨by rfl, ?hy7⟩) (by assumption) ?rest7
            case hy7 => (intro w hSw; (try dsimp only at hSw); go_simp; (try with_reducible rfl))
            try simp only [Act.put, List.setIfInBounds_toArray, List.set_cons_zero, List.set_cons_succ]
            refine wpAnyH_take (i := 9) (v := ?v8) rfl (by kernel_rfl) (by kernel_rfl) (by kernel_rfl) (fun _ _ _ h => h) (Or.inl ⟨by rfl, ?hy8⟩) (by assumption) ?rest8
            case hy8 => (intro w hSw; (try dsimp only at hSw); go_simp; (try with_reducible rfl))
            try simp only [Act.put, List.setIfInBounds_toArray, List.set_cons_zero, List.set_cons_succ]
            refine wpAnyH_take (i := 10) (v := ?v9) rfl (by kernel_rfl) (by kernel_rfl) (by kernel_rfl) (fun _ _ _ h => h) (Or.inl ⟨by rfl, ?hy9⟩) (by assumption) ?rest9
            case hy9 => (intro w hSw; (try dsimp only at hSw); go_simp; (try with_reducible rfl))
            try simp only [Act.put, List.setIfInBounds_toArray, List.set_cons_zero, List.set_cons_succ]
            refine wpAnyH_take (i := 11) (v := ?v10) rfl (by kernel_rfl) (by kernel_rfl) (by kernel_rfl) (fun _ _ _ h => h) (Or.inl ⟨by rfl, ?hy10⟩) (by assumption) ?rest10
            case hy10 => (intro w hSw; (try dsimp only at hSw); go_simp; (try with_reducible rfl))
            try simp only [Act.put, List.setIfInBounds_toArray, List.set_cons_zero, List.set_cons_succ]
            refine wpAnyH_ready (rs := [0, 12]) (by kernel_rfl) (by simp) ?_
            refine AllReadyH.cons rfl (fun K hK => ?_) ?_
            · skip
              go_simp
              refine hK.out _ _ ?_ (fun hHeld => ?_)
              · (try dsimp only)
                all_goals (((try dsimp only); (repeat' apply And.intro) <;> (repeat (first | (with_reducible assumption) | (with_reducible refine cell_undrew ?_) | (with_reducible refine cell_past (by first | (simp only; omega) | (simp; omega)) ?_)))))
              clear hK K
              try simp only [Act.put, List.setIfInBounds_toArray, List.set_cons_zero, List.set_cons_succ]
              refine wpAnyH_ready (rs := [3, 12]) (by kernel_rfl) (by simp) ?_
              refine AllReadyH.cons rfl (fun K hK => ?_) ?_
              · skip
                (refine step_appN (by rfl) _ _ _ (by rfl) w7.heap.size 108 i0 _ 2 16 Try.underlying57 HI.out HZ0.out HZ1.out HZ2.out rfl (by decide) _ _ [] 0 rfl (by rfl) (by first | exact Ow.empty_ rfl (Nat.le_refl _) | exact (Ow.empty_ rfl (Nat.le_refl _)).alloc _ | exact Ow.empty_ (by simp) (by simp)) A cp (L.map Coin.cells) L.length (by rw [List.length_map]) (by rfl) w7.heap.size (by first | exact K7.out.2.2.1.rd.below (((Below.refl _ _).drew).alloc (Nat.le_refl _) _) | exact K7.out.2.2.1.rd.below ((((Below.refl _ _).drew).alloc (Nat.le_refl _) _).alloc (by simp) _)) (coin_one L) (by first | omega | (simp; done) | (simp; omega)) (by decide) (by first | omega | (simp; done) | (simp; omega)) ?_; intro A8 cap8 w8 how8 hb8 hgr8; simp only [Nat.zero_add, List.nil_append] at how8 ⊢; have hB8 : Below w7.heap.size w7 w8 := (by first | exact (((Below.refl _ _).drew).alloc (Nat.le_refl _) _).trans hb8 | exact ((((Below.refl _ _).drew).alloc (Nat.le_refl _) _).alloc (by simp) _).trans hb8); have z8 := hB8.size; have x9 := heap_below hB8 hX7 x8; have K8 := Lib.hid (K7.out.below hB8); obtain ⟨_, _, t2⟩ := K8.out.cells; have hP8 := K8.out.lt; have v2 := blk_cell x9 2; simp only [List.getElem?_toArray, List.getElem?_cons_zero, List.getElem?_cons_succ] at v2; have tA := (hB8.cell (p := ⟨b, off + m * 2, none⟩) hbB).trans cA; have tM := (hB8.cell (p := ⟨b, off + m * 2 + 1, none⟩) hbB).trans cM; (try have row8 : w8.heap[w7.heap.size + 1]? = some (.cells #[.int .i64 L2[m].At, .int .i64 L2[m].Amt] 108 (0, 0)) := heap_grown hgr8 (by simp [Value.ownBlock]) (heap_at (by simp))); (try have row8 : w8.heap[w7.heap.size]? = some (.cells #[.int .i64 L2[m].At, .int .i64 L2[m].Amt] 108 (0, 0)) := heap_grown hgr8 (by simp [Value.ownBlock]) (heap_past (by simp) (heap_at rfl))))
                refine hK.out _ _ ?_ (fun hHeld => ?_)
                · (try dsimp only)
                  all_goals (((try dsimp only); (repeat' apply And.intro) <;> (repeat (first | (with_reducible assumption) | (with_reducible refine cell_undrew ?_) | (with_reducible refine cell_past (by first | (simp only; omega) | (simp; omega)) ?_)))))
                clear hK K
                try simp only [Act.put, List.setIfInBounds_toArray, List.set_cons_zero, List.set_cons_succ]
                refine wpAnyH_ready (rs := [12]) (by kernel_rfl) (by simp) ?_
                refine AllReadyH.cons rfl (fun K hK => ?_) ?_
                · skip
                  go_simp
                  refine hK.out _ _ ?_ (fun hHeld => ?_)
                  · (try dsimp only)
                    all_goals (((try dsimp only); (repeat' apply And.intro) <;> (repeat (first | (with_reducible assumption) | (with_reducible refine cell_undrew ?_) | (with_reducible refine cell_past (by first | (simp only; omega) | (simp; omega)) ?_)))))
                  clear hK K
                  try simp only [Act.put, List.setIfInBounds_toArray, List.set_cons_zero, List.set_cons_succ]
                  refine wpAnyH_ready (rs := [13]) (by kernel_rfl) (by simp) ?_
                  refine AllReadyH.cons rfl (fun K hK => ?_) ?_
                  · skip
                    (refine step_app1 (by rfl) _ _ _ (by rfl) w7.heap.size 108 i0 _ 2 16 Try.underlying57 HI.out HZ0.out HZ1.out HZ2.out rfl (by decide) (.slice A8 L.length cap8) (L.map Coin.cells) (by rfl) (by first | exact how8 | exact how8.alloc _) _ _ [.int .i64 L2[m].At, .int .i64 L2[m].Amt] 108 (by rfl) (by first | exact heap_at rfl | exact row8) rfl (by simp [Value.oneCell']) (by first | omega | (simp; done) | (simp; omega)) (by decide) (by first | omega | (simp; done) | (simp; omega)) ?_; intro g9 cap9 w9 how9 hgr9 hat9 hlt9; have hB9 : Below w7.heap.size w7 w9 := (by first | exact hB8.grown hgr9 hB8.size (fun k e => (how8.block k e).1) | exact (hB8.alloc hB8.size _).grown hgr9 (by first | omega | (simp; done) | (simp; omega)) (fun k e => (how8.block k e).1)); have x10 := heap_below hB9 hX7 x8; have K9 := Lib.hid (K7.out.below hB9); have HO9 := Lib.hid ((how9.more (show w.heap.size ≤ w7.heap.size by omega)).lastC (d := L2[m]) (by simp)); obtain ⟨r0, r1, t2⟩ := K9.out.cells; have v2 := blk_cell x10 2; simp only [List.getElem?_toArray, List.getElem?_cons_zero, List.getElem?_cons_succ] at v2; have vf := blk_frozen x10; have tA := (hB9.cell (p := ⟨b, off + m * 2, none⟩) hbB).trans cA; have tM := (hB9.cell (p := ⟨b, off + m * 2 + 1, none⟩) hbB).trans cM; clear how9 hgr9)
                    refine hK.out _ _ ?_ (fun hHeld => ?_)
                    · (try dsimp only)
                      all_goals (((try dsimp only); (repeat' apply And.intro) <;> (repeat (first | (with_reducible assumption) | (with_reducible refine cell_undrew ?_) | (with_reducible refine cell_past (by first | (simp only; omega) | (simp; omega)) ?_)))))
                    clear hK K
                    try simp only [Act.put, List.setIfInBounds_toArray, List.set_cons_zero, List.set_cons_succ]
                    refine wpAnyH_take (i := 14) (v := ?v11) rfl (by kernel_rfl) (by kernel_rfl) (by kernel_rfl) (fun _ _ _ h => h) (Or.inl ⟨by rfl, ?hy11⟩) (by assumption) ?rest11
                    case hy11 => (intro w hSw; (try dsimp only at hSw); go_simp; (try with_reducible rfl))
                    try simp only [Act.put, List.setIfInBounds_toArray, List.set_cons_zero, List.set_cons_succ]
                    refine wpAnyH_done (by kernel_rfl) ?_ _
                    have u0' := blk_cell x10 0
                    have u1' := blk_cell x10 1
                    simp only [List.getElem?_toArray, List.getElem?_cons_zero, List.getElem?_cons_succ] at u0' u1'
                    have hP9 := K9.out.lt
                    intro KK hKK
                    go_simp
                    refine hKK _ _ (NoPanic.normal ?_)
                    have hl9 : (L ++ [L2[m]]).length = L.length + 1 := by simp
                    have x11 : (w9.setCell ⟨X, 2, none⟩ (.slice (some ⟨g9, 0, none⟩) (L.length + 1) cap9)).heap[X]? = some (.cells #[.int .i64 c2, .int .i64 s2, .slice (some ⟨g9, 0, none⟩) (L.length + 1) cap9] 59 (0, 0)) := heap_set x10
                    have K11 := Lib.hid (K9.out.asideT (i := 2) (u := .slice (some ⟨g9, 0, none⟩) (L.length + 1) cap9) hPX x10)
                    have HO11 := Lib.hid (HO9.out.asideT (i := 2) (u := .slice (some ⟨g9, 0, none⟩) (L.length + 1) cap9) x10 (by decide))
                    obtain ⟨L9, hL9⟩ : ∃ l, L ++ [L2[m]] = l := ⟨_, rfl⟩
                    rw [hL9] at hl9 HO11
                    rw [← hl9] at x11 K11 HO11 ⊢
                    have HL9 := Lib.hid hl9
                    clear hl9
                    obtain ⟨W9, hW9⟩ : ∃ x : World, w9.setCell ⟨X, 2, none⟩ (.slice (some ⟨g9, 0, none⟩) L9.length cap9) = x := ⟨_, rfl⟩
                    rw [hW9] at x11 K11 HO11 ⊢
                    clear hW9 K9 HO9 x10 x8 hKK u0' u1' r0 r1 t2 v2 vf tA tM u0 u1 u2 uf p0 p1 p2 pf K7 HX7
                    obtain ⟨_, u0, u1, u2, uf, hX9⟩ := own3 (Below.refl W9.heap.size W9) (Array.getElem?_eq_some_iff.1 x11).1 x11
                    obtain ⟨p0, p1, p2⟩ := K11.out.cells
                    have pf := fun i => blk_frozen K11.out.1 i
                    have hPW9 := K11.out.lt
                    go_wp2_with fail
                    go_roundw
                    case rel =>
                      have KM := purse_move (c2 := c2) (s2 := s2) K11.out HO11.out
                      have hl9 := HL9.out
                      exact ⟨T + dt, N - 1, c2, s2, L9, _, cap9, rfl, by omega, by omega, by omega, by omega, by first | rfl | go_num, by omega, KM.2.2.1, KM.1, KM.2.1, KM.2.2.2.1, KM.2.2.2.2.1⟩
                    case measure => simp [intOf]; omega
                  exact AllReadyH.nil
                exact AllReadyH.nil
              refine AllReadyH.cons rfl (fun K hK => ?_) ?_
              · skip
                go_simp
                refine hK.out _ _ ?_ (fun hHeld => ?_)
                · (try dsimp only)
                  all_goals (((try dsimp only); (repeat' apply And.intro) <;> (repeat (first | (with_reducible assumption) | (with_reducible refine cell_undrew ?_) | (with_reducible refine cell_past (by first | (simp only; omega) | (simp; omega)) ?_)))))
                clear hK K
                try simp only [Act.put, List.setIfInBounds_toArray, List.set_cons_zero, List.set_cons_succ]
                refine wpAnyH_ready (rs := [3]) (by kernel_rfl) (by simp) ?_
                refine AllReadyH.cons rfl (fun K hK => ?_) ?_
                · skip
                  (refine step_appN (by rfl) _ _ _ (by rfl) w7.heap.size 108 i0 _ 2 16 Try.underlying57 HI.out HZ0.out HZ1.out HZ2.out rfl (by decide) _ _ [] 0 rfl (by rfl) (by first | exact Ow.empty_ rfl (Nat.le_refl _) | exact (Ow.empty_ rfl (Nat.le_refl _)).alloc _ | exact Ow.empty_ (by simp) (by simp)) A cp (L.map Coin.cells) L.length (by rw [List.length_map]) (by rfl) w7.heap.size (by first | exact K7.out.2.2.1.rd.below (((Below.refl _ _).drew).alloc (Nat.le_refl _) _) | exact K7.out.2.2.1.rd.below ((((Below.refl _ _).drew).alloc (Nat.le_refl _) _).alloc (by simp) _)) (coin_one L) (by first | omega | (simp; done) | (simp; omega)) (by decide) (by first | omega | (simp; done) | (simp; omega)) ?_; intro A8 cap8 w8 how8 hb8 hgr8; simp only [Nat.zero_add, List.nil_append] at how8 ⊢; have hB8 : Below w7.heap.size w7 w8 := (by first | exact (((Below.refl _ _).drew).alloc (Nat.le_refl _) _).trans hb8 | exact ((((Below.refl _ _).drew).alloc (Nat.le_refl _) _).alloc (by simp) _).trans hb8); have z8 := hB8.size; have x9 := heap_below hB8 hX7 x8; have K8 := Lib.hid (K7.out.below hB8); obtain ⟨_, _, t2⟩ := K8.out.cells; have hP8 := K8.out.lt; have v2 := blk_cell x9 2; simp only [List.getElem?_toArray, List.getElem?_cons_zero, List.getElem?_cons_succ] at v2; have tA := (hB8.cell (p := ⟨b, off + m * 2, none⟩) hbB).trans cA; have tM := (hB8.cell (p := ⟨b, off + m * 2 + 1, none⟩) hbB).trans cM; (try have row8 : w8.heap[w7.heap.size + 1]? = some (.cells #[.int .i64 L2[m].At, .int .i64 L2[m].Amt] 108 (0, 0)) := heap_grown hgr8 (by simp [Value.ownBlock]) (heap_at (by simp))); (try have row8 : w8.heap[w7.heap.size]? = some (.cells #[.int .i64 L2[m].At, .int .i64 L2[m].Amt] 108 (0, 0)) := heap_grown hgr8 (by simp [Value.ownBlock]) (heap_past (by simp) (heap_at rfl))))
                  refine hK.out _ _ ?_ (fun hHeld => ?_)
                  · (try dsimp only)
                    all_goals (((try dsimp only); (repeat' apply And.intro) <;> (repeat (first | (with_reducible assumption) | (with_reducible refine cell_undrew ?_) | (with_reducible refine cell_past (by first | (simp only; omega) | (simp; omega)) ?_)))))
                  clear hK K
                  try simp only [Act.put, List.setIfInBounds_toArray, List.set_cons_zero, List.set_cons_succ]
                  refine wpAnyH_ready (rs := [13]) (by kernel_rfl) (by simp) ?_
                  refine AllReadyH.cons rfl (fun K hK => ?_) ?_
                  · skip
                    (refine step_app1 (by rfl) _ _ _ (by rfl) w7.heap.size 108 i0 _ 2 16 Try.underlying57 HI.out HZ0.out HZ1.out HZ2.out rfl (by decide) (.slice A8 L.length cap8) (L.map Coin.cells) (by rfl) (by first | exact how8 | exact how8.alloc _) _ _ [.int .i64 L2[m].At, .int .i64 L2[m].Amt] 108 (by rfl) (by first | exact heap_at rfl | exact row8) rfl (by simp [Value.oneCell']) (by first | omega | (simp; done) | (simp; omega)) (by decide) (by first | omega | (simp; done) | (simp; omega)) ?_; intro g9 cap9 w9 how9 hgr9 hat9 hlt9; have hB9 : Below w7.heap.size w7 w9 := (by first | exact hB8.grown hgr9 hB8.size (fun k e => (how8.block k e).1) | exact (hB8.alloc hB8.size _).grown hgr9 (by first | omega | (simp; done) | (simp; omega)) (fun k e => (how8.block k e).1)); have x10 := heap_below hB9 hX7 x8; have K9 := Lib.hid (K7.out.below hB9); have HO9 := Lib.hid ((how9.more (show w.heap.size ≤ w7.heap.size by omega)).lastC (d := L2[m]) (by simp)); obtain ⟨r0, r1, t2⟩ := K9.out.cells; have v2 := blk_cell x10 2; simp only [List.getElem?_toArray, List.getElem?_cons_zero, List.getElem?_cons_succ] at v2; have vf := blk_frozen x10; have tA := (hB9.cell (p := ⟨b, off + m * 2, none⟩) hbB).trans cA; have tM := (hB9.cell (p := ⟨b, off + m * 2 + 1, none⟩) hbB).trans cM; clear how9 hgr9)
                    refine hK.out _ _ ?_ (fun hHeld => ?_)
                    · (try dsimp only)
                      all_goals (((try dsimp only); (repeat' apply And.intro) <;> (repeat (first | (with_reducible assumption) | (with_reducible refine cell_undrew ?_) | (with_reducible refine cell_past (by first | (simp only; omega) | (simp; omega)) ?_)))))
                    clear hK K
                    try simp only [Act.put, List.setIfInBounds_toArray, List.set_cons_zero, List.set_cons_succ]
                    refine wpAnyH_take (i := 14) (v := ?v12) rfl (by kernel_rfl) (by kernel_rfl) (by kernel_rfl) (fun _ _ _ h => h) (Or.inl ⟨by rfl, ?hy12⟩) (by assumption) ?rest12
                    case hy12 => (intro w hSw; (try dsimp only at hSw); go_simp; (try with_reducible rfl))
                    try simp only [Act.put, List.setIfInBounds_toArray, List.set_cons_zero, List.set_cons_succ]
                    refine wpAnyH_done (by kernel_rfl) ?_ _
                    have u0' := blk_cell x10 0
                    have u1' := blk_cell x10 1
                    simp only [List.getElem?_toArray, List.getElem?_cons_zero, List.getElem?_cons_succ] at u0' u1'
                    have hP9 := K9.out.lt
                    intro KK hKK
                    go_simp
                    refine hKK _ _ (NoPanic.normal ?_)
                    have hl9 : (L ++ [L2[m]]).length = L.length + 1 := by simp
                    have x11 : (w9.setCell ⟨X, 2, none⟩ (.slice (some ⟨g9, 0, none⟩) (L.length + 1) cap9)).heap[X]? = some (.cells #[.int .i64 c2, .int .i64 s2, .slice (some ⟨g9, 0, none⟩) (L.length + 1) cap9] 59 (0, 0)) := heap_set x10
                    have K11 := Lib.hid (K9.out.asideT (i := 2) (u := .slice (some ⟨g9, 0, none⟩) (L.length + 1) cap9) hPX x10)
                    have HO11 := Lib.hid (HO9.out.asideT (i := 2) (u := .slice (some ⟨g9, 0, none⟩) (L.length + 1) cap9) x10 (by decide))
                    obtain ⟨L9, hL9⟩ : ∃ l, L ++ [L2[m]] = l := ⟨_, rfl⟩
                    rw [hL9] at hl9 HO11
                    rw [← hl9] at x11 K11 HO11 ⊢
                    have HL9 := Lib.hid hl9
                    clear hl9
                    obtain ⟨W9, hW9⟩ : ∃ x : World, w9.setCell ⟨X, 2, none⟩ (.slice (some ⟨g9, 0, none⟩) L9.length cap9) = x := ⟨_, rfl⟩
                    rw [hW9] at x11 K11 HO11 ⊢
                    clear hW9 K9 HO9 x10 x8 hKK u0' u1' r0 r1 t2 v2 vf tA tM u0 u1 u2 uf p0 p1 p2 pf K7 HX7
                    obtain ⟨_, u0, u1, u2, uf, hX9⟩ := own3 (Below.refl W9.heap.size W9) (Array.getElem?_eq_some_iff.1 x11).1 x11
                    obtain ⟨p0, p1, p2⟩ := K11.out.cells
                    have pf := fun i => blk_frozen K11.out.1 i
                    have hPW9 := K11.out.lt
                    go_wp2_with fail
                    go_roundw
                    case rel =>
                      have KM := purse_move (c2 := c2) (s2 := s2) K11.out HO11.out
                      have hl9 := HL9.out
                      exact ⟨T + dt, N - 1, c2, s2, L9, _, cap9, rfl, by omega, by omega, by omega, by omega, by first | rfl | go_num, by omega, KM.2.2.1, KM.1, KM.2.1, KM.2.2.2.1, KM.2.2.2.2.1⟩
                    case measure => simp [intOf]; omega
                  exact AllReadyH.nil
                exact AllReadyH.nil
              exact AllReadyH.nil
            refine AllReadyH.cons rfl (fun K hK => ?_) ?_
            · skip
              go_simp
              refine hK.out _ _ ?_ (fun hHeld => ?_)
              · (try dsimp only)
                all_goals (((try dsimp only); (repeat' apply And.intro) <;> (repeat (first | (with_reducible assumption) | (with_reducible refine cell_undrew ?_) | (with_reducible refine cell_past (by first | (simp only; omega) | (simp; omega)) ?_)))))
              clear hK K
              try simp only [Act.put, List.setIfInBounds_toArray, List.set_cons_zero, List.set_cons_succ]
              refine wpAnyH_ready (rs := [0]) (by kernel_rfl) (by simp) ?_
              refine AllReadyH.cons rfl (fun K hK => ?_) ?_
              · skip
                go_simp
                refine hK.out _ _ ?_ (fun hHeld => ?_)
                · (try dsimp only)
                  all_goals (((try dsimp only); (repeat' apply And.intro) <;> (repeat (first | (with_reducible assumption) | (with_reducible refine cell_undrew ?_) | (with_reducible refine cell_past (by first | (simp only; omega) | (simp; omega)) ?_)))))
                clear hK K
                try simp only [Act.put, List.setIfInBounds_toArray, List.set_cons_zero, List.set_cons_succ]
                refine wpAnyH_ready (rs := [3]) (by kernel_rfl) (by simp) ?_
                refine AllReadyH.cons rfl (fun K hK => ?_) ?_
                · skip
                  (refine step_appN (by rfl) _ _ _ (by rfl) w7.heap.size 108 i0 _ 2 16 Try.underlying57 HI.out HZ0.out HZ1.out HZ2.out rfl (by decide) _ _ [] 0 rfl (by rfl) (by first | exact Ow.empty_ rfl (Nat.le_refl _) | exact (Ow.empty_ rfl (Nat.le_refl _)).alloc _ | exact Ow.empty_ (by simp) (by simp)) A cp (L.map Coin.cells) L.length (by rw [List.length_map]) (by rfl) w7.heap.size (by first | exact K7.out.2.2.1.rd.below (((Below.refl _ _).drew).alloc (Nat.le_refl _) _) | exact K7.out.2.2.1.rd.below ((((Below.refl _ _).drew).alloc (Nat.le_refl _) _).alloc (by simp) _)) (coin_one L) (by first | omega | (simp; done) | (simp; omega)) (by decide) (by first | omega | (simp; done) | (simp; omega)) ?_; intro A8 cap8 w8 how8 hb8 hgr8; simp only [Nat.zero_add, List.nil_append] at how8 ⊢; have hB8 : Below w7.heap.size w7 w8 := (by first | exact (((Below.refl _ _).drew).alloc (Nat.le_refl _) _).trans hb8 | exact ((((Below.refl _ _).drew).alloc (Nat.le_refl _) _).alloc (by simp) _).trans hb8); have z8 := hB8.size; have x9 := heap_below hB8 hX7 x8; have K8 := Lib.hid (K7.out.below hB8); obtain ⟨_, _, t2⟩ := K8.out.cells; have hP8 := K8.out.lt; have v2 := blk_cell x9 2; simp only [List.getElem?_toArray, List.getElem?_cons_zero, List.getElem?_cons_succ] at v2; have tA := (hB8.cell (p := ⟨b, off + m * 2, none⟩) hbB).trans cA; have tM := (hB8.cell (p := ⟨b, off + m * 2 + 1, none⟩) hbB).trans cM; (try have row8 : w8.heap[w7.heap.size + 1]? = some (.cells #[.int .i64 L2[m].At, .int .i64 L2[m].Amt] 108 (0, 0)) := heap_grown hgr8 (by simp [Value.ownBlock]) (heap_at (by simp))); (try have row8 : w8.heap[w7.heap.size]? = some (.cells #[.int .i64 L2[m].At, .int .i64 L2[m].Amt] 108 (0, 0)) := heap_grown hgr8 (by simp [Value.ownBlock]) (heap_past (by simp) (heap_at rfl))))
                  refine hK.out _ _ ?_ (fun hHeld => ?_)
                  · (try dsimp only)
                    all_goals (((try dsimp only); (repeat' apply And.intro) <;> (repeat (first | (with_reducible assumption) | (with_reducible refine cell_undrew ?_) | (with_reducible refine cell_past (by first | (simp only; omega) | (simp; omega)) ?_)))))
                  clear hK K
                  try simp only [Act.put, List.setIfInBounds_toArray, List.set_cons_zero, List.set_cons_succ]
                  refine wpAnyH_ready (rs := [13]) (by kernel_rfl) (by simp) ?_
                  refine AllReadyH.cons rfl (fun K hK => ?_) ?_
                  · skip
                    (refine step_app1 (by rfl) _ _ _ (by rfl) w7.heap.size 108 i0 _ 2 16 Try.underlying57 HI.out HZ0.out HZ1.out HZ2.out rfl (by decide) (.slice A8 L.length cap8) (L.map Coin.cells) (by rfl) (by first | exact how8 | exact how8.alloc _) _ _ [.int .i64 L2[m].At, .int .i64 L2[m].Amt] 108 (by rfl) (by first | exact heap_at rfl | exact row8) rfl (by simp [Value.oneCell']) (by first | omega | (simp; done) | (simp; omega)) (by decide) (by first | omega | (simp; done) | (simp; omega)) ?_; intro g9 cap9 w9 how9 hgr9 hat9 hlt9; have hB9 : Below w7.heap.size w7 w9 := (by first | exact hB8.grown hgr9 hB8.size (fun k e => (how8.block k e).1) | exact (hB8.alloc hB8.size _).grown hgr9 (by first | omega | (simp; done) | (simp; omega)) (fun k e => (how8.block k e).1)); have x10 := heap_below hB9 hX7 x8; have K9 := Lib.hid (K7.out.below hB9); have HO9 := Lib.hid ((how9.more (show w.heap.size ≤ w7.heap.size by omega)).lastC (d := L2[m]) (by simp)); obtain ⟨r0, r1, t2⟩ := K9.out.cells; have v2 := blk_cell x10 2; simp only [List.getElem?_toArray, List.getElem?_cons_zero, List.getElem?_cons_succ] at v2; have vf := blk_frozen x10; have tA := (hB9.cell (p := ⟨b, off + m * 2, none⟩) hbB).trans cA; have tM := (hB9.cell (p := ⟨b, off + m * 2 + 1, none⟩) hbB).trans cM; clear how9 hgr9)
                    refine hK.out _ _ ?_ (fun hHeld => ?_)
                    · (try dsimp only)
                      all_goals (((try dsimp only); (repeat' apply And.intro) <;> (repeat (first | (with_reducible assumption) | (with_reducible refine cell_undrew ?_) | (with_reducible refine cell_past (by first | (simp only; omega) | (simp; omega)) ?_)))))
                    clear hK K
                    try simp only [Act.put, List.setIfInBounds_toArray, List.set_cons_zero, List.set_cons_succ]
                    refine wpAnyH_take (i := 14) (v := ?v13) rfl (by kernel_rfl) (by kernel_rfl) (by kernel_rfl) (fun _ _ _ h => h) (Or.inl ⟨by rfl, ?hy13⟩) (by assumption) ?rest13
                    case hy13 => (intro w hSw; (try dsimp only at hSw); go_simp; (try with_reducible rfl))
                    try simp only [Act.put, List.setIfInBounds_toArray, List.set_cons_zero, List.set_cons_succ]
                    refine wpAnyH_done (by kernel_rfl) ?_ _
                    have u0' := blk_cell x10 0
                    have u1' := blk_cell x10 1
                    simp only [List.getElem?_toArray, List.getElem?_cons_zero, List.getElem?_cons_succ] at u0' u1'
                    have hP9 := K9.out.lt
                    intro KK hKK
                    go_simp
                    refine hKK _ _ (NoPanic.normal ?_)
                    have hl9 : (L ++ [L2[m]]).length = L.length + 1 := by simp
                    have x11 : (w9.setCell ⟨X, 2, none⟩ (.slice (some ⟨g9, 0, none⟩) (L.length + 1) cap9)).heap[X]? = some (.cells #[.int .i64 c2, .int .i64 s2, .slice (some ⟨g9, 0, none⟩) (L.length + 1) cap9] 59 (0, 0)) := heap_set x10
                    have K11 := Lib.hid (K9.out.asideT (i := 2) (u := .slice (some ⟨g9, 0, none⟩) (L.length + 1) cap9) hPX x10)
                    have HO11 := Lib.hid (HO9.out.asideT (i := 2) (u := .slice (some ⟨g9, 0, none⟩) (L.length + 1) cap9) x10 (by decide))
                    obtain ⟨L9, hL9⟩ : ∃ l, L ++ [L2[m]] = l := ⟨_, rfl⟩
                    rw [hL9] at hl9 HO11
                    rw [← hl9] at x11 K11 HO11 ⊢
                    have HL9 := Lib.hid hl9
                    clear hl9
                    obtain ⟨W9, hW9⟩ : ∃ x : World, w9.setCell ⟨X, 2, none⟩ (.slice (some ⟨g9, 0, none⟩) L9.length cap9) = x := ⟨_, rfl⟩
                    rw [hW9] at x11 K11 HO11 ⊢
                    clear hW9 K9 HO9 x10 x8 hKK u0' u1' r0 r1 t2 v2 vf tA tM u0 u1 u2 uf p0 p1 p2 pf K7 HX7
                    obtain ⟨_, u0, u1, u2, uf, hX9⟩ := own3 (Below.refl W9.heap.size W9) (Array.getElem?_eq_some_iff.1 x11).1 x11
                    obtain ⟨p0, p1, p2⟩ := K11.out.cells
                    have pf := fun i => blk_frozen K11.out.1 i
                    have hPW9 := K11.out.lt
                    go_wp2_with fail
                    go_roundw
                    case rel =>
                      have KM := purse_move (c2 := c2) (s2 := s2) K11.out HO11.out
                      have hl9 := HL9.out
                      exact ⟨T + dt, N - 1, c2, s2, L9, _, cap9, rfl, by omega, by omega, by omega, by omega, by first | rfl | go_num, by omega, KM.2.2.1, KM.1, KM.2.1, KM.2.2.2.1, KM.2.2.2.2.1⟩
                    case measure => simp [intOf]; omega
                  exact AllReadyH.nil
                exact AllReadyH.nil
              exact AllReadyH.nil
            exact AllReadyH.nil
      · obtain ⟨X, hX⟩ : ∃ x, w5.heap.size = x := ⟨_, rfl⟩
        obtain ⟨W, hW⟩ : ∃ x : World, ((w6.setCell ⟨w5.heap.size, 0, none⟩ (.int .i64 c2)).setCell ⟨w5.heap.size, 1, none⟩ (.int .i64 s2)).setCell ⟨w5.heap.size, 2, none⟩ (.slice A2 L2.length cap2) = x := ⟨_, rfl⟩
        have hPX : P < X := by omega
        have PP := purse_put (a := .int .i64 c2) (b := .int .i64 s2) (v := .slice A2 L2.length cap2) K6.out (X := w5.heap.size) (by omega) x6 (HX6.out.more (by first | omega | (simp; done) | (simp; omega)))
        rw [hX] at PP hW
        rw [hW] at PP
        rw [hX, hW]
        have KW : Hid (PuK w g P c s L A cp W) := Lib.hid PP.1
        have xW := PP.2.1
        have HXW : Hid (Ow W w.heap.size 108 2 (.slice A2 L2.length cap2) (L2.map Coin.cells)) := Lib.hid PP.2.2
        clear PP
        clear hX hW hb6 K6
        cases hk0 : (k == 0)
        · go_wp2_with fail
          go_roundw
          case rel => exact ⟨T + dt, N - 1, c, s, L, A, cp, rfl, by omega, by omega, by omega, by omega, by first | rfl | go_num, by omega, KW.out.2.2.1, KW.out.1, KW.out.2.1, KW.out.2.2.2.1, KW.out.2.2.2.2.1⟩
          case measure => simp [intOf]; omega
        · have h2 := hk (by simpa using hk0)
          have hXg : X ≠ g := by omega
          go_wp2_with fail
          refine (s_l01Below g 3 _ KW.out.2.2.2.1 (by decide) (by decide)).mono ?_
          rintro e w7 ⟨y7, y71, y72, rfl, hc7, hg7⟩
          have K7 := Lib.hid (KW.out.draw hg7 hc7)
          have x8 := heap_grown hg7 (someNeP hXg) xW
          have HX7 := Lib.hid (HXW.out.pastC hg7 hgw)
          clear hg7 hc7 KW xW HXW
          obtain ⟨_, u0, u1, u2, uf, hX7⟩ := own3 (Below.refl w7.heap.size w7) (Array.getElem?_eq_some_iff.1 x8).1 x8
          obtain ⟨p0, p1, p2⟩ := K7.out.cells
          have pf := fun i => blk_frozen K7.out.1 i
          have hP7 := K7.out.lt
          cases hy7 : (y7 == 0)
          · go_wp2_with fail
            go_roundw
            case rel =>
              have KM := purse_move (c2 := c2) (s2 := s2) K7.out HX7.out
              exact ⟨T + dt, N - 1, c2, s2, L2, A2, cap2, rfl, by omega, by omega, by omega, by omega, by first | rfl | go_num, by omega, KM.2.2.1, KM.1, KM.2.1, KM.2.2.2.1, KM.2.2.2.2.1⟩
            case measure => simp [intOf]; omega
          · obtain ⟨m, hm⟩ : ∃ m, L2.length = m + 1 := ⟨L2.length - 1, by omega⟩
            have hml : m < L2.length := by omega
            obtain ⟨b, off, hA2, hbB, cA, cM⟩ := Coin.rd HX7.out.rd hml
            subst hA2
            have i1 : (0 : Int) ≤ (m : Int) := by omega
            have i2 : (m : Int) < (L2.length : Int) := by omega
            have e1 : (L2.length : Int) - 1 = (m : Int) := by omega
            have e2 : IntKind.i64.wrap (m : Int) = (m : Int) := IntWalk.i64_in _ ⟨by omega, by omega⟩
            have HM := Lib.hid hm
            clear hm
            have hsz7 : ∀ o, (w7.alloc o).heap.size = w7.heap.size + 1 := sizeUpP w7
            go_wp2_with fail
            refine wp_region_noPanic ?_
            refine wp_region_lastL (S := (fun w' => w'.cell? ⟨P, 2, none⟩ = some (.slice A L.length cp) ∧ w'.cell? ⟨X, 2, none⟩ = some (.slice (some ⟨b, off, none⟩) L2.length cap2) ∧ w'.cell? ⟨b, off + m * 2, none⟩ = some (.int .i64 L2[m].At) ∧ w'.cell? ⟨b, off + m * 2 + 1, none⟩ = some (.int .i64 L2[m].Amt))) rfl (by kernel_rfl) (by kernel_rfl) (by kernel_rfl) (by kernel_rfl) ?_ (fun hHeld => ?_)
            · ((try dsimp only); (repeat' apply And.intro) <;> (repeat (first | (with_reducible assumption) | (with_reducible refine cell_undrew ?_) | (with_reducible refine cell_past (by first | (simp only; omega) | (simp; omega)) ?_))))
            simp only [List.dropLast]
            refine wpAnyH_take (i := 1) (v := ?v14) rfl (by kernel_rfl) (by kernel_rfl) (by kernel_rfl) (fun _ _ _ h => h) (Or.inl ⟨by rfl, ?hy14⟩) (by assumption) ?rest14
            case hy14 => (intro w hSw; (try dsimp only at hSw); go_simp; (try with_reducible rfl))
            try simp only [Act.put, List.setIfInBounds_toArray, List.set_cons_zero, List.set_cons_succ]
            refine wpAnyH_take (i := 2) (v := ?v15) rfl (by kernel_rfl) (by kernel_rfl) (by kernel_rfl) (fun _ _ _ h => h) (Or.inl ⟨by rfl, ?hy15⟩) (by assumption) ?rest15
            case hy15 => (intro w hSw; (try dsimp only at hSw); go_simp; (try with_reducible rfl))
            try simp only [Act.put, List.setIfInBounds_toArray, List.set_cons_zero, List.set_cons_succ]
            refine wpAnyH_take (i := 4) (v := ?v16) rfl (by kernel_rfl) (by kernel_rfl) (by kernel_rfl) (fun _ _ _ h => h) (Or.inl ⟨by rfl, ?hy16⟩) (by assumption) ?rest16
            case hy16 => (intro w hSw; (try dsimp only at hSw); go_simp; (try with_reducible rfl))
            try simp only [Act.put, List.setIfInBounds_toArray, List.set_cons_zero, List.set_cons_succ]
            refine wpAnyH_take (i := 5) (v := ?v17) rfl (by kernel_rfl) (by kernel_rfl) (by kernel_rfl) (fun _ _ _ h => h) (Or.inl ⟨by rfl, ?hy17⟩) (by assumption) ?rest17
            case hy17 => (intro w hSw; (try dsimp only at hSw); go_simp; (try with_reducible rfl))
            try simp only [Act.put, List.setIfInBounds_toArray, List.set_cons_zero, List.set_cons_succ]
            refine wpAnyH_take (i := 6) (v := ?v18) rfl (by kernel_rfl) (by kernel_rfl) (by kernel_rfl) (fun _ _ _ h => h) (Or.inl ⟨by rfl, ?hy18⟩) (by assumption) ?rest18
            case hy18 => (intro w hSw; (try dsimp only at hSw); go_simp; (try with_reducible rfl))
            try simp only [Act.put, List.setIfInBounds_toArray, List.set_cons_zero, List.set_cons_succ]
            refine wpAnyH_take (i := 7) (v := ?v19) rfl (by kernel_rfl) (by kernel_rfl) (by kernel_rfl) (fun _ _ _ h => h) (Or.inl ⟨by rfl, ?hy19⟩) (by assumption) ?rest19
            case hy19 => (intro w hSw; (try dsimp only at hSw); go_simp; (try with_reducible rfl))
            try simp only [Act.put, List.setIfInBounds_toArray, List.set_cons_zero, List.set_cons_succ]
            refine wpAnyH_take (i := 8) (v := ?v20) rfl (by kernel_rfl) (by kernel_rfl) (by kernel_rfl) (fun _ _ _ h => h) (Or.inl ⟨by rfl, ?hy20⟩) (by assumption) ?rest20
            case hy20 => (intro w hSw; (try dsimp only at hSw); go_simp; (try with_reducible rfl))
            try simp only [Act.put, List.setIfInBounds_toArray, List.set_cons_zero, List.set_cons_succ]
            refine wpAnyH_take (i := 9) (v := ?v21) rfl (by kernel_rfl) (by kernel_rfl) (by kernel_rfl) (fun _ _ _ h => h) (Or.inl ⟨by rfl, ?hy21⟩) (by assumption) ?rest21
            case hy21 => (intro w hSw; (try dsimp only at hSw); go_simp; (try with_reducible rfl))
            try simp only [Act.put, List.setIfInBounds_toArray, List.set_cons_zero, List.set_cons_succ]
            refine wpAnyH_take (i := 10) (v := ?v22) rfl (by kernel_rfl) (by kernel_rfl) (by kernel_rfl) (fun _ _ _ h => h) (Or.inl ⟨by rfl, ?hy22⟩) (by assumption) ?rest22
            case hy22 => (intro w hSw; (try dsimp only at hSw); go_simp; (try with_reducible rfl))
            try simp only [Act.put, List.setIfInBounds_toArray, List.set_cons_zero, List.set_cons_succ]
            refine wpAnyH_take (i := 11) (v := ?v23) rfl (by kernel_rfl) (by kernel_rfl) (by kernel_rfl) (fun _ _ _ h => h) (Or.inl ⟨by rfl, ?hy23⟩) (by assumption) ?rest23
            case hy23 => (intro w hSw; (try dsimp only at hSw); go_simp; (try with_reducible rfl))
            try simp only [Act.put, List.setIfInBounds_toArray, List.set_cons_zero, List.set_cons_succ]
            refine wpAnyH_ready (rs := [0, 12]) (by kernel_rfl) (by simp) ?_
            refine AllReadyH.cons rfl (fun K hK => ?_) ?_
            · skip
              go_simp
              refine hK.out _ _ ?_ (fun hHeld => ?_)
              · (try dsimp only)
                all_goals (((try dsimp only); (repeat' apply And.intro) <;> (repeat (first | (with_reducible assumption) | (with_reducible refine cell_undrew ?_) | (with_reducible refine cell_past (by first | (simp only; omega) | (simp; omega)) ?_)))))
              clear hK K
              try simp only [Act.put, List.setIfInBounds_toArray, List.set_cons_zero, List.set_cons_succ]
              refine wpAnyH_ready (rs := [3, 12]) (by kernel_rfl) (by simp) ?_
              refine AllReadyH.cons rfl (fun K hK => ?_) ?_
              · skip
                (refine step_appN (by rfl) _ _ _ (by rfl) w7.heap.size 108 i0 _ 2 16 Try.underlying57 HI.out HZ0.out HZ1.out HZ2.out rfl (by decide) _ _ [] 0 rfl (by rfl) (by first | exact Ow.empty_ rfl (Nat.le_refl _) | exact (Ow.empty_ rfl (Nat.le_refl _)).alloc _ | exact Ow.empty_ (by simp) (by simp)) A cp (L.map Coin.cells) L.length (by rw [List.length_map]) (by rfl) w7.heap.size (by first | exact K7.out.2.2.1.rd.below (((Below.refl _ _).drew).alloc (Nat.le_refl _) _) | exact K7.out.2.2.1.rd.below ((((Below.refl _ _).drew).alloc (Nat.le_refl _) _).alloc (by simp) _)) (coin_one L) (by first | omega | (simp; done) | (simp; omega)) (by decide) (by first | omega | (simp; done) | (simp; omega)) ?_; intro A8 cap8 w8 how8 hb8 hgr8; simp only [Nat.zero_add, List.nil_append] at how8 ⊢; have hB8 : Below w7.heap.size w7 w8 := (by first | exact (((Below.refl _ _).drew).alloc (Nat.le_refl _) _).trans hb8 | exact ((((Below.refl _ _).drew).alloc (Nat.le_refl _) _).alloc (by simp) _).trans hb8); have z8 := hB8.size; have x9 := heap_below hB8 hX7 x8; have K8 := Lib.hid (K7.out.below hB8); obtain ⟨_, _, t2⟩ := K8.out.cells; have hP8 := K8.out.lt; have v2 := blk_cell x9 2; simp only [List.getElem?_toArray, List.getElem?_cons_zero, List.getElem?_cons_succ] at v2; have tA := (hB8.cell (p := ⟨b, off + m * 2, none⟩) hbB).trans cA; have tM := (hB8.cell (p := ⟨b, off + m * 2 + 1, none⟩) hbB).trans cM; (try have row8 : w8.heap[w7.heap.size + 1]? = some (.cells #[.int .i64 L2[m].At, .int .i64 L2[m].Amt] 108 (0, 0)) := heap_grown hgr8 (by simp [Value.ownBlock]) (heap_at (by simp))); (try have row8 : w8.heap[w7.heap.size]? = some (.cells #[.int .i64 L2[m].At, .int .i64 L2[m].Amt] 108 (0, 0)) := heap_grown hgr8 (by simp [Value.ownBlock]) (heap_past (by simp) (heap_at rfl))))
                refine hK.out _ _ ?_ (fun hHeld => ?_)
                · (try dsimp only)
                  all_goals (((try dsimp only); (repeat' apply And.intro) <;> (repeat (first | (with_reducible assumption) | (with_reducible refine cell_undrew ?_) | (with_reducible refine cell_past (by first | (simp only; omega) | (simp; omega)) ?_)))))
                clear hK K
                try simp only [Act.put, List.setIfInBounds_toArray, List.set_cons_zero, List.set_cons_succ]
                refine wpAnyH_ready (rs := [12]) (by kernel_rfl) (by simp) ?_
                refine AllReadyH.cons rfl (fun K hK => ?_) ?_
                · skip
                  go_simp
                  refine hK.out _ _ ?_ (fun hHeld => ?_)
                  · (try dsimp only)
                    all_goals (((try dsimp only); (repeat' apply And.intro) <;> (repeat (first | (with_reducible assumption) | (with_reducible refine cell_undrew ?_) | (with_reducible refine cell_past (by first | (simp only; omega) | (simp; omega)) ?_)))))
                  clear hK K
                  try simp only [Act.put, List.setIfInBounds_toArray, List.set_cons_zero, List.set_cons_succ]
                  refine wpAnyH_ready (rs := [13]) (by kernel_rfl) (by simp) ?_
                  refine AllReadyH.cons rfl (fun K hK => ?_) ?_
                  · skip
                    (refine step_app1 (by rfl) _ _ _ (by rfl) w7.heap.size 108 i0 _ 2 16 Try.underlying57 HI.out HZ0.out HZ1.out HZ2.out rfl (by decide) (.slice A8 L.length cap8) (L.map Coin.cells) (by rfl) (by first | exact how8 | exact how8.alloc _) _ _ [.int .i64 L2[m].At, .int .i64 L2[m].Amt] 108 (by rfl) (by first | exact heap_at rfl | exact row8) rfl (by simp [Value.oneCell']) (by first | omega | (simp; done) | (simp; omega)) (by decide) (by first | omega | (simp; done) | (simp; omega)) ?_; intro g9 cap9 w9 how9 hgr9 hat9 hlt9; have hB9 : Below w7.heap.size w7 w9 := (by first | exact hB8.grown hgr9 hB8.size (fun k e => (how8.block k e).1) | exact (hB8.alloc hB8.size _).grown hgr9 (by first | omega | (simp; done) | (simp; omega)) (fun k e => (how8.block k e).1)); have x10 := heap_below hB9 hX7 x8; have K9 := Lib.hid (K7.out.below hB9); have HO9 := Lib.hid ((how9.more (show w.heap.size ≤ w7.heap.size by omega)).lastC (d := L2[m]) (by simp)); obtain ⟨r0, r1, t2⟩ := K9.out.cells; have v2 := blk_cell x10 2; simp only [List.getElem?_toArray, List.getElem?_cons_zero, List.getElem?_cons_succ] at v2; have vf := blk_frozen x10; have tA := (hB9.cell (p := ⟨b, off + m * 2, none⟩) hbB).trans cA; have tM := (hB9.cell (p := ⟨b, off + m * 2 + 1, none⟩) hbB).trans cM; clear how9 hgr9)
                    refine hK.out _ _ ?_ (fun hHeld => ?_)
                    · (try dsimp only)
                      all_goals (((try dsimp only); (repeat' apply And.intro) <;> (repeat (first | (with_reducible assumption) | (with_reducible refine cell_undrew ?_) | (with_reducible refine cell_past (by first | (simp only; omega) | (simp; omega)) ?_)))))
                    clear hK K
                    try simp only [Act.put, List.setIfInBounds_toArray, List.set_cons_zero, List.set_cons_succ]
                    refine wpAnyH_take (i := 14) (v := ?v24) rfl (by kernel_rfl) (by kernel_rfl) (by kernel_rfl) (fun _ _ _ h => h) (Or.inl ⟨by rfl, ?hy24⟩) (by assumption) ?rest24
                    case hy24 => (intro w hSw; (try dsimp only at hSw); go_simp; (try with_reducible rfl))
                    try simp only [Act.put, List.setIfInBounds_toArray, List.set_cons_zero, List.set_cons_succ]
                    refine wpAnyH_done (by kernel_rfl) ?_ _
                    have u0' := blk_cell x10 0
                    have u1' := blk_cell x10 1
                    simp only [List.getElem?_toArray, List.getElem?_cons_zero, List.getElem?_cons_succ] at u0' u1'
                    have hP9 := K9.out.lt
                    intro KK hKK
                    go_simp
                    refine hKK _ _ (NoPanic.normal ?_)
                    have hl9 : (L ++ [L2[m]]).length = L.length + 1 := by simp
                    have x11 : (w9.setCell ⟨X, 2, none⟩ (.slice (some ⟨g9, 0, none⟩) (L.length + 1) cap9)).heap[X]? = some (.cells #[.int .i64 c2, .int .i64 s2, .slice (some ⟨g9, 0, none⟩) (L.length + 1) cap9] 59 (0, 0)) := heap_set x10
                    have K11 := Lib.hid (K9.out.asideT (i := 2) (u := .slice (some ⟨g9, 0, none⟩) (L.length + 1) cap9) hPX x10)
                    have HO11 := Lib.hid (HO9.out.asideT (i := 2) (u := .slice (some ⟨g9, 0, none⟩) (L.length + 1) cap9) x10 (by decide))
                    obtain ⟨L9, hL9⟩ : ∃ l, L ++ [L2[m]] = l := ⟨_, rfl⟩
                    rw [hL9] at hl9 HO11
                    rw [← hl9] at x11 K11 HO11 ⊢
                    have HL9 := Lib.hid hl9
                    clear hl9
                    obtain ⟨W9, hW9⟩ : ∃ x : World, w9.setCell ⟨X, 2, none⟩ (.slice (some ⟨g9, 0, none⟩) L9.length cap9) = x := ⟨_, rfl⟩
                    rw [hW9] at x11 K11 HO11 ⊢
                    clear hW9 K9 HO9 x10 x8 hKK u0' u1' r0 r1 t2 v2 vf tA tM u0 u1 u2 uf p0 p1 p2 pf K7 HX7
                    obtain ⟨_, u0, u1, u2, uf, hX9⟩ := own3 (Below.refl W9.heap.size W9) (Array.getElem?_eq_some_iff.1 x11).1 x11
                    obtain ⟨p0, p1, p2⟩ := K11.out.cells
                    have pf := fun i => blk_frozen K11.out.1 i
                    have hPW9 := K11.out.lt
                    go_wp2_with fail
                    go_roundw
                    case rel =>
                      have KM := purse_move (c2 := c2) (s2 := s2) K11.out HO11.out
                      have hl9 := HL9.out
                      exact ⟨T + dt, N - 1, c2, s2, L9, _, cap9, rfl, by omega, by omega, by omega, by omega, by first | rfl | go_num, by omega, KM.2.2.1, KM.1, KM.2.1, KM.2.2.2.1, KM.2.2.2.2.1⟩
                    case measure => simp [intOf]; omega
                  exact AllReadyH.nil
                exact AllReadyH.nil
              refine AllReadyH.cons rfl (fun K hK => ?_) ?_
              · skip
                go_simp
                refine hK.out _ _ ?_ (fun hHeld => ?_)
                · (try dsimp only)
                  all_goals (((try dsimp only); (repeat' apply And.intro) <;> (repeat (first | (with_reducible assumption) | (with_reducible refine cell_undrew ?_) | (with_reducible refine cell_past (by first | (simp only; omega) | (simp; omega)) ?_)))))
                clear hK K
                try simp only [Act.put, List.setIfInBounds_toArray, List.set_cons_zero, List.set_cons_succ]
                refine wpAnyH_ready (rs := [3]) (by kernel_rfl) (by simp) ?_
                refine AllReadyH.cons rfl (fun K hK => ?_) ?_
                · skip
                  (refine step_appN (by rfl) _ _ _ (by rfl) w7.heap.size 108 i0 _ 2 16 Try.underlying57 HI.out HZ0.out HZ1.out HZ2.out rfl (by decide) _ _ [] 0 rfl (by rfl) (by first | exact Ow.empty_ rfl (Nat.le_refl _) | exact (Ow.empty_ rfl (Nat.le_refl _)).alloc _ | exact Ow.empty_ (by simp) (by simp)) A cp (L.map Coin.cells) L.length (by rw [List.length_map]) (by rfl) w7.heap.size (by first | exact K7.out.2.2.1.rd.below (((Below.refl _ _).drew).alloc (Nat.le_refl _) _) | exact K7.out.2.2.1.rd.below ((((Below.refl _ _).drew).alloc (Nat.le_refl _) _).alloc (by simp) _)) (coin_one L) (by first | omega | (simp; done) | (simp; omega)) (by decide) (by first | omega | (simp; done) | (simp; omega)) ?_; intro A8 cap8 w8 how8 hb8 hgr8; simp only [Nat.zero_add, List.nil_append] at how8 ⊢; have hB8 : Below w7.heap.size w7 w8 := (by first | exact (((Below.refl _ _).drew).alloc (Nat.le_refl _) _).trans hb8 | exact ((((Below.refl _ _).drew).alloc (Nat.le_refl _) _).alloc (by simp) _).trans hb8); have z8 := hB8.size; have x9 := heap_below hB8 hX7 x8; have K8 := Lib.hid (K7.out.below hB8); obtain ⟨_, _, t2⟩ := K8.out.cells; have hP8 := K8.out.lt; have v2 := blk_cell x9 2; simp only [List.getElem?_toArray, List.getElem?_cons_zero, List.getElem?_cons_succ] at v2; have tA := (hB8.cell (p := ⟨b, off + m * 2, none⟩) hbB).trans cA; have tM := (hB8.cell (p := ⟨b, off + m * 2 + 1, none⟩) hbB).trans cM; (try have row8 : w8.heap[w7.heap.size + 1]? = some (.cells #[.int .i64 L2[m].At, .int .i64 L2[m].Amt] 108 (0, 0)) := heap_grown hgr8 (by simp [Value.ownBlock]) (heap_at (by simp))); (try have row8 : w8.heap[w7.heap.size]? = some (.cells #[.int .i64 L2[m].At, .int .i64 L2[m].Amt] 108 (0, 0)) := heap_grown hgr8 (by simp [Value.ownBlock]) (heap_past (by simp) (heap_at rfl))))
                  refine hK.out _ _ ?_ (fun hHeld => ?_)
                  · (try dsimp only)
                    all_goals (((try dsimp only); (repeat' apply And.intro) <;> (repeat (first | (with_reducible assumption) | (with_reducible refine cell_undrew ?_) | (with_reducible refine cell_past (by first | (simp only; omega) | (simp; omega)) ?_)))))
                  clear hK K
                  try simp only [Act.put, List.setIfInBounds_toArray, List.set_cons_zero, List.set_cons_succ]
                  refine wpAnyH_ready (rs := [13]) (by kernel_rfl) (by simp) ?_
                  refine AllReadyH.cons rfl (fun K hK => ?_) ?_
                  · skip
                    (refine step_app1 (by rfl) _ _ _ (by rfl) w7.heap.size 108 i0 _ 2 16 Try.underlying57 HI.out HZ0.out HZ1.out HZ2.out rfl (by decide) (.slice A8 L.length cap8) (L.map Coin.cells) (by rfl) (by first | exact how8 | exact how8.alloc _) _ _ [.int .i64 L2[m].At, .int .i64 L2[m].Amt] 108 (by rfl) (by first | exact heap_at rfl | exact row8) rfl (by simp [Value.oneCell']) (by first | omega | (simp; done) | (simp; omega)) (by decide) (by first | omega | (simp; done) | (simp; omega)) ?_; intro g9 cap9 w9 how9 hgr9 hat9 hlt9; have hB9 : Below w7.heap.size w7 w9 := (by first | exact hB8.grown hgr9 hB8.size (fun k e => (how8.block k e).1) | exact (hB8.alloc hB8.size _).grown hgr9 (by first | omega | (simp; done) | (simp; omega)) (fun k e => (how8.block k e).1)); have x10 := heap_below hB9 hX7 x8; have K9 := Lib.hid (K7.out.below hB9); have HO9 := Lib.hid ((how9.more (show w.heap.size ≤ w7.heap.size by omega)).lastC (d := L2[m]) (by simp)); obtain ⟨r0, r1, t2⟩ := K9.out.cells; have v2 := blk_cell x10 2; simp only [List.getElem?_toArray, List.getElem?_cons_zero, List.getElem?_cons_succ] at v2; have vf := blk_frozen x10; have tA := (hB9.cell (p := ⟨b, off + m * 2, none⟩) hbB).trans cA; have tM := (hB9.cell (p := ⟨b, off + m * 2 + 1, none⟩) hbB).trans cM; clear how9 hgr9)
                    refine hK.out _ _ ?_ (fun hHeld => ?_)
                    · (try dsimp only)
                      all_goals (((try dsimp only); (repeat' apply And.intro) <;> (repeat (first | (with_reducible assumption) | (with_reducible refine cell_undrew ?_) | (with_reducible refine cell_past (by first | (simp only; omega) | (simp; omega)) ?_)))))
                    clear hK K
                    try simp only [Act.put, List.setIfInBounds_toArray, List.set_cons_zero, List.set_cons_succ]
                    refine wpAnyH_take (i := 14) (v := ?v25) rfl (by kernel_rfl) (by kernel_rfl) (by kernel_rfl) (fun _ _ _ h => h) (Or.inl ⟨by rfl, ?hy25⟩) (by assumption) ?rest25
                    case hy25 => (intro w hSw; (try dsimp only at hSw); go_simp; (try with_reducible rfl))
                    try simp only [Act.put, List.setIfInBounds_toArray, List.set_cons_zero, List.set_cons_succ]
                    refine wpAnyH_done (by kernel_rfl) ?_ _
                    have u0' := blk_cell x10 0
                    have u1' := blk_cell x10 1
                    simp only [List.getElem?_toArray, List.getElem?_cons_zero, List.getElem?_cons_succ] at u0' u1'
                    have hP9 := K9.out.lt
                    intro KK hKK
                    go_simp
                    refine hKK _ _ (NoPanic.normal ?_)
                    have hl9 : (L ++ [L2[m]]).length = L.length + 1 := by simp
                    have x11 : (w9.setCell ⟨X, 2, none⟩ (.slice (some ⟨g9, 0, none⟩) (L.length + 1) cap9)).heap[X]? = some (.cells #[.int .i64 c2, .int .i64 s2, .slice (some ⟨g9, 0, none⟩) (L.length + 1) cap9] 59 (0, 0)) := heap_set x10
                    have K11 := Lib.hid (K9.out.asideT (i := 2) (u := .slice (some ⟨g9, 0, none⟩) (L.length + 1) cap9) hPX x10)
                    have HO11 := Lib.hid (HO9.out.asideT (i := 2) (u := .slice (some ⟨g9, 0, none⟩) (L.length + 1) cap9) x10 (by decide))
                    obtain ⟨L9, hL9⟩ : ∃ l, L ++ [L2[m]] = l := ⟨_, rfl⟩
                    rw [hL9] at hl9 HO11
                    rw [← hl9] at x11 K11 HO11 ⊢
                    have HL9 := Lib.hid hl9
                    clear hl9
                    obtain ⟨W9, hW9⟩ : ∃ x : World, w9.setCell ⟨X, 2, none⟩ (.slice (some ⟨g9, 0, none⟩) L9.length cap9) = x := ⟨_, rfl⟩
                    rw [hW9] at x11 K11 HO11 ⊢
                    clear hW9 K9 HO9 x10 x8 hKK u0' u1' r0 r1 t2 v2 vf tA tM u0 u1 u2 uf p0 p1 p2 pf K7 HX7
                    obtain ⟨_, u0, u1, u2, uf, hX9⟩ := own3 (Below.refl W9.heap.size W9) (Array.getElem?_eq_some_iff.1 x11).1 x11
                    obtain ⟨p0, p1, p2⟩ := K11.out.cells
                    have pf := fun i => blk_frozen K11.out.1 i
                    have hPW9 := K11.out.lt
                    go_wp2_with fail
                    go_roundw
                    case rel =>
                      have KM := purse_move (c2 := c2) (s2 := s2) K11.out HO11.out
                      have hl9 := HL9.out
                      exact ⟨T + dt, N - 1, c2, s2, L9, _, cap9, rfl, by omega, by omega, by omega, by omega, by first | rfl | go_num, by omega, KM.2.2.1, KM.1, KM.2.1, KM.2.2.2.1, KM.2.2.2.2.1⟩
                    case measure => simp [intOf]; omega
                  exact AllReadyH.nil
                exact AllReadyH.nil
              exact AllReadyH.nil
            refine AllReadyH.cons rfl (fun K hK => ?_) ?_
            · skip
              go_simp
              refine hK.out _ _ ?_ (fun hHeld => ?_)
              · (try dsimp only)
                all_goals (((try dsimp only); (repeat' apply And.intro) <;> (repeat (first | (with_reducible assumption) | (with_reducible refine cell_undrew ?_) | (with_reducible refine cell_past (by first | (simp only; omega) | (simp; omega)) ?_)))))
              clear hK K
              try simp only [Act.put, List.setIfInBounds_toArray, List.set_cons_zero, List.set_cons_succ]
              refine wpAnyH_ready (rs := [0]) (by kernel_rfl) (by simp) ?_
              refine AllReadyH.cons rfl (fun K hK => ?_) ?_
              · skip
                go_simp
                refine hK.out _ _ ?_ (fun hHeld => ?_)
                · (try dsimp only)
                  all_goals (((try dsimp only); (repeat' apply And.intro) <;> (repeat (first | (with_reducible assumption) | (with_reducible refine cell_undrew ?_) | (with_reducible refine cell_past (by first | (simp only; omega) | (simp; omega)) ?_)))))
                clear hK K
                try simp only [Act.put, List.setIfInBounds_toArray, List.set_cons_zero, List.set_cons_succ]
                refine wpAnyH_ready (rs := [3]) (by kernel_rfl) (by simp) ?_
                refine AllReadyH.cons rfl (fun K hK => ?_) ?_
                · skip
                  (refine step_appN (by rfl) _ _ _ (by rfl) w7.heap.size 108 i0 _ 2 16 Try.underlying57 HI.out HZ0.out HZ1.out HZ2.out rfl (by decide) _ _ [] 0 rfl (by rfl) (by first | exact Ow.empty_ rfl (Nat.le_refl _) | exact (Ow.empty_ rfl (Nat.le_refl _)).alloc _ | exact Ow.empty_ (by simp) (by simp)) A cp (L.map Coin.cells) L.length (by rw [List.length_map]) (by rfl) w7.heap.size (by first | exact K7.out.2.2.1.rd.below (((Below.refl _ _).drew).alloc (Nat.le_refl _) _) | exact K7.out.2.2.1.rd.below ((((Below.refl _ _).drew).alloc (Nat.le_refl _) _).alloc (by simp) _)) (coin_one L) (by first | omega | (simp; done) | (simp; omega)) (by decide) (by first | omega | (simp; done) | (simp; omega)) ?_; intro A8 cap8 w8 how8 hb8 hgr8; simp only [Nat.zero_add, List.nil_append] at how8 ⊢; have hB8 : Below w7.heap.size w7 w8 := (by first | exact (((Below.refl _ _).drew).alloc (Nat.le_refl _) _).trans hb8 | exact ((((Below.refl _ _).drew).alloc (Nat.le_refl _) _).alloc (by simp) _).trans hb8); have z8 := hB8.size; have x9 := heap_below hB8 hX7 x8; have K8 := Lib.hid (K7.out.below hB8); obtain ⟨_, _, t2⟩ := K8.out.cells; have hP8 := K8.out.lt; have v2 := blk_cell x9 2; simp only [List.getElem?_toArray, List.getElem?_cons_zero, List.getElem?_cons_succ] at v2; have tA := (hB8.cell (p := ⟨b, off + m * 2, none⟩) hbB).trans cA; have tM := (hB8.cell (p := ⟨b, off + m * 2 + 1, none⟩) hbB).trans cM; (try have row8 : w8.heap[w7.heap.size + 1]? = some (.cells #[.int .i64 L2[m].At, .int .i64 L2[m].Amt] 108 (0, 0)) := heap_grown hgr8 (by simp [Value.ownBlock]) (heap_at (by simp))); (try have row8 : w8.heap[w7.heap.size]? = some (.cells #[.int .i64 L2[m].At, .int .i64 L2[m].Amt] 108 (0, 0)) := heap_grown hgr8 (by simp [Value.ownBlock]) (heap_past (by simp) (heap_at rfl))))
                  refine hK.out _ _ ?_ (fun hHeld => ?_)
                  · (try dsimp only)
                    all_goals (((try dsimp only); (repeat' apply And.intro) <;> (repeat (first | (with_reducible assumption) | (with_reducible refine cell_undrew ?_) | (with_reducible refine cell_past (by first | (simp only; omega) | (simp; omega)) ?_)))))
                  clear hK K
                  try simp only [Act.put, List.setIfInBounds_toArray, List.set_cons_zero, List.set_cons_succ]
                  refine wpAnyH_ready (rs := [13]) (by kernel_rfl) (by simp) ?_
                  refine AllReadyH.cons rfl (fun K hK => ?_) ?_
                  · skip
                    (refine step_app1 (by rfl) _ _ _ (by rfl) w7.heap.size 108 i0 _ 2 16 Try.underlying57 HI.out HZ0.out HZ1.out HZ2.out rfl (by decide) (.slice A8 L.length cap8) (L.map Coin.cells) (by rfl) (by first | exact how8 | exact how8.alloc _) _ _ [.int .i64 L2[m].At, .int .i64 L2[m].Amt] 108 (by rfl) (by first | exact heap_at rfl | exact row8) rfl (by simp [Value.oneCell']) (by first | omega | (simp; done) | (simp; omega)) (by decide) (by first | omega | (simp; done) | (simp; omega)) ?_; intro g9 cap9 w9 how9 hgr9 hat9 hlt9; have hB9 : Below w7.heap.size w7 w9 := (by first | exact hB8.grown hgr9 hB8.size (fun k e => (how8.block k e).1) | exact (hB8.alloc hB8.size _).grown hgr9 (by first | omega | (simp; done) | (simp; omega)) (fun k e => (how8.block k e).1)); have x10 := heap_below hB9 hX7 x8; have K9 := Lib.hid (K7.out.below hB9); have HO9 := Lib.hid ((how9.more (show w.heap.size ≤ w7.heap.size by omega)).lastC (d := L2[m]) (by simp)); obtain ⟨r0, r1, t2⟩ := K9.out.cells; have v2 := blk_cell x10 2; simp only [List.getElem?_toArray, List.getElem?_cons_zero, List.getElem?_cons_succ] at v2; have vf := blk_frozen x10; have tA := (hB9.cell (p := ⟨b, off + m * 2, none⟩) hbB).trans cA; have tM := (hB9.cell (p := ⟨b, off + m * 2 + 1, none⟩) hbB).trans cM; clear how9 hgr9)
                    refine hK.out _ _ ?_ (fun hHeld => ?_)
                    · (try dsimp only)
                      all_goals (((try dsimp only); (repeat' apply And.intro) <;> (repeat (first | (with_reducible assumption) | (with_reducible refine cell_undrew ?_) | (with_reducible refine cell_past (by first | (simp only; omega) | (simp; omega)) ?_)))))
                    clear hK K
                    try simp only [Act.put, List.setIfInBounds_toArray, List.set_cons_zero, List.set_cons_succ]
                    refine wpAnyH_take (i := 14) (v := ?v26) rfl (by kernel_rfl) (by kernel_rfl) (by kernel_rfl) (fun _ _ _ h => h) (Or.inl ⟨by rfl, ?hy26⟩) (by assumption) ?rest26
                    case hy26 => (intro w hSw; (try dsimp only at hSw); go_simp; (try with_reducible rfl))
                    try simp only [Act.put, List.setIfInBounds_toArray, List.set_cons_zero, List.set_cons_succ]
                    refine wpAnyH_done (by kernel_rfl) ?_ _
                    have u0' := blk_cell x10 0
                    have u1' := blk_cell x10 1
                    simp only [List.getElem?_toArray, List.getElem?_cons_zero, List.getElem?_cons_succ] at u0' u1'
                    have hP9 := K9.out.lt
                    intro KK hKK
                    go_simp
                    refine hKK _ _ (NoPanic.normal ?_)
                    have hl9 : (L ++ [L2[m]]).length = L.length + 1 := by simp
                    have x11 : (w9.setCell ⟨X, 2, none⟩ (.slice (some ⟨g9, 0, none⟩) (L.length + 1) cap9)).heap[X]? = some (.cells #[.int .i64 c2, .int .i64 s2, .slice (some ⟨g9, 0, none⟩) (L.length + 1) cap9] 59 (0, 0)) := heap_set x10
                    have K11 := Lib.hid (K9.out.asideT (i := 2) (u := .slice (some ⟨g9, 0, none⟩) (L.length + 1) cap9) hPX x10)
                    have HO11 := Lib.hid (HO9.out.asideT (i := 2) (u := .slice (some ⟨g9, 0, none⟩) (L.length + 1) cap9) x10 (by decide))
                    obtain ⟨L9, hL9⟩ : ∃ l, L ++ [L2[m]] = l := ⟨_, rfl⟩
                    rw [hL9] at hl9 HO11
                    rw [← hl9] at x11 K11 HO11 ⊢
                    have HL9 := Lib.hid hl9
                    clear hl9
                    obtain ⟨W9, hW9⟩ : ∃ x : World, w9.setCell ⟨X, 2, none⟩ (.slice (some ⟨g9, 0, none⟩) L9.length cap9) = x := ⟨_, rfl⟩
                    rw [hW9] at x11 K11 HO11 ⊢
                    clear hW9 K9 HO9 x10 x8 hKK u0' u1' r0 r1 t2 v2 vf tA tM u0 u1 u2 uf p0 p1 p2 pf K7 HX7
                    obtain ⟨_, u0, u1, u2, uf, hX9⟩ := own3 (Below.refl W9.heap.size W9) (Array.getElem?_eq_some_iff.1 x11).1 x11
                    obtain ⟨p0, p1, p2⟩ := K11.out.cells
                    have pf := fun i => blk_frozen K11.out.1 i
                    have hPW9 := K11.out.lt
                    go_wp2_with fail
                    go_roundw
                    case rel =>
                      have KM := purse_move (c2 := c2) (s2 := s2) K11.out HO11.out
                      have hl9 := HL9.out
                      exact ⟨T + dt, N - 1, c2, s2, L9, _, cap9, rfl, by omega, by omega, by omega, by omega, by first | rfl | go_num, by omega, KM.2.2.1, KM.1, KM.2.1, KM.2.2.2.1, KM.2.2.2.2.1⟩
                    case measure => simp [intOf]; omega
                  exact AllReadyH.nil
                exact AllReadyH.nil
              exact AllReadyH.nil
            exact AllReadyH.nil
      · obtain ⟨X, hX⟩ : ∃ x, w4.heap.size = x := ⟨_, rfl⟩
        obtain ⟨W, hW⟩ : ∃ x : World, ((w6.setCell ⟨w4.heap.size, 0, none⟩ (.int .i64 c2)).setCell ⟨w4.heap.size, 1, none⟩ (.int .i64 s2)).setCell ⟨w4.heap.size, 2, none⟩ (.slice A2 L2.length cap2) = x := ⟨_, rfl⟩
        have hPX : P < X := by omega
        have PP := purse_put (a := .int .i64 c2) (b := .int .i64 s2) (v := .slice A2 L2.length cap2) K6.out (X := w4.heap.size) (by omega) x6 (HX6.out.more (by first | omega | (simp; done) | (simp; omega)))
        rw [hX] at PP hW
        rw [hW] at PP
        rw [hX, hW]
        have KW : Hid (PuK w g P c s L A cp W) := Lib.hid PP.1
        have xW := PP.2.1
        have HXW : Hid (Ow W w.heap.size 108 2 (.slice A2 L2.length cap2) (L2.map Coin.cells)) := Lib.hid PP.2.2
        clear PP
        clear hX hW hb6 K6
        cases hk0 : (k == 0)
        · go_wp2_with fail
          go_roundw
          case rel => exact ⟨T + dt, N - 1, c, s, L, A, cp, rfl, by omega, by omega, by omega, by omega, by first | rfl | go_num, by omega, KW.out.2.2.1, KW.out.1, KW.out.2.1, KW.out.2.2.2.1, KW.out.2.2.2.2.1⟩
          case measure => simp [intOf]; omega
        · have h2 := hk (by simpa using hk0)
          have hXg : X ≠ g := by omega
          go_wp2_with fail
          refine (s_l01Below g 3 _ KW.out.2.2.2.1 (by decide) (by decide)).mono ?_
          rintro e w7 ⟨y7, y71, y72, rfl, hc7, hg7⟩
          have K7 := Lib.hid (KW.out.draw hg7 hc7)
          have x8 := heap_grown hg7 (someNeP hXg) xW
          have HX7 := Lib.hid (HXW.out.pastC hg7 hgw)
          clear hg7 hc7 KW xW HXW
          obtain ⟨_, u0, u1, u2, uf, hX7⟩ := own3 (Below.refl w7.heap.size w7) (Array.getElem?_eq_some_iff.1 x8).1 x8
          obtain ⟨p0, p1, p2⟩ := K7.out.cells
          have pf := fun i => blk_frozen K7.out.1 i
          have hP7 := K7.out.lt
          cases hy7 : (y7 == 0)
          · go_wp2_with fail
            go_roundw
            case rel =>
              have KM := purse_move (c2 := c2) (s2 := s2) K7.out HX7.out
              exact ⟨T + dt, N - 1, c2, s2, L2, A2, cap2, rfl, by omega, by omega, by omega, by omega, by first | rfl | go_num, by omega, KM.2.2.1, KM.1, KM.2.1, KM.2.2.2.1, KM.2.2.2.2.1⟩
            case measure => simp [intOf]; omega
          · obtain ⟨m, hm⟩ : ∃ m, L2.length = m + 1 := ⟨L2.length - 1, by omega⟩
            have hml : m < L2.length := by omega
            obtain ⟨b, off, hA2, hbB, cA, cM⟩ := Coin.rd HX7.out.rd hml
            subst hA2
            have i1 : (0 : Int) ≤ (m : Int) := by omega
            have i2 : (m : Int) < (L2.length : Int) := by omega
            have e1 : (L2.length : Int) - 1 = (m : Int) := by omega
            have e2 : IntKind.i64.wrap (m : Int) = (m : Int) := IntWalk.i64_in _ ⟨by omega, by omega⟩
            have HM := Lib.hid hm
            clear hm
            have hsz7 : ∀ o, (w7.alloc o).heap.size = w7.heap.size + 1 := sizeUpP w7
            go_wp2_with fail
            refine wp_region_noPanic ?_
            refine wp_region_lastL (S := (fun w' => w'.cell? ⟨P, 2, none⟩ = some (.slice A L.length cp) ∧ w'.cell? ⟨X, 2, none⟩ = some (.slice (some ⟨b, off, none⟩) L2.length cap2) ∧ w'.cell? ⟨b, off + m * 2, none⟩ = some (.int .i64 L2[m].At) ∧ w'.cell? ⟨b, off + m * 2 + 1, none⟩ = some (.int .i64 L2[m].Amt))) rfl (by kernel_rfl) (by kernel_rfl) (by kernel_rfl) (by kernel_rfl) ?_ (fun hHeld => ?_)
            · ((try dsimp only); (repeat' apply And.intro) <;> (repeat (first | (with_reducible assumption) | (with_reducible refine cell_undrew ?_) | (with_reducible refine cell_past (by first | (simp only; omega) | (simp; omega)) ?_))))
            simp only [List.dropLast]
            refine wpAnyH_take (i := 1) (v := ?v27) rfl (by kernel_rfl) (by kernel_rfl) (by kernel_rfl) (fun _ _ _ h => h) (Or.inl ⟨by rfl, ?hy27⟩) (by assumption) ?rest27
            case hy27 => (intro w hSw; (try dsimp only at hSw); go_simp; (try with_reducible rfl))
            try simp only [Act.put, List.setIfInBounds_toArray, List.set_cons_zero, List.set_cons_succ]
            refine wpAnyH_take (i := 2) (v := ?v28) rfl (by kernel_rfl) (by kernel_rfl) (by kernel_rfl) (fun _ _ _ h => h) (Or.inl ⟨by rfl, ?hy28⟩) (by assumption) ?rest28
            case hy28 => (intro w hSw; (try dsimp only at hSw); go_simp; (try with_reducible rfl))
            try simp only [Act.put, List.setIfInBounds_toArray, List.set_cons_zero, List.set_cons_succ]
            refine wpAnyH_take (i := 4) (v := ?v29) rfl (by kernel_rfl) (by kernel_rfl) (by kernel_rfl) (fun _ _ _ h => h) (Or.inl ⟨by rfl, ?hy29⟩) (by assumption) ?rest29
            case hy29 => (intro w hSw; (try dsimp only at hSw); go_simp; (try with_reducible rfl))
            try simp only [Act.put, List.setIfInBounds_toArray, List.set_cons_zero, List.set_cons_succ]
            refine wpAnyH_take (i := 5) (v := ?v30) rfl (by kernel_rfl) (by kernel_rfl) (by kernel_rfl) (fun _ _ _ h => h) (Or.inl ⟨by rfl, ?hy30⟩) (by assumption) ?rest30
            case hy30 => (intro w hSw; (try dsimp only at hSw); go_simp; (try with_reducible rfl))
            try simp only [Act.put, List.setIfInBounds_toArray, List.set_cons_zero, List.set_cons_succ]
            refine wpAnyH_take (i := 6) (v := ?v31) rfl (by kernel_rfl) (by kernel_rfl) (by kernel_rfl) (fun _ _ _ h => h) (Or.inl ⟨by rfl, ?hy31⟩) (by assumption) ?rest31
            case hy31 => (intro w hSw; (try dsimp only at hSw); go_simp; (try with_reducible rfl))
            try simp only [Act.put, List.setIfInBounds_toArray, List.set_cons_zero, List.set_cons_succ]
            refine wpAnyH_take (i := 7) (v := ?v32) rfl (by kernel_rfl) (by kernel_rfl) (by kernel_rfl) (fun _ _ _ h => h) (Or.inl ⟨by rfl, ?hy32⟩) (by assumption) ?rest32
            case hy32 => (intro w hSw; (try dsimp only at hSw); go_simp; (try with_reducible rfl))
            try simp only [Act.put, List.setIfInBounds_toArray, List.set_cons_zero, List.set_cons_succ]
            refine wpAnyH_take (i := 8) (v := ?v33) rfl (by kernel_rfl) (by kernel_rfl) (by kernel_rfl) (fun _ _ _ h => h) (Or.inl ⟨by rfl, ?hy33⟩) (by assumption) ?rest33
            case hy33 => (intro w hSw; (try dsimp only at hSw); go_simp; (try with_reducible rfl))
            try simp only [Act.put, List.setIfInBounds_toArray, List.set_cons_zero, List.set_cons_succ]
            refine wpAnyH_take (i := 9) (v := ?v34) rfl (by kernel_rfl) (by kernel_rfl) (by kernel_rfl) (fun _ _ _ h => h) (Or.inl ⟨by rfl, ?hy34⟩) (by assumption) ?rest34
            case hy34 => (intro w hSw; (try dsimp only at hSw); go_simp; (try with_reducible rfl))
            try simp only [Act.put, List.setIfInBounds_toArray, List.set_cons_zero, List.set_cons_succ]
            refine wpAnyH_take (i := 10) (v := ?v35) rfl (by kernel_rfl) (by kernel_rfl) (by kernel_rfl) (fun _ _ _ h => h) (Or.inl ⟨by rfl, ?hy35⟩) (by assumption) ?rest35
            case hy35 => (intro w hSw; (try dsimp only at hSw); go_simp; (try with_reducible rfl))
            try simp only [Act.put, List.setIfInBounds_toArray, List.set_cons_zero, List.set_cons_succ]
            refine wpAnyH_take (i := 11) (v := ?v36) rfl (by kernel_rfl) (by kernel_rfl) (by kernel_rfl) (fun _ _ _ h => h) (Or.inl ⟨by rfl, ?hy36⟩) (by assumption) ?rest36
            case hy36 => (intro w hSw; (try dsimp only at hSw); go_simp; (try with_reducible rfl))
            try simp only [Act.put, List.setIfInBounds_toArray, List.set_cons_zero, List.set_cons_succ]
            refine wpAnyH_ready (rs := [0, 12]) (by kernel_rfl) (by simp) ?_
            refine AllReadyH.cons rfl (fun K hK => ?_) ?_
            · skip
              go_simp
              refine hK.out _ _ ?_ (fun hHeld => ?_)
              · (try dsimp only)
                all_goals (((try dsimp only); (repeat' apply And.intro) <;> (repeat (first | (with_reducible assumption) | (with_reducible refine cell_undrew ?_) | (with_reducible refine cell_past (by first | (simp only; omega) | (simp; omega)) ?_)))))
              clear hK K
              try simp only [Act.put, List.setIfInBounds_toArray, List.set_cons_zero, List.set_cons_succ]
              refine wpAnyH_ready (rs := [3, 12]) (by kernel_rfl) (by simp) ?_
              refine AllReadyH.cons rfl (fun K hK => ?_) ?_
              · skip
                (refine step_appN (by rfl) _ _ _ (by rfl) w7.heap.size 108 i0 _ 2 16 Try.underlying57 HI.out HZ0.out HZ1.out HZ2.out rfl (by decide) _ _ [] 0 rfl (by rfl) (by first | exact Ow.empty_ rfl (Nat.le_refl _) | exact (Ow.empty_ rfl (Nat.le_refl _)).alloc _ | exact Ow.empty_ (by simp) (by simp)) A cp (L.map Coin.cells) L.length (by rw [List.length_map]) (by rfl) w7.heap.size (by first | exact K7.out.2.2.1.rd.below (((Below.refl _ _).drew).alloc (Nat.le_refl _) _) | exact K7.out.2.2.1.rd.below ((((Below.refl _ _).drew).alloc (Nat.le_refl _) _).alloc (by simp) _)) (coin_one L) (by first | omega | (simp; done) | (simp; omega)) (by decide) (by first | omega | (simp; done) | (simp; omega)) ?_; intro A8 cap8 w8 how8 hb8 hgr8; simp only [Nat.zero_add, List.nil_append] at how8 ⊢; have hB8 : Below w7.heap.size w7 w8 := (by first | exact (((Below.refl _ _).drew).alloc (Nat.le_refl _) _).trans hb8 | exact ((((Below.refl _ _).drew).alloc (Nat.le_refl _) _).alloc (by simp) _).trans hb8); have z8 := hB8.size; have x9 := heap_below hB8 hX7 x8; have K8 := Lib.hid (K7.out.below hB8); obtain ⟨_, _, t2⟩ := K8.out.cells; have hP8 := K8.out.lt; have v2 := blk_cell x9 2; simp only [List.getElem?_toArray, List.getElem?_cons_zero, List.getElem?_cons_succ] at v2; have tA := (hB8.cell (p := ⟨b, off + m * 2, none⟩) hbB).trans cA; have tM := (hB8.cell (p := ⟨b, off + m * 2 + 1, none⟩) hbB).trans cM; (try have row8 : w8.heap[w7.heap.size + 1]? = some (.cells #[.int .i64 L2[m].At, .int .i64 L2[m].Amt] 108 (0, 0)) := heap_grown hgr8 (by simp [Value.ownBlock]) (heap_at (by simp))); (try have row8 : w8.heap[w7.heap.size]? = some (.cells #[.int .i64 L2[m].At, .int .i64 L2[m].Amt] 108 (0, 0)) := heap_grown hgr8 (by simp [Value.ownBlock]) (heap_past (by simp) (heap_at rfl))))
                refine hK.out _ _ ?_ (fun hHeld => ?_)
                · (try dsimp only)
                  all_goals (((try dsimp only); (repeat' apply And.intro) <;> (repeat (first | (with_reducible assumption) | (with_reducible refine cell_undrew ?_) | (with_reducible refine cell_past (by first | (simp only; omega) | (simp; omega)) ?_)))))
                clear hK K
                try simp only [Act.put, List.setIfInBounds_toArray, List.set_cons_zero, List.set_cons_succ]
                refine wpAnyH_ready (rs := [12]) (by kernel_rfl) (by simp) ?_
                refine AllReadyH.cons rfl (fun K hK => ?_) ?_
                · skip
                  go_simp
                  refine hK.out _ _ ?_ (fun hHeld => ?_)
                  · (try dsimp only)
                    all_goals (((try dsimp only); (repeat' apply And.intro) <;> (repeat (first | (with_reducible assumption) | (with_reducible refine cell_undrew ?_) | (with_reducible refine cell_past (by first | (simp only; omega) | (simp; omega)) ?_)))))
                  clear hK K
                  try simp only [Act.put, List.setIfInBounds_toArray, List.set_cons_zero, List.set_cons_succ]
                  refine wpAnyH_ready (rs := [13]) (by kernel_rfl) (by simp) ?_
                  refine AllReadyH.cons rfl (fun K hK => ?_) ?_
                  · skip
                    (refine step_app1 (by rfl) _ _ _ (by rfl) w7.heap.size 108 i0 _ 2 16 Try.underlying57 HI.out HZ0.out HZ1.out HZ2.out rfl (by decide) (.slice A8 L.length cap8) (L.map Coin.cells) (by rfl) (by first | exact how8 | exact how8.alloc _) _ _ [.int .i64 L2[m].At, .int .i64 L2[m].Amt] 108 (by rfl) (by first | exact heap_at rfl | exact row8) rfl (by simp [Value.oneCell']) (by first | omega | (simp; done) | (simp; omega)) (by decide) (by first | omega | (simp; done) | (simp; omega)) ?_; intro g9 cap9 w9 how9 hgr9 hat9 hlt9; have hB9 : Below w7.heap.size w7 w9 := (by first | exact hB8.grown hgr9 hB8.size (fun k e => (how8.block k e).1) | exact (hB8.alloc hB8.size _).grown hgr9 (by first | omega | (simp; done) | (simp; omega)) (fun k e => (how8.block k e).1)); have x10 := heap_below hB9 hX7 x8; have K9 := Lib.hid (K7.out.below hB9); have HO9 := Lib.hid ((how9.more (show w.heap.size ≤ w7.heap.size by omega)).lastC (d := L2[m]) (by simp)); obtain ⟨r0, r1, t2⟩ := K9.out.cells; have v2 := blk_cell x10 2; simp only [List.getElem?_toArray, List.getElem?_cons_zero, List.getElem?_cons_succ] at v2; have vf := blk_frozen x10; have tA := (hB9.cell (p := ⟨b, off + m * 2, none⟩) hbB).trans cA; have tM := (hB9.cell (p := ⟨b, off + m * 2 + 1, none⟩) hbB).trans cM; clear how9 hgr9)
                    refine hK.out _ _ ?_ (fun hHeld => ?_)
                    · (try dsimp only)
                      all_goals (((try dsimp only); (repeat' apply And.intro) <;> (repeat (first | (with_reducible assumption) | (with_reducible refine cell_undrew ?_) | (with_reducible refine cell_past (by first | (simp only; omega) | (simp; omega)) ?_)))))
                    clear hK K
                    try simp only [Act.put, List.setIfInBounds_toArray, List.set_cons_zero, List.set_cons_succ]
                    refine wpAnyH_take (i := 14) (v := ?v37) rfl (by kernel_rfl) (by kernel_rfl) (by kernel_rfl) (fun _ _ _ h => h) (Or.inl ⟨by rfl, ?hy37⟩) (by assumption) ?rest37
                    case hy37 => (intro w hSw; (try dsimp only at hSw); go_simp; (try with_reducible rfl))
                    try simp only [Act.put, List.setIfInBounds_toArray, List.set_cons_zero, List.set_cons_succ]
                    refine wpAnyH_done (by kernel_rfl) ?_ _
                    have u0' := blk_cell x10 0
                    have u1' := blk_cell x10 1
                    simp only [List.getElem?_toArray, List.getElem?_cons_zero, List.getElem?_cons_succ] at u0' u1'
                    have hP9 := K9.out.lt
                    intro KK hKK
                    go_simp
                    refine hKK _ _ (NoPanic.normal ?_)
                    have hl9 : (L ++ [L2[m]]).length = L.length + 1 := by simp
                    have x11 : (w9.setCell ⟨X, 2, none⟩ (.slice (some ⟨g9, 0, none⟩) (L.length + 1) cap9)).heap[X]? = some (.cells #[.int .i64 c2, .int .i64 s2, .slice (some ⟨g9, 0, none⟩) (L.length + 1) cap9] 59 (0, 0)) := heap_set x10
                    have K11 := Lib.hid (K9.out.asideT (i := 2) (u := .slice (some ⟨g9, 0, none⟩) (L.length + 1) cap9) hPX x10)
                    have HO11 := Lib.hid (HO9.out.asideT (i := 2) (u := .slice (some ⟨g9, 0, none⟩) (L.length + 1) cap9) x10 (by decide))
                    obtain ⟨L9, hL9⟩ : ∃ l, L ++ [L2[m]] = l := ⟨_, rfl⟩
                    rw [hL9] at hl9 HO11
                    rw [← hl9] at x11 K11 HO11 ⊢
                    have HL9 := Lib.hid hl9
                    clear hl9
                    obtain ⟨W9, hW9⟩ : ∃ x : World, w9.setCell ⟨X, 2, none⟩ (.slice (some ⟨g9, 0, none⟩) L9.length cap9) = x := ⟨_, rfl⟩
                    rw [hW9] at x11 K11 HO11 ⊢
                    clear hW9 K9 HO9 x10 x8 hKK u0' u1' r0 r1 t2 v2 vf tA tM u0 u1 u2 uf p0 p1 p2 pf K7 HX7
                    obtain ⟨_, u0, u1, u2, uf, hX9⟩ := own3 (Below.refl W9.heap.size W9) (Array.getElem?_eq_some_iff.1 x11).1 x11
                    obtain ⟨p0, p1, p2⟩ := K11.out.cells
                    have pf := fun i => blk_frozen K11.out.1 i
                    have hPW9 := K11.out.lt
                    go_wp2_with fail
                    go_roundw
                    case rel =>
                      have KM := purse_move (c2 := c2) (s2 := s2) K11.out HO11.out
                      have hl9 := HL9.out
                      exact ⟨T + dt, N - 1, c2, s2, L9, _, cap9, rfl, by omega, by omega, by omega, by omega, by first | rfl | go_num, by omega, KM.2.2.1, KM.1, KM.2.1, KM.2.2.2.1, KM.2.2.2.2.1⟩
                    case measure => simp [intOf]; omega
                  exact AllReadyH.nil
                exact AllReadyH.nil
              refine AllReadyH.cons rfl (fun K hK => ?_) ?_
              · skip
                go_simp
                refine hK.out _ _ ?_ (fun hHeld => ?_)
                · (try dsimp only)
                  all_goals (((try dsimp only); (repeat' apply And.intro) <;> (repeat (first | (with_reducible assumption) | (with_reducible refine cell_undrew ?_) | (with_reducible refine cell_past (by first | (simp only; omega) | (simp; omega)) ?_)))))
                clear hK K
                try simp only [Act.put, List.setIfInBounds_toArray, List.set_cons_zero, List.set_cons_succ]
                refine wpAnyH_ready (rs := [3]) (by kernel_rfl) (by simp) ?_
                refine AllReadyH.cons rfl (fun K hK => ?_) ?_
                · skip
                  (refine step_appN (by rfl) _ _ _ (by rfl) w7.heap.size 108 i0 _ 2 16 Try.underlying57 HI.out HZ0.out HZ1.out HZ2.out rfl (by decide) _ _ [] 0 rfl (by rfl) (by first | exact Ow.empty_ rfl (Nat.le_refl _) | exact (Ow.empty_ rfl (Nat.le_refl _)).alloc _ | exact Ow.empty_ (by simp) (by simp)) A cp (L.map Coin.cells) L.length (by rw [List.length_map]) (by rfl) w7.heap.size (by first | exact K7.out.2.2.1.rd.below (((Below.refl _ _).drew).alloc (Nat.le_refl _) _) | exact K7.out.2.2.1.rd.below ((((Below.refl _ _).drew).alloc (Nat.le_refl _) _).alloc (by simp) _)) (coin_one L) (by first | omega | (simp; done) | (simp; omega)) (by decide) (by first | omega | (simp; done) | (simp; omega)) ?_; intro A8 cap8 w8 how8 hb8 hgr8; simp only [Nat.zero_add, List.nil_append] at how8 ⊢; have hB8 : Below w7.heap.size w7 w8 := (by first | exact (((Below.refl _ _).drew).alloc (Nat.le_refl _) _).trans hb8 | exact ((((Below.refl _ _).drew).alloc (Nat.le_refl _) _).alloc (by simp) _).trans hb8); have z8 := hB8.size; have x9 := heap_below hB8 hX7 x8; have K8 := Lib.hid (K7.out.below hB8); obtain ⟨_, _, t2⟩ := K8.out.cells; have hP8 := K8.out.lt; have v2 := blk_cell x9 2; simp only [List.getElem?_toArray, List.getElem?_cons_zero, List.getElem?_cons_succ] at v2; have tA := (hB8.cell (p := ⟨b, off + m * 2, none⟩) hbB).trans cA; have tM := (hB8.cell (p := ⟨b, off + m * 2 + 1, none⟩) hbB).trans cM; (try have row8 : w8.heap[w7.heap.size + 1]? = some (.cells #[.int .i64 L2[m].At, .int .i64 L2[m].Amt] 108 (0, 0)) := heap_grown hgr8 (by simp [Value.ownBlock]) (heap_at (by simp))); (try have row8 : w8.heap[w7.heap.size]? = some (.cells #[.int .i64 L2[m].At, .int .i64 L2[m].Amt] 108 (0, 0)) := heap_grown hgr8 (by simp [Value.ownBlock]) (heap_past (by simp) (heap_at rfl))))
                  refine hK.out _ _ ?_ (fun hHeld => ?_)
                  · (try dsimp only)
                    all_goals (((try dsimp only); (repeat' apply And.intro) <;> (repeat (first | (with_reducible assumption) | (with_reducible refine cell_undrew ?_) | (with_reducible refine cell_past (by first | (simp only; omega) | (simp; omega)) ?_)))))
                  clear hK K
                  try simp only [Act.put, List.setIfInBounds_toArray, List.set_cons_zero, List.set_cons_succ]
                  refine wpAnyH_ready (rs := [13]) (by kernel_rfl) (by simp) ?_
                  refine AllReadyH.cons rfl (fun K hK => ?_) ?_
                  · skip
                    (refine step_app1 (by rfl) _ _ _ (by rfl) w7.heap.size 108 i0 _ 2 16 Try.underlying57 HI.out HZ0.out HZ1.out HZ2.out rfl (by decide) (.slice A8 L.length cap8) (L.map Coin.cells) (by rfl) (by first | exact how8 | exact how8.alloc _) _ _ [.int .i64 L2[m].At, .int .i64 L2[m].Amt] 108 (by rfl) (by first | exact heap_at rfl | exact row8) rfl (by simp [Value.oneCell']) (by first | omega | (simp; done) | (simp; omega)) (by decide) (by first | omega | (simp; done) | (simp; omega)) ?_; intro g9 cap9 w9 how9 hgr9 hat9 hlt9; have hB9 : Below w7.heap.size w7 w9 := (by first | exact hB8.grown hgr9 hB8.size (fun k e => (how8.block k e).1) | exact (hB8.alloc hB8.size _).grown hgr9 (by first | omega | (simp; done) | (simp; omega)) (fun k e => (how8.block k e).1)); have x10 := heap_below hB9 hX7 x8; have K9 := Lib.hid (K7.out.below hB9); have HO9 := Lib.hid ((how9.more (show w.heap.size ≤ w7.heap.size by omega)).lastC (d := L2[m]) (by simp)); obtain ⟨r0, r1, t2⟩ := K9.out.cells; have v2 := blk_cell x10 2; simp only [List.getElem?_toArray, List.getElem?_cons_zero, List.getElem?_cons_succ] at v2; have vf := blk_frozen x10; have tA := (hB9.cell (p := ⟨b, off + m * 2, none⟩) hbB).trans cA; have tM := (hB9.cell (p := ⟨b, off + m * 2 + 1, none⟩) hbB).trans cM; clear how9 hgr9)
                    refine hK.out _ _ ?_ (fun hHeld => ?_)
                    · (try dsimp only)
                      all_goals (((try dsimp only); (repeat' apply And.intro) <;> (repeat (first | (with_reducible assumption) | (with_reducible refine cell_undrew ?_) | (with_reducible refine cell_past (by first | (simp only; omega) | (simp; omega)) ?_)))))
                    clear hK K
                    try simp only [Act.put, List.setIfInBounds_toArray, List.set_cons_zero, List.set_cons_succ]
                    refine wpAnyH_take (i := 14) (v := ?v38) rfl (by kernel_rfl) (by kernel_rfl) (by kernel_rfl) (fun _ _ _ h => h) (Or.inl ⟨by rfl, ?hy38⟩) (by assumption) ?rest38
                    case hy38 => (intro w hSw; (try dsimp only at hSw); go_simp; (try with_reducible rfl))
                    try simp only [Act.put, List.setIfInBounds_toArray, List.set_cons_zero, List.set_cons_succ]
                    refine wpAnyH_done (by kernel_rfl) ?_ _
                    have u0' := blk_cell x10 0
                    have u1' := blk_cell x10 1
                    simp only [List.getElem?_toArray, List.getElem?_cons_zero, List.getElem?_cons_succ] at u0' u1'
                    have hP9 := K9.out.lt
                    intro KK hKK
                    go_simp
                    refine hKK _ _ (NoPanic.normal ?_)
                    have hl9 : (L ++ [L2[m]]).length = L.length + 1 := by simp
                    have x11 : (w9.setCell ⟨X, 2, none⟩ (.slice (some ⟨g9, 0, none⟩) (L.length + 1) cap9)).heap[X]? = some (.cells #[.int .i64 c2, .int .i64 s2, .slice (some ⟨g9, 0, none⟩) (L.length + 1) cap9] 59 (0, 0)) := heap_set x10
                    have K11 := Lib.hid (K9.out.asideT (i := 2) (u := .slice (some ⟨g9, 0, none⟩) (L.length + 1) cap9) hPX x10)
                    have HO11 := Lib.hid (HO9.out.asideT (i := 2) (u := .slice (some ⟨g9, 0, none⟩) (L.length + 1) cap9) x10 (by decide))
                    obtain ⟨L9, hL9⟩ : ∃ l, L ++ [L2[m]] = l := ⟨_, rfl⟩
                    rw [hL9] at hl9 HO11
                    rw [← hl9] at x11 K11 HO11 ⊢
                    have HL9 := Lib.hid hl9
                    clear hl9
                    obtain ⟨W9, hW9⟩ : ∃ x : World, w9.setCell ⟨X, 2, none⟩ (.slice (some ⟨g9, 0, none⟩) L9.length cap9) = x := ⟨_, rfl⟩
                    rw [hW9] at x11 K11 HO11 ⊢
                    clear hW9 K9 HO9 x10 x8 hKK u0' u1' r0 r1 t2 v2 vf tA tM u0 u1 u2 uf p0 p1 p2 pf K7 HX7
                    obtain ⟨_, u0, u1, u2, uf, hX9⟩ := own3 (Below.refl W9.heap.size W9) (Array.getElem?_eq_some_iff.1 x11).1 x11
                    obtain ⟨p0, p1, p2⟩ := K11.out.cells
                    have pf := fun i => blk_frozen K11.out.1 i
                    have hPW9 := K11.out.lt
                    go_wp2_with fail
                    go_roundw
                    case rel =>
                      have KM := purse_move (c2 := c2) (s2 := s2) K11.out HO11.out
                      have hl9 := HL9.out
                      exact ⟨T + dt, N - 1, c2, s2, L9, _, cap9, rfl, by omega, by omega, by omega, by omega, by first | rfl | go_num, by omega, KM.2.2.1, KM.1, KM.2.1, KM.2.2.2.1, KM.2.2.2.2.1⟩
                    case measure => simp [intOf]; omega
                  exact AllReadyH.nil
                exact AllReadyH.nil
              exact AllReadyH.nil
            refine AllReadyH.cons rfl (fun K hK => ?_) ?_
            · skip
              go_simp
              refine hK.out _ _ ?_ (fun hHeld => ?_)
              · (try dsimp only)
                all_goals (((try dsimp only); (repeat' apply And.intro) <;> (repeat (first | (with_reducible assumption) | (with_reducible refine cell_undrew ?_) | (with_reducible refine cell_past (by first | (simp only; omega) | (simp; omega)) ?_)))))
              clear hK K
              try simp only [Act.put, List.setIfInBounds_toArray, List.set_cons_zero, List.set_cons_succ]
              refine wpAnyH_ready (rs := [0]) (by kernel_rfl) (by simp) ?_
              refine AllReadyH.cons rfl (fun K hK => ?_) ?_
              · skip
                go_simp
                refine hK.out _ _ ?_ (fun hHeld => ?_)
                · (try dsimp only)
                  all_goals (((try dsimp only); (repeat' apply And.intro) <;> (repeat (first | (with_reducible assumption) | (with_reducible refine cell_undrew ?_) | (with_reducible refine cell_past (by first | (simp only; omega) | (simp; omega)) ?_)))))
                clear hK K
                try simp only [Act.put, List.setIfInBounds_toArray, List.set_cons_zero, List.set_cons_succ]
                refine wpAnyH_ready (rs := [3]) (by kernel_rfl) (by simp) ?_
                refine AllReadyH.cons rfl (fun K hK => ?_) ?_
                · skip
                  (refine step_appN (by rfl) _ _ _ (by rfl) w7.heap.size 108 i0 _ 2 16 Try.underlying57 HI.out HZ0.out HZ1.out HZ2.out rfl (by decide) _ _ [] 0 rfl (by rfl) (by first | exact Ow.empty_ rfl (Nat.le_refl _) | exact (Ow.empty_ rfl (Nat.le_refl _)).alloc _ | exact Ow.empty_ (by simp) (by simp)) A cp (L.map Coin.cells) L.length (by rw [List.length_map]) (by rfl) w7.heap.size (by first | exact K7.out.2.2.1.rd.below (((Below.refl _ _).drew).alloc (Nat.le_refl _) _) | exact K7.out.2.2.1.rd.below ((((Below.refl _ _).drew).alloc (Nat.le_refl _) _).alloc (by simp) _)) (coin_one L) (by first | omega | (simp; done) | (simp; omega)) (by decide) (by first | omega | (simp; done) | (simp; omega)) ?_; intro A8 cap8 w8 how8 hb8 hgr8; simp only [Nat.zero_add, List.nil_append] at how8 ⊢; have hB8 : Below w7.heap.size w7 w8 := (by first | exact (((Below.refl _ _).drew).alloc (Nat.le_refl _) _).trans hb8 | exact ((((Below.refl _ _).drew).alloc (Nat.le_refl _) _).alloc (by simp) _).trans hb8); have z8 := hB8.size; have x9 := heap_below hB8 hX7 x8; have K8 := Lib.hid (K7.out.below hB8); obtain ⟨_, _, t2⟩ := K8.out.cells; have hP8 := K8.out.lt; have v2 := blk_cell x9 2; simp only [List.getElem?_toArray, List.getElem?_cons_zero, List.getElem?_cons_succ] at v2; have tA := (hB8.cell (p := ⟨b, off + m * 2, none⟩) hbB).trans cA; have tM := (hB8.cell (p := ⟨b, off + m * 2 + 1, none⟩) hbB).trans cM; (try have row8 : w8.heap[w7.heap.size + 1]? = some (.cells #[.int .i64 L2[m].At, .int .i64 L2[m].Amt] 108 (0, 0)) := heap_grown hgr8 (by simp [Value.ownBlock]) (heap_at (by simp))); (try have row8 : w8.heap[w7.heap.size]? = some (.cells #[.int .i64 L2[m].At, .int .i64 L2[m].Amt] 108 (0, 0)) := heap_grown hgr8 (by simp [Value.ownBlock]) (heap_past (by simp) (heap_at rfl))))
                  refine hK.out _ _ ?_ (fun hHeld => ?_)
                  · (try dsimp only)
                    all_goals (((try dsimp only); (repeat' apply And.intro) <;> (repeat (first | (with_reducible assumption) | (with_reducible refine cell_undrew ?_) | (with_reducible refine cell_past (by first | (simp only; omega) | (simp; omega)) ?_)))))
                  clear hK K
                  try simp only [Act.put, List.setIfInBounds_toArray, List.set_cons_zero, List.set_cons_succ]
                  refine wpAnyH_ready (rs := [13]) (by kernel_rfl) (by simp) ?_
                  refine AllReadyH.cons rfl (fun K hK => ?_) ?_
                  · skip
                    (refine step_app1 (by rfl) _ _ _ (by rfl) w7.heap.size 108 i0 _ 2 16 Try.underlying57 HI.out HZ0.out HZ1.out HZ2.out rfl (by decide) (.slice A8 L.length cap8) (L.map Coin.cells) (by rfl) (by first | exact how8 | exact how8.alloc _) _ _ [.int .i64 L2[m].At, .int .i64 L2[m].Amt] 108 (by rfl) (by first | exact heap_at rfl | exact row8) rfl (by simp [Value.oneCell']) (by first | omega | (simp; done) | (simp; omega)) (by decide) (by first | omega | (simp; done) | (simp; omega)) ?_; intro g9 cap9 w9 how9 hgr9 hat9 hlt9; have hB9 : Below w7.heap.size w7 w9 := (by first | exact hB8.grown hgr9 hB8.size (fun k e => (how8.block k e).1) | exact (hB8.alloc hB8.size _).grown hgr9 (by first | omega | (simp; done) | (simp; omega)) (fun k e => (how8.block k e).1)); have x10 := heap_below hB9 hX7 x8; have K9 := Lib.hid (K7.out.below hB9); have HO9 := Lib.hid ((how9.more (show w.heap.size ≤ w7.heap.size by omega)).lastC (d := L2[m]) (by simp)); obtain ⟨r0, r1, t2⟩ := K9.out.cells; have v2 := blk_cell x10 2; simp only [List.getElem?_toArray, List.getElem?_cons_zero, List.getElem?_cons_succ] at v2; have vf := blk_frozen x10; have tA := (hB9.cell (p := ⟨b, off + m * 2, none⟩) hbB).trans cA; have tM := (hB9.cell (p := ⟨b, off + m * 2 + 1, none⟩) hbB).trans cM; clear how9 hgr9)
                    refine hK.out _ _ ?_ (fun hHeld => ?_)
                    · (try dsimp only)
                      all_goals (((try dsimp only); (repeat' apply And.intro) <;> (repeat (first | (with_reducible assumption) | (with_reducible refine cell_undrew ?_) | (with_reducible refine cell_past (by first | (simp only; omega) | (simp; omega)) ?_)))))
                    clear hK K
                    try simp only [Act.put, List.setIfInBounds_toArray, List.set_cons_zero, List.set_cons_succ]
                    refine wpAnyH_take (i := 14) (v := ?v39) rfl (by kernel_rfl) (by kernel_rfl) (by kernel_rfl) (fun _ _ _ h => h) (Or.inl ⟨by rfl, ?hy39⟩) (by assumption) ?rest39
                    case hy39 => (intro w hSw; (try dsimp only at hSw); go_simp; (try with_reducible rfl))
                    try simp only [Act.put, List.setIfInBounds_toArray, List.set_cons_zero, List.set_cons_succ]
                    refine wpAnyH_done (by kernel_rfl) ?_ _
                    have u0' := blk_cell x10 0
                    have u1' := blk_cell x10 1
                    simp only [List.getElem?_toArray, List.getElem?_cons_zero, List.getElem?_cons_succ] at u0' u1'
                    have hP9 := K9.out.lt
                    intro KK hKK
                    go_simp
                    refine hKK _ _ (NoPanic.normal ?_)
                    have hl9 : (L ++ [L2[m]]).length = L.length + 1 := by simp
                    have x11 : (w9.setCell ⟨X, 2, none⟩ (.slice (some ⟨g9, 0, none⟩) (L.length + 1) cap9)).heap[X]? = some (.cells #[.int .i64 c2, .int .i64 s2, .slice (some ⟨g9, 0, none⟩) (L.length + 1) cap9] 59 (0, 0)) := heap_set x10
                    have K11 := Lib.hid (K9.out.asideT (i := 2) (u := .slice (some ⟨g9, 0, none⟩) (L.length + 1) cap9) hPX x10)
                    have HO11 := Lib.hid (HO9.out.asideT (i := 2) (u := .slice (some ⟨g9, 0, none⟩) (L.length + 1) cap9) x10 (by decide))
                    obtain ⟨L9, hL9⟩ : ∃ l, L ++ [L2[m]] = l := ⟨_, rfl⟩
                    rw [hL9] at hl9 HO11
                    rw [← hl9] at x11 K11 HO11 ⊢
                    have HL9 := Lib.hid hl9
                    clear hl9
                    obtain ⟨W9, hW9⟩ : ∃ x : World, w9.setCell ⟨X, 2, none⟩ (.slice (some ⟨g9, 0, none⟩) L9.length cap9) = x := ⟨_, rfl⟩
                    rw [hW9] at x11 K11 HO11 ⊢
                    clear hW9 K9 HO9 x10 x8 hKK u0' u1' r0 r1 t2 v2 vf tA tM u0 u1 u2 uf p0 p1 p2 pf K7 HX7
                    obtain ⟨_, u0, u1, u2, uf, hX9⟩ := own3 (Below.refl W9.heap.size W9) (Array.getElem?_eq_some_iff.1 x11).1 x11
                    obtain ⟨p0, p1, p2⟩ := K11.out.cells
                    have pf := fun i => blk_frozen K11.out.1 i
                    have hPW9 := K11.out.lt
                    go_wp2_with fail
                    go_roundw
                    case rel =>
                      have KM := purse_move (c2 := c2) (s2 := s2) K11.out HO11.out
                      have hl9 := HL9.out
                      exact ⟨T + dt, N - 1, c2, s2, L9, _, cap9, rfl, by omega, by omega, by omega, by omega, by first | rfl | go_num, by omega, KM.2.2.1, KM.1, KM.2.1, KM.2.2.2.1, KM.2.2.2.2.1⟩
                    case measure => simp [intOf]; omega
                  exact AllReadyH.nil
                exact AllReadyH.nil
              exact AllReadyH.nil
            exact AllReadyH.nil
    · obtain rfl : N = 0 := by omega
      have K : Hid (PuK w g P c s L A cp wr) := Lib.hid ⟨hp, hr, HW.out, hcr, hG, hPw, hgw⟩
      clear hp hr HW hcr hG
      go_wp2_with fail
      refine (s_l01Below g 14 _ K.out.2.2.2.1 (by decide) (by decide)).mono ?_
      rintro e w4 ⟨k, k1, k2, rfl, hc4, hg4⟩
      have K4 := Lib.hid (K.out.draw hg4 hc4)
      clear hg4 hc4 K
      obtain ⟨p0, p1, p2⟩ := K4.out.cells
      have pf := fun i => blk_frozen K4.out.1 i
      obtain ⟨_, r0, r1, r2, rf, hR4⟩ := own3 (Below.refl w4.heap.size w4) (Array.getElem?_eq_some_iff.1 K4.out.2.1).1 K4.out.2.1
      have hRP : w.heap.size ≠ P := by omega
      have hPR : P ≠ w.heap.size := by omega
      have hl60 : L.length ≤ 60 := by omega
      have hcase : k = 0 ∨ k = 1 ∨ k = 2 ∨ k = 3 ∨ 4 ≤ k := by omega
      rcases hcase with rfl | rfl | rfl | rfl | hk
      · clear p0 p1 p2 pf r0 r1 r2 rf
        go_wp2_with fail
        refine (s_l01Raw g _ K4.out.2.2.2.1).mono ?_
        rintro e w5 ⟨v, v1, v2, rfl, hc5, hg5⟩
        have K5 := Lib.hid (K4.out.draw hg5 hc5)
        have K6 := K5.out.set0 v
        obtain ⟨p0, p1, p2⟩ := K5.out.cells
        have pf := fun i => blk_frozen K5.out.1 i
        obtain ⟨_, r0, r1, r2, rf, hR5⟩ := own3 (Below.refl w5.heap.size w5) (Array.getElem?_eq_some_iff.1 K5.out.2.1).1 K5.out.2.1
        go_wp2_with fail
        obtain ⟨q0, q1, q2⟩ := three_self (x := .int .i64 v) (y := .int .i64 s) (z := .slice A L.length cp) K6.2.1
        refine bodyPost_ret (v := .agg #[.int .i64 v, .int .i64 s, .slice A L.length cp]) (by simp [results, Try.results73, go_sem, q0, q1, q2]) rfl (K6.done (by omega))
      · clear p0 p1 p2 pf r0 r1 r2 rf
        go_wp2_with fail
        refine (s_l01Raw g _ K4.out.2.2.2.1).mono ?_
        rintro e w5 ⟨v, v1, v2, rfl, hc5, hg5⟩
        have K5 := Lib.hid (K4.out.draw hg5 hc5)
        have K6 := K5.out.set1 v
        obtain ⟨p0, p1, p2⟩ := K5.out.cells
        have pf := fun i => blk_frozen K5.out.1 i
        obtain ⟨_, r0, r1, r2, rf, hR5⟩ := own3 (Below.refl w5.heap.size w5) (Array.getElem?_eq_some_iff.1 K5.out.2.1).1 K5.out.2.1
        go_wp2_with fail
        obtain ⟨q0, q1, q2⟩ := three_self (x := .int .i64 c) (y := .int .i64 v) (z := .slice A L.length cp) K6.2.1
        refine bodyPost_ret (v := .agg #[.int .i64 c, .int .i64 v, .slice A L.length cp]) (by simp [results, Try.results73, go_sem, q0, q1, q2]) rfl (K6.done (by omega))
      · by_cases hL : 0 < L.length
        · obtain ⟨q, rfl, hPq, a0, a1, af⟩ := K4.out.open_ hL
          have i1 : (0 : Int) < (L.length : Int) := by omega
          go_wp2_with fail
          go_region_held3 (fun w' => w'.cell? ⟨P, 2, none⟩ = some (.slice (some ⟨q, 0, none⟩) L.length cp))
            ((repeat (first | (with_reducible assumption) | (with_reducible refine cell_undrew ?_) | (with_reducible refine cell_aside hPq ?_))))
            ((go_at_call 51; refine (s_l01Raw g w4.drew K4.out.drew.2.2.2.1).mono ?_; rintro e w5 ⟨v, v1, v2, rfl, hc5, hg5⟩; have K5 := Lib.hid (K4.out.drew.draw hg5 hc5); obtain ⟨t0, t1, t2⟩ := K5.out.cells; obtain ⟨q', hq', _, b0, b1, bf⟩ := K5.out.open_ hL; obtain rfl : q = q' := (by simpa using hq'); clear hc5 hg5 hq'))
          obtain ⟨L', hL', K6⟩ := K5.out.setCoin hL v
          rw [← hL'] at t2 ⊢
          obtain ⟨W6, hW6⟩ : ∃ x : World, w5.setCell ⟨q, 1, none⟩ (.int .i64 v) = x := ⟨_, rfl⟩
          rw [hW6] at K6 ⊢
          have KH := Lib.hid K6
          have HLL := Lib.hid hL'
          clear hL' p0 p1 p2 pf r0 r1 r2 rf a0 a1 af b0 b1 bf t0 t1 t2 hW6 K6
          obtain ⟨p0, p1, p2⟩ := KH.out.cells
          have pf := fun i => blk_frozen KH.out.1 i
          obtain ⟨_, r0, r1, r2, rf, hR5⟩ := own3 (Below.refl W6.heap.size W6) (Array.getElem?_eq_some_iff.1 KH.out.2.1).1 KH.out.2.1
          go_wp2_with fail
          obtain ⟨q0, q1, q2⟩ := three_self (x := .int .i64 c) (y := .int .i64 s) (z := .slice (some ⟨q, 0, none⟩) L'.length cp) KH.out.2.1
          refine bodyPost_ret (v := .agg #[.int .i64 c, .int .i64 s, .slice (some ⟨q, 0, none⟩) L'.length cp]) (by simp [results, Try.results73, go_sem, q0, q1, q2]) rfl (KH.out.done (by have := HLL.out; omega))
        · have hnil := List.eq_nil_of_length_eq_zero (show L.length = 0 by omega)
          subst hnil
          rw [show ([] : List Coin).length = 0 from rfl] at p2
          go_wp2_with fail
          obtain ⟨q0, q1, q2⟩ := three_self (x := .int .i64 c) (y := .int .i64 s) (z := .slice A 0 cp) K4.out.2.1
          refine bodyPost_ret (v := .agg #[.int .i64 c, .int .i64 s, .slice A 0 cp]) (by simp [results, Try.results73, go_sem, q0, q1, q2]) rfl (K4.out.done (by decide))
      · by_cases hL : 0 < L.length
        · obtain ⟨q, rfl, hPq, a0, a1, af⟩ := K4.out.open_ hL
          have i1 : (0 : Int) < (L.length : Int) := by omega
          go_wp2_with fail
          go_region_held3 (fun w' => w'.cell? ⟨P, 2, none⟩ = some (.slice (some ⟨q, 0, none⟩) L.length cp))
            ((repeat (first | (with_reducible assumption) | (with_reducible refine cell_undrew ?_) | (with_reducible refine cell_aside hPq ?_))))
            ((go_at_call 51; refine (s_l01Raw g w4.drew K4.out.drew.2.2.2.1).mono ?_; rintro e w5 ⟨v, v1, v2, rfl, hc5, hg5⟩; have K5 := Lib.hid (K4.out.drew.draw hg5 hc5); obtain ⟨t0, t1, t2⟩ := K5.out.cells; obtain ⟨q', hq', _, b0, b1, bf⟩ := K5.out.open_ hL; obtain rfl : q = q' := (by simpa using hq'); clear hc5 hg5 hq'))
          obtain ⟨L', hL', K6⟩ := K5.out.setCoinAt hL v
          rw [← hL'] at t2 ⊢
          obtain ⟨W6, hW6⟩ : ∃ x : World, w5.setCell ⟨q, 0, none⟩ (.int .i64 v) = x := ⟨_, rfl⟩
          rw [hW6] at K6 ⊢
          have KH := Lib.hid K6
          have HLL := Lib.hid hL'
          clear hL' p0 p1 p2 pf r0 r1 r2 rf a0 a1 af b0 b1 bf t0 t1 t2 hW6 K6
          obtain ⟨p0, p1, p2⟩ := KH.out.cells
          have pf := fun i => blk_frozen KH.out.1 i
          obtain ⟨_, r0, r1, r2, rf, hR5⟩ := own3 (Below.refl W6.heap.size W6) (Array.getElem?_eq_some_iff.1 KH.out.2.1).1 KH.out.2.1
          go_wp2_with fail
          obtain ⟨q0, q1, q2⟩ := three_self (x := .int .i64 c) (y := .int .i64 s) (z := .slice (some ⟨q, 0, none⟩) L'.length cp) KH.out.2.1
          refine bodyPost_ret (v := .agg #[.int .i64 c, .int .i64 s, .slice (some ⟨q, 0, none⟩) L'.length cp]) (by simp [results, Try.results73, go_sem, q0, q1, q2]) rfl (KH.out.done (by have := HLL.out; omega))
        · have hnil := List.eq_nil_of_length_eq_zero (show L.length = 0 by omega)
          subst hnil
          rw [show ([] : List Coin).length = 0 from rfl] at p2
          go_wp2_with fail
          obtain ⟨q0, q1, q2⟩ := three_self (x := .int .i64 c) (y := .int .i64 s) (z := .slice A 0 cp) K4.out.2.1
          refine bodyPost_ret (v := .agg #[.int .i64 c, .int .i64 s, .slice A 0 cp]) (by simp [results, Try.results73, go_sem, q0, q1, q2]) rfl (K4.out.done (by decide))
      · have t0 : (k == 0) = false := by simp; omega
        have t1 : (k == 1) = false := by simp; omega
        have t2 : (k == 2) = false := by simp; omega
        have t3 : (k == 3) = false := by simp; omega
        go_wp2_with fail
        obtain ⟨q0, q1, q2⟩ := three_self (x := .int .i64 c) (y := .int .i64 s) (z := .slice A L.length cp) K4.out.2.1
        refine bodyPost_ret (v := .agg #[.int .i64 c, .int .i64 s, .slice A L.length cp]) (by simp [results, Try.results73, go_sem, q0, q1, q2]) rfl (K4.out.done (by omega))
end Go.Proofs.Ytplchgkppkibnaa
