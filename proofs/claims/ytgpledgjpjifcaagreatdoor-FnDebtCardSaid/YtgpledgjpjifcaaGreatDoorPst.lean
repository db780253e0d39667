/- Slices of postings: a posting's lines lie in a slice of their own. Plain. -/
import Derived.Test.YtgpledgjpjifcaaGreatDoorRows
import Derived.Test.YtgpledgjpjifcaaGreatDoorLedgerF
import Derived.Test.YtgpledgjpjifcaaGreatDoorLedgerM
import Derived.Test.YtgpledgjpjifcaaGreatDoorLed
namespace Go.Proofs.YtgpledgjpjifcaaGreatDoor
open Go.ChangeShapes Go.WideShapes Go.ChangeAt Go.RowKit Go.Joins Go.Deep

structure Pst where
  Id : Int
  A : Option Addr
  cap : Nat
  L : List Line
instance : Inhabited Pst := ⟨⟨0, none, 0, []⟩⟩
def Pst.cells (p : Pst) : List Value := [.int .i64 p.Id, .slice p.A p.L.length p.cap]
def Pst.pl (p : Pst) : Int × List Line := (p.Id, p.L)
def Pst.val (p : Pst) : Value := .slice p.A p.L.length p.cap
theorem Pst.uni (l : List Pst) : ∀ r ∈ l.map Pst.cells, r.length = 2 := by
  intro r hr
  obtain ⟨d, _, rfl⟩ := List.mem_map.1 hr
  rfl
def RdP (w : World) (B : Nat) (A : Option Addr) (ps : List Pst) : Prop := Rd w B 2 A (ps.map Pst.cells) ∧ ∀ p ∈ ps, Rd w B 3 p.A (p.L.map Line.cells)
section
variable {w w' : World} {B B' : Nat} {A : Option Addr} {ps : List Pst}
theorem RdP.below (h : RdP w B A ps) (hb : Below B w w') : RdP w' B A ps := ⟨h.1.below hb, fun p hp => (h.2 p hp).below hb⟩
theorem RdP.more (h : RdP w B A ps) (hB : B ≤ B') : RdP w B' A ps := ⟨h.1.more hB, fun p hp => (h.2 p hp).more hB⟩
theorem RdP.keep (h : RdP w B A ps) (hk : ∀ p : Addr, p.block < B → w'.cell? p = w.cell? p) : RdP w' B A ps := ⟨h.1.keep hk, fun p hp => (h.2 p hp).keep hk⟩
theorem RdP.at_ (h : RdP w B A ps) {k : Nat} (hk : k < ps.length) :
    ∃ b off, A = some ⟨b, off, none⟩ ∧ b < B ∧ w.cell? ⟨b, off + k * 2, none⟩ = some (.int .i64 ps[k].Id) ∧ w.cell? ⟨b, off + k * 2 + 1, none⟩ = some (.slice ps[k].A ps[k].L.length ps[k].cap) := by
  obtain ⟨b, off, e, hb, hc⟩ := h.1.2 (by rw [List.length_map]; omega)
  have hk' : (ps.map Pst.cells)[k]? = some ps[k].cells := by rw [List.getElem?_map, List.getElem?_eq_getElem hk]; rfl
  exact ⟨b, off, e, hb, hc k _ 0 _ hk' rfl, hc k _ 1 _ hk' rfl⟩
theorem RdP.lines (h : RdP w B A ps) {k : Nat} (hk : k < ps.length) : Rd w B 3 ps[k].A (ps[k].L.map Line.cells) := h.2 _ (List.getElem_mem hk)
theorem RdP.nil_ : RdP w B A [] := ⟨Rd.nil_, by simp⟩
end
/-- Each posting's lines lie in a block of the call's own, later ones in later blocks. -/
def OwL (w : World) (B : Nat) (ps : List Pst) : Prop :=
  (∀ p ∈ ps, Ow w B 84 3 p.val (p.L.map Line.cells)) ∧ ps.Pairwise fun p q => ∀ i j, p.val.ownBlock = some i → q.val.ownBlock = some j → i < j
def OwP (w : World) (B : Nat) (A : Option Addr) (cap : Nat) (ps : List Pst) : Prop := Ow w B 45 2 (.slice A ps.length cap) (ps.map Pst.cells) ∧ OwL w B ps
section
variable {w w' : World} {B B' : Nat} {A : Option Addr} {cap : Nat} {ps : List Pst}
theorem OwL.below (h : OwL w B ps) (hb : Below w.heap.size w w') : OwL w' B ps := ⟨fun p hp => (h.1 p hp).below hb, h.2⟩
theorem OwL.more (h : OwL w B ps) (hB : B' ≤ B) : OwL w B' ps := ⟨fun p hp => (h.1 p hp).more hB, h.2⟩
theorem OwL.nil_ : OwL w B [] := ⟨by simp, .nil⟩
theorem OwL.far (h : OwL w B ps) {a : Addr} (ha : a.block < B) (u : Value) : OwL (w.setCell a u) B ps := ⟨fun p hp => (h.1 p hp).far ha u, h.2⟩
theorem OwL.alloc (h : OwL w B ps) (o : Obj) : OwL (w.alloc o) B ps := ⟨fun p hp => (h.1 p hp).alloc o, h.2⟩
theorem OwP.below (h : OwP w B A cap ps) (hb : Below w.heap.size w w') : OwP w' B A cap ps := ⟨h.1.below hb, h.2.below hb⟩
theorem OwP.more (h : OwP w B A cap ps) (hB : B' ≤ B) : OwP w B' A cap ps := ⟨h.1.more hB, h.2.more hB⟩
theorem OwP.rd (h : OwP w B A cap ps) : RdP w w.heap.size A ps := ⟨h.1.rd, fun p hp => (h.2.1 p hp).rd⟩
theorem OwP.nil_ : OwP w B none 0 [] := ⟨Ow.nil_, OwL.nil_⟩
theorem OwL.lt (h : OwL w B ps) {p : Pst} (hp : p ∈ ps) {i : Nat} (hi : p.val.ownBlock = some i) : B ≤ i ∧ i < w.heap.size := (h.1 p hp).block i hi
/-- One more posting, whose lines are new. -/
theorem OwL.push {q : Pst} (h : OwL w B ps) (hb : Below w.heap.size w w') (hq : Ow w' w.heap.size 84 3 q.val (q.L.map Line.cells)) (hB : B ≤ w.heap.size) : OwL w' B (ps ++ [q]) := by
  refine ⟨fun p hp => ?_, ?_⟩
  · rcases List.mem_append.1 hp with hp | hp
    · exact (h.1 p hp).below hb
    · rw [List.mem_singleton.1 hp]
      exact hq.more hB
  · rw [List.pairwise_append]
    refine ⟨h.2, .cons (by simp) .nil, fun p hp r hr i j hi hj => ?_⟩
    rw [List.mem_singleton.1 hr] at hj
    have h1 := h.lt hp hi
    have h2 := hq.block j hj
    omega
end
/-- Outside the blocks from B to C nothing has turned. -/
structure Inside (w w' : World) (B C : Nat) : Prop where
  os : w'.os = w.os
  tape : w'.tape = w.tape
  output : w'.output = w.output
  size : w.heap.size ≤ w'.heap.size
  block : ∀ k, k < w.heap.size → (k < B ∨ C ≤ k) → w'.heap[k]? = w.heap[k]?
section
variable {w w' w'' : World} {B C : Nat}
theorem Inside.refl (w : World) (B C : Nat) : Inside w w B C := ⟨rfl, rfl, rfl, Nat.le_refl _, fun _ _ _ => rfl⟩
theorem Inside.trans (h : Inside w w' B C) (k : Inside w' w'' B C) : Inside w w'' B C :=
  ⟨k.os.trans h.os, k.tape.trans h.tape, k.output.trans h.output, Nat.le_trans h.size k.size, fun i hi ho => (k.block i (Nat.lt_of_lt_of_le hi h.size) ho).trans (h.block i hi ho)⟩
theorem Inside.of_grown {r : Option Nat} (h : w.grownBy w' r) (hr : ∀ k, r = some k → B ≤ k ∧ k < C) : Inside w w' B C :=
  ⟨h.os, h.tape, h.output, h.size, fun i hi ho => h.block i hi (fun e => by have := hr i e.symm; omega)⟩
theorem Inside.below (h : Inside w w' B C) {a : World} {D : Nat} (hb : Below D a w) (hD : D ≤ B) (hDs : D ≤ a.heap.size) : Below D a w' :=
  ⟨h.os.trans hb.os, h.tape.trans hb.tape, h.output.trans hb.output, Nat.le_trans hb.size h.size, fun k hk => (h.block k (by have := hb.size; omega) (.inl (by omega))).trans (hb.block k hk)⟩
theorem Ow.inside {D size : Nat} {e : TypeId} {v : Value} {rows : List (List Value)} (h : Ow w D e size v rows) (hi : Inside w w' B C) (hv : ∀ k, v.ownBlock = some k → k < B ∨ C ≤ k) : Ow w' D e size v rows := by
  refine ⟨h.1, h.2.1, ?_⟩
  rcases h.2.2 with hn | ⟨g, cap, cur, rfl, hg, hh, r⟩
  · exact .inl hn
  · exact .inr ⟨g, cap, cur, rfl, hg, (hi.block g (Array.getElem?_eq_some_iff.1 hh).1 (hv g rfl)).trans hh, r⟩
end
/-- The numbers of cells. -/
def totP (ps : List Pst) : Nat := (ps.map fun p => p.L.length).sum
theorem totP_nil : totP [] = 0 := rfl
theorem totP_cons (p : Pst) (ps : List Pst) : totP (p :: ps) = p.L.length + totP ps := by simp [totP]
theorem totP_drop {ps : List Pst} {k : Nat} (hk : k < ps.length) : totP (ps.drop k) = ps[k].L.length + totP (ps.drop (k + 1)) := by
  rw [List.drop_eq_getElem_cons hk, totP_cons]
theorem totP_mem {ps : List Pst} {p : Pst} (hp : p ∈ ps) : p.L.length ≤ totP ps := by
  induction ps with
  | nil => cases hp
  | cons q ps ih =>
    rw [totP_cons]
    rcases List.mem_cons.1 hp with rfl | hp
    · omega
    · have := ih hp; omega
theorem totP_pl (ps : List Pst) : totP ps = ((ps.map Pst.pl).map fun p => p.2.length).sum := by
  simp [totP, List.map_map, Function.comp_def, Pst.pl]
theorem pl_length {ps qs : List Pst} (h : qs.map Pst.pl = ps.map Pst.pl) : qs.length = ps.length := by
  have := congrArg List.length h
  simpa using this
theorem pl_get {ps qs : List Pst} (h : qs.map Pst.pl = ps.map Pst.pl) {k : Nat} (h1 : k < qs.length) (h2 : k < ps.length) : qs[k].Id = ps[k].Id ∧ qs[k].L = ps[k].L := by
  have : (qs.map Pst.pl)[k]? = (ps.map Pst.pl)[k]? := by rw [h]
  rw [List.getElem?_map, List.getElem?_map, List.getElem?_eq_getElem h1, List.getElem?_eq_getElem h2] at this
  injection this with this
  injection this with a b
  exact ⟨a, b⟩
/-! ### Postings that come in -/
theorem rdP_of_trod {H : Type} {enc : TypeId × Value → H} {P : Program} {w : World} {base : Nat} {spare : Nat → Bool} {held : Bool} {t e te : TypeId} {fuel : Nat} {f0 f1 : Field} {A : Option Addr} {len cap : Nat} {x : DataW H × List MemPlace}
    (hu : P.underlying t = some (.slice e)) (hs : P.underlying e = some (.struct #[f0, f1])) (hone : oneCellFields P #[f0, f1] = true) (hC : P.cellsOf e = 2) (h0 : P.underlying f0.type = some (.int .i64)) (h1 : P.underlying f1.type = some (.slice te))
    (hk : kinds P 4 te = some [true, true, true]) (hc : P.cellsOf te = 3) (h : DataW.trod enc P w base spare held fuel t [.slice A len cap] = some x) :
    ∃ ps : List Pst, ps.length = len ∧ RdP w w.heap.size A ps ∧ (∀ p ∈ ps, p.L.length ≤ maxLen) ∧ len ≤ cap ∧ cap ≤ maxLen := by
  rcases open_slice hu h with ⟨hcs, _⟩ | ⟨a, len', cap', m, m', D, Pl, hcs, _, hl, hm, hmm, _, hi⟩
  · simp only [List.cons.injEq, Value.slice.injEq, and_true] at hcs
    obtain ⟨rfl, rfl, rfl⟩ := hcs
    exact ⟨[], rfl, RdP.nil_, by simp, Nat.le_refl _, Nat.zero_le _⟩
  · simp only [List.cons.injEq, Value.slice.injEq, and_true] at hcs
    obtain ⟨rfl, rfl, rfl⟩ := hcs
    have hlm : len ≤ m := by rw [hmm]; split <;> omega
    obtain ⟨R, hR⟩ := choose_lt (n := len) (p := fun i (r : Pst) => Rd w w.heap.size 3 r.A (r.L.map Line.cells) ∧ r.L.length ≤ maxLen ∧ ∀ j, j < 2 → w.cell? (a.add (i * 2 + j)) = r.cells[j]?) (fun i hil => by
      obtain ⟨cs', k1, k2⟩ := hi i (by omega)
      rw [hC] at k1
      obtain ⟨_, hl', hcell⟩ := World.cells?_some k1
      obtain ⟨xs, n, _, hx, hlx, hlen, hg⟩ := DataW.trod_struct hs k2
      obtain ⟨o0, c0⟩ := hone_of hone 0 f0 rfl
      obtain ⟨o1, c1⟩ := hone_of hone 1 f1 rfl
      match cs', hl' with
      | [u0, u1], _ =>
        match xs, hlen with
        | [y0, y1], _ =>
          have g0 : DataW.trod enc P w base spare held n f0.type [u0] = some y0 := by simpa [o0, c0] using hg 0 f0 rfl
          have g1 : DataW.trod enc P w base spare held n f1.type [u1] = some y1 := by simpa [o1, c1] using hg 1 f1 rfl
          obtain ⟨z, e0, _, _⟩ := DataW.trod_int h0 g0
          simp only [List.cons.injEq, and_true] at e0
          obtain ⟨A1, len1, cap1, rows, e1, hl1, hf1, hr1, hlc, hcm⟩ := rd_of_trod' (n := 4) (ks := [true, true, true]) h1 hk hc (by decide) g1
          obtain ⟨L, rfl, _⟩ := rows_of Line.cells (fun _ => True) rows (fun r hr => Line.of_flat (hf1 r hr))
          rw [List.length_map] at hl1
          subst hl1
          refine ⟨⟨z, A1, cap1, L⟩, hr1, Nat.le_trans hlc hcm, fun j hj => ?_⟩
          rw [← add_add, hcell j (by simpa using hj), e0, e1]
          rfl)
    refine ⟨(List.range len).map R, by simp, ⟨⟨Pst.uni _, fun hn => ?_⟩, ?_⟩, ?_, hl, hm⟩
    · simp only [List.length_map, List.length_range] at hn
      obtain ⟨_, _, hcell⟩ := hR 0 hn
      obtain ⟨b, off, spot⟩ := a
      have hcl := hcell 0 (by decide)
      have hspot : spot = none := by simpa [Addr.add] using World.cell?_spot hcl
      subst hspot
      have hadd : ∀ k, (⟨b, off, none⟩ : Addr).add k = ⟨b, off + k, none⟩ := by intro k; unfold Addr.add; split <;> simp_all
      refine ⟨b, off, rfl, ?_, ?_⟩
      · rw [hadd] at hcl
        by_cases hb : b < w.heap.size
        · exact hb
        · simp [World.cell?, Array.getElem?_eq_none (show w.heap.size ≤ b by omega), Pst.cells] at hcl
      · intro i r j v hr hv
        have hil : i < len := by
          have := (List.getElem?_eq_some_iff.1 hr).1
          simpa using this
        have hr' : (R i).cells = r := by simpa [hil] using hr
        obtain ⟨_, _, hci⟩ := hR i hil
        have hj : j < 2 := by
          have := (List.getElem?_eq_some_iff.1 hv).1
          rw [← hr'] at this
          exact this
        have := hci j hj
        rw [hadd, hr', hv] at this
        rw [← this, Nat.add_assoc]
    · intro p hp
      obtain ⟨i, hi', rfl⟩ := List.mem_map.1 hp
      exact (hR i (List.mem_range.1 hi')).1
    · intro p hp
      obtain ⟨i, hi', rfl⟩ := List.mem_map.1 hp
      exact (hR i (List.mem_range.1 hi')).2.1
end Go.Proofs.YtgpledgjpjifcaaGreatDoor
