/- Draws of lines that are spoilt; of postings. -/
import Derived.Test.YtgpledgjpjifcaaGreatDoorRows
import Derived.Test.YtgpledgjpjifcaaGreatDoorDrawM
namespace Go.Proofs.YtgpledgjpjifcaaGreatDoor
open Go.RowKit

/-- Outside the blocks of s nothing has turned. -/
structure Mvd (w w' : World) (s : Nat → Prop) : Prop where
  os : w'.os = w.os
  tape : w'.tape = w.tape
  output : w'.output = w.output
  size : w.heap.size ≤ w'.heap.size
  block : ∀ k, k < w.heap.size → ¬ s k → w'.heap[k]? = w.heap[k]?
section
variable {w w' w'' a : World} {s : Nat → Prop}
theorem Mvd.of_grown {g : Nat} (h : w.grownBy w' (some g)) (hs : s g) : Mvd w w' s := ⟨h.os, h.tape, h.output, h.size, fun k hk hn => h.block k hk (fun e => by injection e with e; subst e; exact hn hs)⟩
theorem Mvd.trans (h : Mvd a w s) (k : Mvd w w' s) : Mvd a w' s :=
  ⟨k.os.trans h.os, k.tape.trans h.tape, k.output.trans h.output, Nat.le_trans h.size k.size, fun i hi hn => (k.block i (Nat.lt_of_lt_of_le hi h.size) hn).trans (h.block i hi hn)⟩
theorem Mvd.set (h : Mvd a w s) {q : Nat} (hq : s q) (i : Nat) (u : Value) : Mvd a (w.setCell ⟨q, i, none⟩ u) s := h.trans (Mvd.of_grown (grown_set (World.grownBy.refl w (some q)) i u) hq)
theorem Mvd.refl (w : World) (s : Nat → Prop) : Mvd w w s := ⟨rfl, rfl, rfl, Nat.le_refl _, fun _ _ _ => rfl⟩
theorem Mvd.alloc (h : Mvd a w s) (o : Obj) : Mvd a (w.alloc o) s := h.trans ⟨rfl, rfl, rfl, by simp, fun _ hk _ => heap_past hk (by rw [Array.getElem?_eq_getElem hk]) |>.trans (by rw [Array.getElem?_eq_getElem hk])⟩
theorem Mvd.heap {n : Nat} {x : Obj} (h : Mvd w w' s) (hn : ¬ s n) (k : w.heap[n]? = some x) : w'.heap[n]? = some x := (h.block n (Array.getElem?_eq_some_iff.1 k).1 hn).trans k
/-- What has turned lies behind a's end, but for the cursor: then a has grown. -/
theorem Mvd.grown {g : Nat} (h : a.grownBy w (some g)) (k : Mvd w w' s) (hs : ∀ i, s i → i = g ∨ a.heap.size ≤ i) : a.grownBy w' (some g) :=
  ⟨k.os.trans h.os, k.tape.trans h.tape, k.output.trans h.output, Nat.le_trans h.size k.size, fun i hi hne => (k.block i (Nat.lt_of_lt_of_le hi h.size) (fun hc => (hs i hc).elim (fun e => hne (by rw [e])) (fun e => absurd hi (by omega)))).trans (h.block i hi hne)⟩
end
section
variable {w : World} {B q n cp : Nat} {e : TypeId} {L : List Line}
theorem Ow.putAmt (h : Ow w B e 3 (.slice (some ⟨q, 0, none⟩) n cp) (L.map Line.cells)) {m : Nat} (hm : m < L.length) (v : Int) : Ow (w.setCell ⟨q, m * 3 + 2, none⟩ (.int .i64 v)) B e 3 (.slice (some ⟨q, 0, none⟩) n cp) ((L.set m ⟨L[m].Kind, L[m].Ch, v⟩).map Line.cells) := by
  have hk : (L.map Line.cells)[m]? = some L[m].cells := by rw [List.getElem?_map, List.getElem?_eq_getElem hm]; rfl
  have := h.stored hk (j := 2) (by omega) (.int .i64 v)
  rw [List.map_set]
  exact this
theorem Ow.putAcc (h : Ow w B e 3 (.slice (some ⟨q, 0, none⟩) n cp) (L.map Line.cells)) {m : Nat} (hm : m < L.length) (a b : Int) : Ow ((w.setCell ⟨q, m * 3, none⟩ (.int .i64 a)).setCell ⟨q, m * 3 + 1, none⟩ (.int .i64 b)) B e 3 (.slice (some ⟨q, 0, none⟩) n cp) ((L.set m ⟨a, b, L[m].Amt⟩).map Line.cells) := by
  have hk : (L.map Line.cells)[m]? = some L[m].cells := by rw [List.getElem?_map, List.getElem?_eq_getElem hm]; rfl
  have h1 := h.stored hk (j := 0) (by omega) (.int .i64 a)
  have h2 := h1.stored (i := m) (j := 1) (r := L[m].cells.set 0 (.int .i64 a)) (by rw [List.getElem?_set_self (by simpa using hm)]) (by omega) (.int .i64 b)
  rw [List.set_set] at h2
  rw [List.map_set]
  exact h2
theorem Ow.putLine (h : Ow w B e 3 (.slice (some ⟨q, 0, none⟩) n cp) (L.map Line.cells)) {m : Nat} (hm : m < L.length) (a b c : Int) :
    Ow (((w.setCell ⟨q, m * 3, none⟩ (.int .i64 a)).setCell ⟨q, m * 3 + 1, none⟩ (.int .i64 b)).setCell ⟨q, m * 3 + 2, none⟩ (.int .i64 c)) B e 3 (.slice (some ⟨q, 0, none⟩) n cp) ((L.set m ⟨a, b, c⟩).map Line.cells) := by
  have h1 := h.putAcc hm a b
  have h2 := h1.putAmt (m := m) (by simpa using hm) c
  rw [List.set_set] at h2
  simp only [List.getElem_set_self] at h2
  exact h2
theorem Ow.shorter {A : Option Addr} {size : Nat} {rows : List (List Value)} (h : Ow w B e size (.slice A rows.length cp) rows) {m : Nat} (hm : m ≤ rows.length) : Ow w B e size (.slice A m cp) (rows.take m) := by
  have hlen : (rows.take m).length = m := by rw [List.length_take]; omega
  have hu : ∀ r ∈ rows.take m, r.length = size := fun r hr => h.1 r (List.mem_of_mem_take hr)
  refine ⟨hu, by rw [hlen]; rw [flatten_size _ size hu, hlen], ?_⟩
  rcases h.2.2 with ⟨hv, h0⟩ | ⟨g, cap, cur, hv, hg, hh, hn, hmx, hs, ht⟩
  · left
    injection hv with h1 _ h3
    subst h1 h3
    have : m = 0 := by omega
    subst this
    exact ⟨rfl, by simp⟩
  · right
    injection hv with h1 _ h3
    subst h1 h3
    refine ⟨g, cp, cur, by rw [hlen], hg, hh, by rw [hlen]; omega, hmx, hs, ?_⟩
    rw [hlen]
    have : rows.flatten.take (m * size) = (rows.take m).flatten := by
      conv => lhs; rw [← List.take_append_drop m rows, List.flatten_append]
      rw [List.take_append_of_le_length (by rw [flatten_size _ size hu, hlen]; exact Nat.le_refl _), List.take_of_length_le (by rw [flatten_size _ size hu, hlen]; exact Nat.le_refl _)]
    rw [← this, ← ht, List.take_take, Nat.min_eq_left (Nat.mul_le_mul_right _ hm)]
end
set_option maxRecDepth 100000 in
set_option maxHeartbeats 1000000 in
theorem s_l02Any (g : Nat) (L : List Line) (A : Option Addr) (cp : Nat) (w : World) (B : Nat) (hc : Crs w g) (hl : L.length ≤ 1000) (hgB : g < B) (ho : Ow w B 84 3 (.slice A L.length cp) (L.map Line.cells)) :
    Calls Tryz.prog 92 #[.pointer (some ⟨g, 0, none⟩), .slice A L.length cp] w fun e w' => ∃ (L' : List Line) (A' : Option Addr) (cap' : Nat), e = .returned (.slice A' L'.length cap') ∧ L'.length ≤ L.length ∧ Ow w' B 84 3 (.slice A' L'.length cap') (L'.map Line.cells) ∧ Crs w' g ∧ Mvd w w' (fun k => k = g ∨ (Value.slice A L.length cp).ownBlock = some k) := by
  have HO := Lib.hid ho
  clear ho
  by_cases hn : L.length = 0
  · have t0 : ((L.length : Int) == 0) = true := by simp [hn]
    go_enter Tryz.func92, Tryz.ntmps92
    go_wp2_with fail
    go_ret
    exact ⟨L, A, cp, rfl, Nat.le_refl _, HO.out, hc, Mvd.refl _ _⟩
  · have t0 : ((L.length : Int) == 0) = false := by simp [hn]
    obtain ⟨q, rfl, hqB, hqw⟩ : ∃ q, A = some ⟨q, 0, none⟩ ∧ B ≤ q ∧ q < w.heap.size := by
      rcases HO.out.open_ with ⟨h0, _⟩ | ⟨q, cap', hv, hB, _, hlt⟩
      · rw [List.map_eq_nil_iff] at h0
        subst h0
        exact absurd rfl hn
      · injection hv with hv
        exact ⟨q, hv, hB, hlt⟩
    obtain ⟨p, hp⟩ : ∃ p, L.length = p + 1 := ⟨L.length - 1, by omega⟩
    have hpl : p < L.length := by omega
    have HP := Lib.hid hp
    clear hp
    go_enter Tryz.func92, Tryz.ntmps92
    go_wp2_with fail
    refine (s_l01Below g L.length _ hc (by omega) (by omega)).mono ?_
    rintro e w1 ⟨x, x1, x2, rfl, hc1, hg1⟩
    have z1 := hg1.size
    obtain ⟨m, rfl⟩ : ∃ m : Nat, x = (m : Int) := ⟨x.toNat, by omega⟩
    have hml : m < L.length := by omega
    have HO1 := Lib.hid (HO.out.pastL hg1 hgB)
    have hM1 : Mvd w w1 (fun k => k = g ∨ (Value.slice (some ⟨q, 0, none⟩) L.length cp).ownBlock = some k) := Mvd.of_grown hg1 (.inl rfl)
    clear hg1 HO hc
    go_wp2_with fail
    refine (s_l01Below g 14 _ hc1 (by decide) (by decide)).mono ?_
    rintro e w2 ⟨k, k1, k2, rfl, hc2, hg2⟩
    have z2 := hg2.size
    have HO2 := Lib.hid (HO1.out.pastL hg2 hgB)
    have hM2 := hM1.trans (Mvd.of_grown hg2 (.inl rfl))
    clear hg2 hM1 hc1 HO1
    have i1 : (0 : Int) ≤ (m : Int) := by omega
    have i2 : (m : Int) < (L.length : Int) := by omega
    have hcase : k = 0 ∨ k = 1 ∨ k = 2 ∨ k = 3 ∨ 4 ≤ k := by omega
    have hqg : q ≠ g := by omega
    rcases hcase with rfl | rfl | rfl | rfl | hk
    · go_wp2_with fail
      refine (s_l01Raw g _ hc2).mono ?_
      rintro e w3 ⟨v, v1, v2, rfl, hc3, hg3⟩
      have HO3 := Lib.hid (HO2.out.pastL hg3 hgB)
      have hM3 := hM2.trans (Mvd.of_grown hg3 (.inl rfl))
      have hkc : (L.map Line.cells)[m]? = some L[m].cells := by rw [List.getElem?_map, List.getElem?_eq_getElem hml]; rfl
      have c2 := HO3.out.cellAt hkc (j := 2) (by omega)
      have ff := HO3.out.frozenAt
      simp only [Line.cells, List.getElem?_cons_succ, List.getElem?_cons_zero] at c2
      clear hkc hg3 hM2
      go_wp2_with fail
      go_ret
      refine ⟨L.set m ⟨L[m].Kind, L[m].Ch, v⟩, _, cp, by rw [List.length_set]; rfl, by simp, ?_, hc3.set (by omega), hM3.set (.inr rfl) _ _⟩
      rw [List.length_set]
      exact HO3.out.putAmt hml v
    · go_wp2_with fail
      refine (s_l02AnyAcc g _ hc2).mono ?_
      rintro e w3 ⟨a, b, rfl, hc3, hg3⟩
      have HO3 := Lib.hid (HO2.out.pastL hg3 hgB)
      have hM3 := hM2.trans (Mvd.of_grown hg3 (.inl rfl))
      have hkc : (L.map Line.cells)[m]? = some L[m].cells := by rw [List.getElem?_map, List.getElem?_eq_getElem hml]; rfl
      have c0 := HO3.out.cellAt hkc (j := 0) (by omega)
      have c1 := HO3.out.cellAt hkc (j := 1) (by omega)
      have ff := HO3.out.frozenAt
      simp only [Line.cells, List.getElem?_cons_succ, List.getElem?_cons_zero, Nat.add_zero] at c0 c1
      clear hkc hg3 hM2
      go_wp2_with fail
      go_ret
      refine ⟨L.set m ⟨a, b, L[m].Amt⟩, _, cp, by rw [List.length_set]; rfl, by simp, ?_, (hc3.set (by omega)).set (by omega), (hM3.set (.inr rfl) _ _).set (.inr rfl) _ _⟩
      rw [List.length_set]
      exact HO3.out.putAcc hml a b
    · have e1 : (L.length : Int) - 1 = (p : Int) := by have := HP.out; omega
      have e2 : IntKind.i64.wrap (p : Int) = (p : Int) := IntWalk.i64_in _ ⟨by omega, by omega⟩
      obtain ⟨_, _, hv, _, hcap, hmx⟩ := HO2.out.form
      have hcp : L.length ≤ cp := by injection hv with _ h2 h3; rw [List.length_map] at hcap; omega
      clear hv hcap
      go_wp2_with fail
      go_ret
      refine ⟨L.take p, some ⟨q, 0, none⟩, cp, ?_, by rw [List.length_take]; omega, ?_, hc2, hM2⟩
      · rw [List.length_take, Nat.min_eq_left (by omega)]
        rfl
      · rw [List.length_take, Nat.min_eq_left (by omega), List.map_take]
        have := HO2.out
        rw [show L.length = (L.map Line.cells).length by rw [List.length_map]] at this
        exact this.shorter (m := p) (by rw [List.length_map]; omega)
    · have e1 : (L.length : Int) - 1 = (p : Int) := by have := HP.out; omega
      have e2 : IntKind.i64.wrap (p : Int) = (p : Int) := IntWalk.i64_in _ ⟨by omega, by omega⟩
      have h0l : 0 < L.length := by omega
      have hk0 : (L.map Line.cells)[0]? = some L[0].cells := by rw [List.getElem?_map, List.getElem?_eq_getElem h0l]; rfl
      have hkp : (L.map Line.cells)[p]? = some L[p].cells := by rw [List.getElem?_map, List.getElem?_eq_getElem hpl]; rfl
      have d0 := HO2.out.cellAt hk0 (j := 0) (by omega)
      have d1 := HO2.out.cellAt hk0 (j := 1) (by omega)
      have d2 := HO2.out.cellAt hk0 (j := 2) (by omega)
      have c0 := HO2.out.cellAt hkp (j := 0) (by omega)
      have c1 := HO2.out.cellAt hkp (j := 1) (by omega)
      have c2 := HO2.out.cellAt hkp (j := 2) (by omega)
      have ff := HO2.out.frozenAt
      simp only [Line.cells, List.getElem?_cons_succ, List.getElem?_cons_zero, Nat.add_zero, Nat.zero_mul, Nat.zero_add] at d0 d1 d2 c0 c1 c2
      have hq2 : q < w2.heap.size := by omega
      have HX := Lib.hid (HO2.out.putLine h0l L[p].Kind L[p].Ch L[p].Amt)
      have HY := Lib.hid (HX.out.putLine (m := p) (by simpa using hpl) L[0].Kind L[0].Ch L[0].Amt)
      rw [Nat.zero_mul, Nat.zero_add, Nat.zero_add] at HY
      clear HX hk0 hkp
      have fin : Mvd w ((((((w2.setCell ⟨q, 0, none⟩ (.int .i64 L[p].Kind)).setCell ⟨q, 1, none⟩ (.int .i64 L[p].Ch)).setCell ⟨q, 2, none⟩ (.int .i64 L[p].Amt)).setCell ⟨q, p * 3, none⟩ (.int .i64 L[0].Kind)).setCell ⟨q, p * 3 + 1, none⟩ (.int .i64 L[0].Ch)).setCell ⟨q, p * 3 + 2, none⟩ (.int .i64 L[0].Amt)) (fun k => k = g ∨ (Value.slice (some ⟨q, 0, none⟩) L.length cp).ownBlock = some k) :=
        (((((hM2.set (.inr rfl) _ _).set (.inr rfl) _ _).set (.inr rfl) _ _).set (.inr rfl) _ _).set (.inr rfl) _ _).set (.inr rfl) _ _
      have FIN := Lib.hid fin
      have FC := Lib.hid ((((((hc2.set (b := q) (i := 0) (u := .int .i64 L[p].Kind) (by omega)).set (b := q) (i := 1) (u := .int .i64 L[p].Ch) (by omega)).set (b := q) (i := 2) (u := .int .i64 L[p].Amt) (by omega)).set (b := q) (i := p * 3) (u := .int .i64 L[0].Kind) (by omega)).set (b := q) (i := p * 3 + 1) (u := .int .i64 L[0].Ch) (by omega)).set (b := q) (i := p * 3 + 2) (u := .int .i64 L[0].Amt) (by omega))
      clear fin hM2 hc2
      have hlen : ((L.set 0 ⟨L[p].Kind, L[p].Ch, L[p].Amt⟩).set p ⟨L[0].Kind, L[0].Ch, L[0].Amt⟩).length = L.length := by rw [List.length_set, List.length_set]
      have HLEN := Lib.hid hlen
      clear hlen
      obtain ⟨P, hP⟩ : ∃ P, p * 3 = P := ⟨_, rfl⟩
      rw [hP] at c0 c1 c2 HY FIN FC
      have hP3 : P = 0 ∨ 3 ≤ P := by omega
      rcases hP3 with rfl | hP3
      · obtain rfl : p = 0 := by omega
        clear c0 c1 c2 hP
        go_wp2_with fail
        go_ret
        refine ⟨(L.set 0 ⟨L[0].Kind, L[0].Ch, L[0].Amt⟩).set 0 ⟨L[0].Kind, L[0].Ch, L[0].Amt⟩, _, cp, by rw [HLEN.out]; rfl, by rw [HLEN.out]; exact Nat.le_refl _, ?_, FC.out.alloc _, FIN.out.alloc _⟩
        rw [HLEN.out]
        exact HY.out.alloc _
      · go_wp2_with fail
        go_ret
        refine ⟨(L.set 0 ⟨L[p].Kind, L[p].Ch, L[p].Amt⟩).set p ⟨L[0].Kind, L[0].Ch, L[0].Amt⟩, _, cp, by rw [HLEN.out]; rfl, by rw [HLEN.out]; exact Nat.le_refl _, ?_, FC.out.alloc _, FIN.out.alloc _⟩
        rw [HLEN.out]
        exact HY.out.alloc _
    · have t1 : (k == 0) = false := by simp; omega
      have t2 : (k == 1) = false := by simp; omega
      have t3 : (k == 2) = false := by simp; omega
      have t4 : (k == 3) = false := by simp; omega
      go_wp2_with fail
      go_ret
      exact ⟨L, _, cp, rfl, Nat.le_refl _, HO2.out, hc2, hM2⟩
end Go.Proofs.YtgpledgjpjifcaaGreatDoor
