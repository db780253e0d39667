/- More plain ground: a slice that is copied whole, a cell of an owned slice that is written. -/
import Derived.Test.YtgpledgjpjifcaaGreatDoorBase
import Derived.Laws.AppendOwnNone
namespace Go.Proofs.YtgpledgjpjifcaaGreatDoor
open Go.RowKit Go.Deep

theorem wpList_append_empty {P : Program} {w : World} {ops : Array Oper} {rest : List Oper} {o : Oper} {a : Act} {Q : Exit → Act → World → Prop} (hgd : o.guard = none) (s x : Operand) (t : TypeId)
    (ho : o.op = .call { callee := .builtin .append, args := #[s, x], argTypes := #[t, t] })
    (e : TypeId) (i : TypeInfo) (ht : P.underlying t = some (.slice e)) (hi : P.info? e = some i)
    (A : Option Addr) (c : Nat) (hs : a.eval s = .slice none 0 0) (hx : a.eval x = .slice A 0 c)
    (h : wpList P ops Q rest (a.put o.dst (.slice none 0 0)) w) : wpList P ops Q (o :: rest) a w := by
  refine wpList_plain hgd fun K hK => ?_
  have hrun : (Builtin.append_ #[t, t] o.type #[.slice none 0 0, .slice A 0 c]).run P w = .ok (.slice none 0 0) w := by
    cases A <;> simp [Builtin.append_, run_underlying ht, sizeOf, typeInfo, hi, Builtin.lenOf, Builtin.firstCells, loadCells, loadCellsFrom]
  unfold Oper.wp
  simp [execOp, ho, resolve, invoke, builtin, hs, hx, hrun, Result.andThen]
  exact hK _ _ h

section
variable {w : World} {B size : Nat} {A : Option Addr} {rows : List (List Value)}
/-- The cells of a slice that is read, one after the other. -/
theorem Rd.flat (h : Rd w B size A rows) (hs : 0 < size) (hn : 0 < rows.length) : ∃ b off, A = some ⟨b, off, none⟩ ∧ b < B ∧ ∀ j u, rows.flatten[j]? = some u → w.cell? ⟨b, off + j, none⟩ = some u := by
  obtain ⟨b, off, e, hb, hc⟩ := h.2 hn
  refine ⟨b, off, e, hb, fun j u hu => ?_⟩
  have hj : j < rows.length * size := by
    have := (List.getElem?_eq_some_iff.1 hu).1
    rwa [flatten_size rows size h.1] at this
  have hi : j / size < rows.length := (Nat.div_lt_iff_lt_mul hs).2 hj
  have e1 : rows[j / size]? = some rows[j / size] := List.getElem?_eq_getElem hi
  have e2 := flatten_get rows size h.1 (j / size) (j % size) _ e1 (Nat.mod_lt _ hs)
  rw [Nat.div_add_mod' j size, hu] at e2
  have := hc (j / size) _ (j % size) u e1 e2.symm
  rwa [Nat.add_assoc, Nat.div_add_mod' j size] at this
end

theorem Rd.take {w : World} {B size : Nat} {A : Option Addr} {rows : List (List Value)} (h : Rd w B size A rows) (k : Nat) : Rd w B size A (rows.take k) :=
  ⟨fun r hr => h.1 r (List.mem_of_mem_take hr), fun hn => by
    obtain ⟨b, off, e, hb, hc⟩ := h.2 (by rw [List.length_take] at hn; omega)
    refine ⟨b, off, e, hb, fun i r j v h1 h2 => hc i r j v ?_ h2⟩
    rw [List.getElem?_take] at h1
    split at h1
    · exact h1
    · cases h1⟩
/-- append(nil, l...): a new slice of the same rows. -/
theorem wpList_copy_rows {P : Program} {w : World} {ops : Array Oper} {rest : List Oper} {o : Oper} {a : Act} {Q : Exit → Act → World → Prop} (hgd : o.guard = none) (s x : Operand) (t : TypeId)
    (ho : o.op = .call { callee := .builtin .append, args := #[s, x], argTypes := #[t, t] })
    (e : TypeId) (i : TypeInfo) (z : Value) (size bytes : Nat) (ht : P.underlying t = some (.slice e)) (hi : P.info? e = some i) (hz : i.zero = some z)
    (hsize : i.size = size) (hby : i.bytes = bytes) (hzs : z.cells.size = size) (hsz : 0 < size) (hb4 : bytes ≤ 4096)
    (A : Option Addr) (c : Nat) (rows : List (List Value)) (hs : a.eval s = .slice none 0 0) (hx : a.eval x = .slice A rows.length c) (hr : Rd w w.heap.size size A rows)
    (h1 : ∀ u ∈ rows.flatten, u.oneCell' = true) (hlen : rows.length ≤ 4194304)
    (h : ∀ A' cap w', Ow w' w.heap.size e size (.slice A' rows.length cap) rows → Below w.heap.size w w' → wpList P ops Q rest (a.put o.dst (.slice A' rows.length cap)) w') : wpList P ops Q (o :: rest) a w := by
  by_cases hn : 0 < rows.length
  · obtain ⟨b, off, rfl, hb, hc⟩ := hr.flat hsz hn
    refine wpList_append_lies w hgd s x t ho w.heap.size e i z size bytes ht hi hz hsize hby hzs hsz (.slice none 0 0) 0 [] hs (World.ownsRow_nil _ _ _ _) ⟨b, off, none⟩ rows.length c rows.flatten hx (flatten_size rows size hr.1)
      (fun j u hu => by
        have := hc j u hu
        rwa [show (⟨b, off, none⟩ : Addr).add j = ⟨b, off + j, none⟩ by unfold Addr.add; split <;> simp_all]) h1 hn (by simp only [maxLen]; omega)
      (by
        have : (0 + rows.length) * bytes ≤ 4194304 * 4096 := Nat.mul_le_mul (by omega) hb4
        omega) (Nat.le_refl _) w.heap.size rfl ?_
    intro g cap w' hown hgr _ _
    rw [Nat.zero_add, List.nil_append] at hown
    rw [Nat.zero_add]
    exact h _ _ _ ⟨hr.1, hown⟩ ⟨hgr.os, hgr.tape, hgr.output, hgr.size, fun k hk => hgr.block k hk (by simp [Value.ownBlock])⟩
  · have h0 : rows = [] := List.eq_nil_of_length_eq_zero (by omega)
    subst h0
    exact wpList_append_empty hgd s x t ho e i ht hi A c hs hx (h none 0 w Ow.nil_ (Below.refl _ _))

theorem set_flatten : ∀ (rows : List (List Value)) (size i j : Nat) (r : List Value) (u : Value), (∀ r ∈ rows, r.length = size) → rows[i]? = some r → j < size → rows.flatten.set (i * size + j) u = (rows.set i (r.set j u)).flatten
  | [], _, _, _, _, _, _, h, _ => by simp at h
  | r0 :: rows, size, 0, j, r, u, hu, h, hj => by
    simp only [List.getElem?_cons_zero, Option.some.injEq] at h
    subst h
    have h0 := hu r0 (by simp)
    rw [List.flatten_cons, Nat.zero_mul, Nat.zero_add, List.set_append_left _ _ (by omega), List.set_cons_zero, List.flatten_cons]
  | r0 :: rows, size, i + 1, j, r, u, hu, h, hj => by
    have h0 := hu r0 (by simp)
    have e : (i + 1) * size + j - r0.length = i * size + j := by rw [h0, Nat.succ_mul]; omega
    rw [List.flatten_cons, List.set_append_right _ _ (by rw [h0, Nat.succ_mul]; omega), e, set_flatten rows size i j r u (fun r hr => hu r (by simp [hr])) (by simpa using h) hj, List.set_cons_succ, List.flatten_cons]
section
variable {w : World} {B size g n cap : Nat} {e : TypeId} {rows : List (List Value)}
theorem Ow.cellAt (h : Ow w B e size (.slice (some ⟨g, 0, none⟩) n cap) rows) {i j : Nat} {r : List Value} (hi : rows[i]? = some r) (hj : j < size) : w.cell? ⟨g, i * size + j, none⟩ = r[j]? := by
  have hn : n = rows.length := by
    obtain ⟨A, cap', e1, _⟩ := h.form
    injection e1
  subst hn
  have hi' := (List.getElem?_eq_some_iff.1 hi).1
  rw [h.2.cellAt (i * size + j) (by have := Nat.mul_le_mul_right size hi'; rw [Nat.succ_mul] at this; omega)]
  exact flatten_get rows size h.1 i j r hi hj
theorem Ow.frozenAt (h : Ow w B e size (.slice (some ⟨g, 0, none⟩) n cap) rows) (j : Nat) : w.frozen? ⟨g, j, none⟩ = false := by
  have hn : n = rows.length := by
    obtain ⟨A, cap', e1, _⟩ := h.form
    injection e1
  subst hn
  exact h.2.frozenAt j
theorem Ow.stored (h : Ow w B e size (.slice (some ⟨g, 0, none⟩) n cap) rows) {i j : Nat} {r : List Value} (hi : rows[i]? = some r) (hj : j < size) (u : Value) :
    Ow (w.setCell ⟨g, i * size + j, none⟩ u) B e size (.slice (some ⟨g, 0, none⟩) n cap) (rows.set i (r.set j u)) := by
  have hn : n = rows.length := by
    obtain ⟨A, cap', e1, _⟩ := h.form
    injection e1
  subst hn
  refine ⟨fun r' hr' => ?_, ?_⟩
  · rcases List.mem_or_eq_of_mem_set hr' with h1 | h1
    · exact h.1 _ h1
    · subst h1
      rw [List.length_set]
      exact h.1 r (List.mem_of_getElem? hi)
  · rw [List.length_set, ← set_flatten rows size i j r u h.1 hi hj]
    exact (h.2.stored (i * size + j) u).1
theorem Ow.drew (h : Ow w B e size (.slice (some ⟨g, 0, none⟩) n cap) rows) : Ow w.drew B e size (.slice (some ⟨g, 0, none⟩) n cap) rows := h
end
theorem Ow.empty_ {w : World} {B size g : Nat} {e : TypeId} (hg : g = w.heap.size) (hB : B ≤ g) : Ow (w.alloc (.cells #[] e)) B e size (.slice (some ⟨g, 0, none⟩) 0 0) [] := by
  subst hg
  exact ⟨by simp, World.ownsRow_lit w #[] 0 hB (Nat.zero_le _) (by simp)⟩
end Go.Proofs.YtgpledgjpjifcaaGreatDoor
