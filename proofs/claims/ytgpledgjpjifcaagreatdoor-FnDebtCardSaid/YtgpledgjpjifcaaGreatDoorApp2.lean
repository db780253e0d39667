/- append of a whole slice at a step of a region that draws its order. Plain ground, no program in sight. -/
import Derived.Test.YtgpledgjpjifcaaGreatDoorApp
import Derived.Test.YtgpledgjpjifcaaGreatDoorBase2
namespace Go.Proofs.YtgpledgjpjifcaaGreatDoor
open Go.ChangeShapes Go.WideShapes Go.ChangeAt Go.RowKit Go.Deep

theorem step_append_none {P : Program} {w : World} {ops : Array Oper} {o : Oper} {a : Act} {K : Act → World → Prop} {Q : Exit → Act → World → Prop} {E : Prop} (hgd : o.guard = none) (s x : Operand) (t : TypeId)
    (ho : o.op = .call { callee := .builtin .append, args := #[s, x], argTypes := #[t, t] })
    (e : TypeId) (i : TypeInfo) (ht : P.underlying t = some (.slice e)) (hi : P.info? e = some i)
    (A0 : Option Addr) (n c0 : Nat) (hn : n ≤ c0) (A : Option Addr) (c : Nat) (hs : a.eval s = .slice A0 n c0) (hx : a.eval x = .slice A 0 c)
    (h : K (a.put o.dst (.slice A0 n c0)) w) : if Region.wanted o (yielded ops a.tmps) = true then Oper.wp P o a w K Q else E := by
  have hw : Region.wanted o (yielded ops a.tmps) = true := by simp [Region.wanted, hgd]
  rw [if_pos hw]
  have hrun : (Builtin.append_ #[t, t] o.type #[.slice A0 n c0, .slice A 0 c]).run P w = .ok (.slice A0 n c0) w := by
    cases A <;> cases A0 <;> simp [Builtin.append_, run_underlying ht, sizeOf, typeInfo, hi, Builtin.lenOf, Builtin.firstCells, loadCells, loadCellsFrom, storeCells, hn]
  unfold Oper.wp
  simp [execOp, ho, resolve, invoke, builtin, hs, hx, hrun, Result.andThen]
  exact h
theorem step_appN {P : Program} {w : World} {ops : Array Oper} {o : Oper} {a : Act} {K : Act → World → Prop} {Q : Exit → Act → World → Prop} {E : Prop} (hgd : o.guard = none) (s x : Operand) (t : TypeId)
    (ho : o.op = .call { callee := .builtin .append, args := #[s, x], argTypes := #[t, t] })
    (B : Nat) (e : TypeId) (i : TypeInfo) (z : Value) (size bytes : Nat) (ht : P.underlying t = some (.slice e)) (hi : P.info? e = some i) (hz : i.zero = some z)
    (hsize : i.size = size) (hby : i.bytes = bytes) (hzs : z.cells.size = size) (hsz : 0 < size)
    (A0 : Option Addr) (c0 : Nat) (rows : List (List Value)) (n : Nat) (hn : n = rows.length) (hs : a.eval s = .slice A0 n c0) (how : Ow w B e size (.slice A0 n c0) rows)
    (A : Option Addr) (c : Nat) (rows2 : List (List Value)) (m : Nat) (hm : m = rows2.length) (hx : a.eval x = .slice A m c) (B2 : Nat) (hr : Rd w B2 size A rows2) (h1 : ∀ u ∈ rows2.flatten, u.oneCell' = true)
    (hlen : rows.length + rows2.length ≤ 4194304) (hbytes : bytes ≤ 4096) (hbase : B ≤ w.heap.size)
    (h : ∀ A' cap w', Ow w' B e size (.slice A' (n + m) cap) (rows ++ rows2) → Below B w w' → w.grownBy w' (Value.slice A0 n c0).ownBlock → K (a.put o.dst (.slice A' (n + m) cap)) w') : if Region.wanted o (yielded ops a.tmps) = true then Oper.wp P o a w K Q else E := by
  subst hn
  subst hm
  obtain ⟨A1, cap1, hv, _, hcap, _⟩ := how.form
  simp only [Value.slice.injEq] at hv
  obtain ⟨rfl, _, rfl⟩ := hv
  by_cases hn : 0 < rows2.length
  · obtain ⟨b, off, rfl, hb, hc⟩ := hr.flat hsz hn
    refine step_append_lies w hgd s x t ho B e i z size bytes ht hi hz hsize hby hzs hsz (.slice A0 rows.length c0) rows.length rows.flatten hs how.2 ⟨b, off, none⟩ rows2.length c rows2.flatten hx (flatten_size rows2 size hr.1)
      (fun j u hu => by
        have := hc j u hu
        rwa [show (⟨b, off, none⟩ : Addr).add j = ⟨b, off + j, none⟩ by unfold Addr.add; split <;> simp_all]) h1 hn (by simp only [maxLen]; omega) (by
        have : (rows.length + rows2.length) * bytes ≤ 4194304 * 4096 := Nat.mul_le_mul hlen hbytes
        omega) hbase w.heap.size rfl ?_
    intro g cap w' hown hgr _ _
    refine h _ cap w' ⟨?_, ?_⟩ ((Below.refl B w).grown hgr hbase (fun k e => (how.block k e).1)) hgr
    · intro r hr'
      rcases List.mem_append.1 hr' with hr' | hr'
      · exact how.1 r hr'
      · exact hr.1 r hr'
    · rw [List.length_append, List.flatten_append]
      exact hown
  · have h0 : rows2 = [] := List.eq_nil_of_length_eq_zero (by omega)
    subst h0
    exact step_append_none hgd s x t ho e i ht hi A0 rows.length c0 hcap A c hs hx (h A0 c0 w (by rw [List.append_nil]; exact how) (Below.refl _ _) (World.grownBy.refl _ _))
end Go.Proofs.YtgpledgjpjifcaaGreatDoor
