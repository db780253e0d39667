/- append of one row at a step of a region that draws its order; cells behind new memory. Plain ground, no program in sight. -/
import Derived.Test.YtgpledgjpjifcaaGreatDoorBase
import Derived.Test.YtgpledgjpjifcaaGreatDoorBase2
import Derived.Deep.RegionHeld3
import Derived.Deep.AppendLies
namespace Go.Proofs.YtgpledgjpjifcaaGreatDoor
open Go.ChangeShapes Go.WideShapes Go.ChangeAt Go.RowKit Go.Deep

theorem step_app1 {P : Program} {w : World} {ops : Array Oper} {o : Oper} {a : Act} {K : Act → World → Prop} {Q : Exit → Act → World → Prop} {E : Prop} (hgd : o.guard = none) (s x : Operand) (t : TypeId)
    (ho : o.op = .call { callee := .builtin .append, args := #[s, x], argTypes := #[t, t] })
    (B : Nat) (e : TypeId) (i : TypeInfo) (z : Value) (size bytes : Nat) (ht : P.underlying t = some (.slice e)) (hi : P.info? e = some i) (hz : i.zero = some z)
    (hsize : i.size = size) (hby : i.bytes = bytes) (hzs : z.cells.size = size) (hsz : 0 < size)
    (v : Value) (rows : List (List Value)) (hs : a.eval s = v) (how : Ow w B e size v rows)
    (g0 c : Nat) (row : List Value) (e' : TypeId) (hx : a.eval x = .slice (some ⟨g0, 0, none⟩) 1 c) (hblk : w.heap[g0]? = some (.cells row.toArray e' (0, 0))) (hrow : row.length = size) (h1 : ∀ u ∈ row, u.oneCell' = true)
    (hlen : rows.length ≤ 4194304) (hbytes : bytes ≤ 4096) (hbase : B ≤ w.heap.size)
    (h : ∀ g cap w', Ow w' B e size (.slice (some ⟨g, 0, none⟩) (rows.length + 1) cap) (rows ++ [row]) → w.grownBy w' v.ownBlock → (v.ownBlock = some g ∨ g = w.heap.size) → g < w'.heap.size →
      K (a.put o.dst (.slice (some ⟨g, 0, none⟩) (rows.length + 1) cap)) w') : if Region.wanted o (yielded ops a.tmps) = true then Oper.wp P o a w K Q else E := by
  refine step_append_lies w hgd s x t ho B e i z size bytes ht hi hz hsize hby hzs hsz v rows.length rows.flatten hs how.2 ⟨g0, 0, none⟩ 1 c row hx (by rw [Nat.one_mul]; exact hrow)
    (by have := World.news_of_block hblk; simpa using this) h1 (by omega) (by unfold maxLen; omega) (by
      have : (rows.length + 1) * bytes ≤ 4194305 * 4096 := Nat.mul_le_mul (by omega) hbytes
      omega) hbase w.heap.size rfl ?_
  intro g cap w' hown hgr hat hlt
  refine h g cap w' ⟨?_, ?_⟩ hgr hat hlt
  · intro r hr
    rcases List.mem_append.1 hr with hr | hr
    · exact how.1 r hr
    · rw [List.mem_singleton.1 hr]
      exact hrow
  · have e1 : (rows ++ [row]).length = rows.length + 1 := by simp
    have e2 : (rows ++ [row]).flatten = rows.flatten ++ row := by simp
    rw [e1, e2]
    exact hown
theorem cell_past {w : World} {p : Addr} {v : Value} {o : Obj} (h : p.block < w.heap.size) (k : w.cell? p = some v) : (w.alloc o).cell? p = some v :=
  (((Below.refl w.heap.size w).alloc (Nat.le_refl _) o).cell h).trans k
theorem grown_undrew {w w' : World} {r : Option Nat} (h : w.drew.grownBy w' r) : w.grownBy w' r := ⟨h.os, h.tape, h.output, h.size, h.block⟩
theorem Ow.drew_ {w : World} {B size : Nat} {e : TypeId} {v : Value} {rows : List (List Value)} (h : Ow w B e size v rows) : Ow w.drew B e size v rows := h
end Go.Proofs.YtgpledgjpjifcaaGreatDoor
