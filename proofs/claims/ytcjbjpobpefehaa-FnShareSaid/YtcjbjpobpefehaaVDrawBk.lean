/- Draws: a score, a book. -/
import Derived.Test.YtcjbjpobpefehaaRows
import Derived.Test.YtcjbjpobpefehaaVDrawEs
namespace Go.Proofs.Ytcjbjpobpefehaa
open Go.RowKit Go.Deep
theorem OwB.pastL {w w' : World} {B g : Nat} {b : Bk} {C1 C2 C3 : Option Addr} {q1 q2 q3 : Nat} (h : OwB w B b C1 C2 C3 q1 q2 q3) (hg : w.grownBy w' (some g)) (hB : g < B) : OwB w' B b C1 C2 C3 q1 q2 q3 := ⟨h.c.pastL hg hB, h.h.pastL hg hB, h.o.pastL hg hB⟩
theorem s_BookNew (w : World) : Calls Try.prog 36 #[] w fun e w' => e = .returned (.agg #[.int .i64 0, .int .i64 1, .int .i64 0, .slice none 0 0, .slice none 0 0, .slice none 0 0]) ∧ Below w.heap.size w w' := by
  go_enter Try.func36, Try.ntmps36
  go_wp2_with fail
  refine name_ret (fun wz hw => ?_)
  have hz : wz.heap[w.heap.size]? = some (.cells #[.int .i64 0, .int .i64 1, .int .i64 0, .slice none 0 0, .slice none 0 0, .slice none 0 0] 27 (0, 0)) := by rw [hw]; first | exact zxc rfl | exact zqa (zqa (zqa (zqa (zqa (zqa (zxc rfl))))))
  have hB : Below w.heap.size w wz := by rw [hw]; exact bl_
  clear hw
  have r0 : wz.cell? ⟨w.heap.size, 0, none⟩ = some (.int .i64 0) := zqb hz 0
  have r1 : wz.cell? ⟨w.heap.size, 1, none⟩ = some (.int .i64 1) := zqb hz 1
  have r2 : wz.cell? ⟨w.heap.size, 2, none⟩ = some (.int .i64 0) := zqb hz 2
  have r3 : wz.cell? ⟨w.heap.size, 3, none⟩ = some (.slice none 0 0) := zqb hz 3
  have r4 : wz.cell? ⟨w.heap.size, 4, none⟩ = some (.slice none 0 0) := zqb hz 4
  have r5 : wz.cell? ⟨w.heap.size, 5, none⟩ = some (.slice none 0 0) := zqb hz 5
  exact bodyPost_ret (v := .agg #[.int .i64 0, .int .i64 1, .int .i64 0, .slice none 0 0, .slice none 0 0, .slice none 0 0]) (by simp [results, Try.results36, go_sem, r0, r1, r2, r3, r4, r5]) rfl ⟨rfl, hB⟩
end Go.Proofs.Ytcjbjpobpefehaa
