/- Events are applied one after the other: the reference's walk. -/
import Derived.Test.YtcjbjpobpefehaaRows
import Derived.Test.YtcjbjpobpefehaaVSApply
import Derived.Test.YtcjbjpobpefehaaVM1
namespace Go.Proofs.Ytcjbjpobpefehaa
open Go.RowKit Go.Deep
def LenOk (b : Bk) : Prop := b.cs.length ≤ 21 ∧ b.hs.length ≤ 61 ∧ b.os.length ≤ 21
theorem LenOk.zero : LenOk bk0 := ⟨by decide, by decide, by decide⟩
theorem lenOk_of {b : Bk} (h : b.ok = true) : LenOk b := by
  have hF := bookB_facts h
  exact ⟨Nat.le_trans hF.cl (by decide), Nat.le_trans hF.small.hl (by decide), Nat.le_trans hF.small.ol (by decide)⟩
theorem insC_len (c : Chan) (cs : List Chan) : (insC c cs).length = cs.length + 1 := by
  unfold insC
  rw [List.length_append, List.length_cons]
  have h := congrArg List.length (List.takeWhile_append_dropWhile (p := fun x : Chan => decide (x.Id < c.Id)) (l := cs))
  rw [List.length_append] at h
  omega
theorem setCh_len (cs : List Chan) (ch : Int) (f : Chan → Chan) : (setCh cs ch f).length = cs.length := List.length_modify ..
theorem stepS_len {b : Bk} {e : Event} (h : b.ok = true) : LenOk (stepS b e).b := by
  have hF := bookB_facts h
  have h1 := hF.cl
  have h2 := hF.small.hl
  have h3 := hF.small.ol
  have z : LenOk bk0 := LenOk.zero
  have hb : LenOk b := lenOk_of h
  have fh : ∀ p : Htlc → Bool, (b.hs.filter p).length ≤ 61 := fun p => Nat.le_trans (List.length_filter_le _ _) (by omega)
  have fo : ∀ p : Circle → Bool, (b.os.filter p).length ≤ 21 := fun p => Nat.le_trans (List.length_filter_le _ _) (by omega)
  have fc : ∀ p : Chan → Bool, (b.cs.filter p).length ≤ 21 := fun p => Nat.le_trans (List.length_filter_le _ _) (by omega)
  unfold stepS
  split
  · unfold depB; split
    · exact z
    · exact hb
  split
  · unfold openB; (repeat' split) <;> first | exact z | exact ⟨by simp only [done, insC_len]; omega, hb.2⟩
  split
  · unfold closeA closeB; (repeat' split) <;> first | exact z | exact ⟨fc _, hb.2⟩
  split
  · unfold priceB; (repeat' split) <;> first | exact z | exact ⟨by simp only [done, setCh_len]; omega, hb.2⟩
  split
  · unfold admitS; (repeat' split) <;> first | exact z | exact ⟨by simp only [done, zke]; omega, by simp only [done, List.length_append, List.length_singleton]; omega, hb.2.2⟩
  split
  · unfold settleS; (repeat' split) <;> first | exact z | exact ⟨by simp only [done, zke, setCh_len]; omega, fh _, hb.2.2⟩
  split
  · unfold settleS; (repeat' split) <;> first | exact z | exact ⟨by simp only [done, zke, setCh_len]; omega, fh _, hb.2.2⟩
  split
  · unfold tickB; split
    · exact z
    · refine ⟨?_, by simp only [done, List.length_map]; omega, hb.2.2⟩
      simp only [done]
      split
      · rw [List.length_map]; omega
      · omega
  split
  · unfold launchS; (repeat' split) <;> first | exact z | exact ⟨by simp only [done, zke]; omega, hb.2.1, by simp only [done, List.length_append, List.length_singleton]; omega⟩
  split
  · unfold landS; (repeat' split) <;> first | exact z | exact ⟨by simp only [done, zke]; omega, hb.2.1, fo _⟩
  · unfold landS; (repeat' split) <;> first | exact z | exact ⟨by simp only [done, zke]; omega, hb.2.1, fo _⟩
theorem applyS_len (b : Bk) (e : Event) : LenOk (applyS b e).b := by
  unfold applyS
  split
  · exact LenOk.zero
  · rename_i h
    split
    · exact LenOk.zero
    · refine stepS_len ?_
      cases h9 : b.ok
      · rw [h9] at h; exact absurd rfl h
      · rfl
theorem name_list {P : Program} {ops : Array Oper} {Q : Exit → Act → World → Prop} {l : List Oper} {a : Act} {w : World} (h : ∀ wq, wq = w → wpList P ops Q l a wq) : wpList P ops Q l a w := h w rfl
end Go.Proofs.Ytcjbjpobpefehaa
