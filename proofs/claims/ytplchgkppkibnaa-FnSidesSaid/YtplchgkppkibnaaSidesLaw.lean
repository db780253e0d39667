/- Both sides of a sound ledger are equal; above 0 just where it holds lines: plain. -/
import Derived.Test.YtplchgkppkibnaaRows
import Derived.Test.YtplchgkppkibnaaSides
import Derived.Test.YtplchgkppkibnaaMerge
namespace Go.Proofs.Ytplchgkppkibnaa
open Go.RowKit

theorem up_down : ∀ (l : List Line) (u d : Int), l.foldl upF u - l.foldl downF d = u - d + lineSum l
  | [], u, d => by simp [lineSum_nil]
  | x :: l, u, d => by
    rw [List.foldl_cons, List.foldl_cons, up_down l, lineSum_cons]
    unfold upF downF
    split <;> omega
theorem up_ge : ∀ (l : List Line) (u : Int), u ≤ l.foldl upF u
  | [], u => Int.le_refl _
  | x :: l, u => by
    rw [List.foldl_cons]
    have := up_ge l (upF u x)
    unfold upF at this ⊢
    split at this <;> rename_i h
    · rw [if_pos h]; omega
    · rw [if_neg h]; omega
theorem up_pos : ∀ (l : List Line) (u : Int), (∃ x ∈ l, 0 < x.Amt) → u < l.foldl upF u
  | [], u, h => by obtain ⟨x, hx, _⟩ := h; cases hx
  | y :: l, u, h => by
    rw [List.foldl_cons]
    by_cases hy : 0 < y.Amt
    · have := up_ge l (upF u y)
      unfold upF at this ⊢
      rw [if_pos hy] at this ⊢
      omega
    · obtain ⟨x, hx, h0⟩ := h
      rcases List.mem_cons.1 hx with rfl | hx
      · exact absurd h0 hy
      · have := up_pos l (upF u y) ⟨x, hx, h0⟩
        unfold upF at this ⊢
        rw [if_neg hy] at this ⊢
        exact this
theorem sum_neg : ∀ (l : List Line), (∀ x ∈ l, x.Amt < 0) → lineSum l ≤ 0 ∧ (0 < l.length → lineSum l < 0)
  | [], _ => by simp [lineSum_nil]
  | x :: l, h => by
    have h1 := h x (by simp)
    have h2 := sum_neg l fun y hy => h y (by simp [hy])
    rw [lineSum_cons]
    exact ⟨by omega, fun _ => by omega⟩
theorem sides_law (z : Int) (l : List Line) : upOf z l = downOf z l ∧ (0 < upOf z l ↔ ledgerB z l = true ∧ 0 < l.length) := by
  unfold upOf downOf
  by_cases h : ledgerB z l = true
  · rw [if_pos h, if_pos h]
    obtain ⟨_, _, hl⟩ := ledgerB_iff.1 h
    obtain ⟨h1, _, h3⟩ := linesB_iff.1 hl
    have e := up_down l 0 0
    refine ⟨by unfold upTo_ downTo_; omega, fun hp => ⟨h, ?_⟩, fun hp => ?_⟩
    · rcases l with _ | ⟨x, l⟩
      · simp [upTo_] at hp
      · simp
    · unfold upTo_
      refine up_pos l 0 ?_
      by_cases hx : ∃ x ∈ l, 0 < x.Amt
      · exact hx
      · exfalso
        have := sum_neg l (fun x hx' => by
          have h4 : ¬ 0 < x.Amt := fun hc => hx ⟨x, hx', hc⟩
          have h5 := h1 x hx'
          unfold lineOk at h5
          simp only [Bool.and_eq_true, Bool.not_eq_true', beq_eq_false_iff_ne] at h5
          omega)
        have := this.2 hp.2
        omega
  · rw [if_neg h, if_neg h]
    exact ⟨rfl, by simp [h]⟩
#print axioms sides_law
end Go.Proofs.Ytplchgkppkibnaa
