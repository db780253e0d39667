/-
  A region that draws its order, whose operations each yield one and the same value in every world above the region's first one, and leave what was there as it was (loads of old cells, arithmetic, calls of functions that make memory but answer with a plain value; operations whose guard is false): one walk in the order of the text serves for every order.
-/
import Derived.Test.YtgpledgjpjifcaaGreatDoorBase
import Derived.Still
import Derived.StillTail
namespace Go.Proofs.YtgpledgjpjifcaaGreatDoor
open Go.RowKit

section
variable {P : Program} {ops : Array Oper} {md : Region.Mode} {W : World}
def Above (W w : World) : Prop := Below W.heap.size W w
theorem Above.refl (W : World) : Above W W := Below.refl _ _
theorem Above.step {w w' : World} (h : Above W w) (hb : Below w.heap.size w w') : Above W w' := Below.trans h (Below.mono hb (Below.size h))

def OpGives (P : Program) (o : Oper) (a : Act) (v : Value) (w : World) : Prop :=
  match (execOp a.eval o).run P w with
  | .ok (.value u) w' => u = v ∧ Below w.heap.size w w'
  | .ok .skip w' => v = undef ∧ Below w.heap.size w w'
  | .ok (.enter f args) w' => Below w.heap.size w w' ∧ Calls P f args w' (fun e w'' => e = .returned v ∧ Below w'.heap.size w' w'')
  | _ => False
def Steady (P : Program) (ops : Array Oper) (W : World) (o : Oper) (v : Value) (a : Act) : Prop :=
  (Region.wanted o (yielded ops a.tmps) = true ∧ ∀ w, Above W w → OpGives P o a v w) ∨ (Region.wanted o (yielded ops a.tmps) = false ∧ v = undef)
theorem Steady.of_same {o : Oper} {v : Value} {a a' : Act} (h : Steady P ops W o v a) (he : execOp a'.eval o = execOp a.eval o)
    (hw : Region.wanted o (yielded ops a'.tmps) = Region.wanted o (yielded ops a.tmps)) : Steady P ops W o v a' := by
  unfold Steady OpGives at *
  rw [he, hw]
  exact h

def steadyOp (P : Program) (ops : Array Oper) (W : World) (i : Nat) (K : Act → Prop) (a : Act) : Prop :=
  match ops[i]? with
  | none => K a
  | some o => ∃ v, Steady P ops W o v a ∧ K (a.put o.dst v)
theorem steadyOp_mono {i : Nat} {a : Act} {K K' : Act → Prop} (h : ∀ a, K a → K' a) (hh : steadyOp P ops W i K a) : steadyOp P ops W i K' a := by
  unfold steadyOp at *
  split
  · rename_i ho
    simp only [ho] at hh
    exact h _ hh
  · rename_i o ho
    simp only [ho] at hh
    obtain ⟨v, h1, h2⟩ := hh
    exact ⟨v, h1, h _ h2⟩
theorem wpOp_of_steady {i : Nat} {a : Act} {K : Act → Prop} {K' : Act → World → Prop} {Q' : Exit → Act → World → Prop} {w : World} (hw : Above W w) (h : ∀ a w, Above W w → K a → K' a w)
    (hh : steadyOp P ops W i K a) : wpOp P ops Q' i K' a w := by
  unfold steadyOp at hh
  unfold wpOp
  split
  · rename_i ho
    simp only [ho] at hh
    exact h _ _ hw hh
  · rename_i o ho
    simp only [ho] at hh
    obtain ⟨v, hs, hk⟩ := hh
    rcases hs with ⟨hwd, hg⟩ | ⟨hwd, rfl⟩
    · have hgw := hg w hw
      rw [if_pos hwd]
      left
      unfold OpGives at hgw
      unfold Oper.wp
      generalize (execOp a.eval o).run P w = r at *
      cases r with
      | ok n w' =>
        cases n <;> simp only at hgw <;> simp only [Oper.upon]
        case value u =>
          obtain ⟨rfl, hb⟩ := hgw
          exact h _ _ (hw.step hb) hk
        case skip =>
          obtain ⟨rfl, hb⟩ := hgw
          exact h _ _ (hw.step hb) hk
        case enter f args =>
          obtain ⟨hb, hc⟩ := hgw
          refine hc.mono fun e w'' ⟨he, hb2⟩ => ?_
          subst he
          exact h _ _ ((hw.step hb).step hb2) hk
      | halt x w' => simp only at hgw
    · rw [if_neg (by simp [hwd])]
      exact h _ _ hw hk

def anySteady (P : Program) (md : Region.Mode) (ops : Array Oper) (W : World) (Q : Act → Prop) : Nat → Array Bool → Act → Prop
  | 0, listed, a => Region.ready md ops listed = [] ∧ Q a
  | fuel + 1, listed, a =>
    (Region.ready md ops listed = [] → Q a) ∧
    ∀ i ∈ Region.ready md ops listed, steadyOp P ops W i (anySteady P md ops W Q fuel (listed.setIfInBounds i true)) a
theorem wpAny_of_steady {Q : Act → Prop} {Q' : Exit → Act → World → Prop} (hQ : ∀ a w, Above W w → Q a → Q' .normal a w) : ∀ (fuel : Nat) (listed : Array Bool) (a : Act) (w : World), Above W w →
    anySteady P md ops W Q fuel listed a → wpAny P md ops Q' fuel listed a w
  | 0, _, _, _, hw, h => ⟨h.1, hQ _ _ hw h.2⟩
  | fuel + 1, _, _, _, hw, h => ⟨fun h0 => hQ _ _ hw (h.1 h0), fun i hi => wpOp_of_steady hw (fun a' w' hw' => wpAny_of_steady hQ fuel _ a' w' hw') (h.2 i hi)⟩

theorem steadyOp_put {j : Nat} {oi oj : Oper} {v : Value} (hj : ops[j]? = some oj) (hap : oi.apart ops oj = true)
    (hsi : ∀ cs b, oi.op ≠ .select cs b) (hsj : ∀ cs b, oj.op ≠ .select cs b) {K : Act → Prop} {a : Act}
    (hy : Steady P ops W oi v a) (h : steadyOp P ops W j K (a.put oi.dst v)) :
    steadyOp P ops W j (fun a' => Steady P ops W oi v a' ∧ K (a'.put oi.dst v)) a := by
  obtain ⟨h1, h2, h3⟩ := Oper.apart_spec hap
  unfold steadyOp at *
  simp only [hj] at *
  obtain ⟨u, hu, hk⟩ := h
  refine ⟨u, hu.of_same (execOp_put oj hsj a oi.dst v h1).symm (wanted_put oj a oi.dst v h1).symm, hy.of_same (execOp_put oi hsi a oj.dst u h3) (wanted_put oi a oj.dst u h3), ?_⟩
  rw [← Act.put_comm a v u h2]
  exact hk

theorem anySteady_first {Q : Act → Prop} {i : Nat} {oi : Oper} {v : Value} (hi : ops[i]? = some oi) (hsel : ∀ (j : Nat) (o : Oper) cs b, ops[j]? = some o → o.op ≠ .select cs b) (fuel : Nat) :
    ∀ (listed : Array Bool) (a : Act),
      (∀ j oj, ops[j]? = some oj → j ≠ i → listed.getD j true = false → (∀ e ∈ oj.after, Region.binds md e = true → e.on ≠ i) → oi.apart ops oj = true) →
      i ∈ Region.ready md ops listed → Steady P ops W oi v a →
      anySteady P md ops W Q fuel (listed.setIfInBounds i true) (a.put oi.dst v) → anySteady P md ops W Q (fuel + 1) listed a := by
  have self : ∀ {K : Act → Prop} {a : Act}, Steady P ops W oi v a → K (a.put oi.dst v) → steadyOp P ops W i K a := fun hy hk => by
    unfold steadyOp
    simp only [hi]
    exact ⟨v, hy, hk⟩
  induction fuel with
  | zero =>
    intro listed a _ hr hy H
    refine ⟨fun h => (by rw [h] at hr; cases hr), fun j hj => ?_⟩
    by_cases hji : j = i
    · subst hji
      exact self hy H
    · have hm := ready_mono hj hji
      rw [H.1] at hm
      cases hm
  | succ fuel ih =>
    intro listed a hfree hr hy H
    refine ⟨fun h => (by rw [h] at hr; cases hr), fun j hj => ?_⟩
    by_cases hji : j = i
    · subst hji
      exact self hy H
    · have h1 := H.2 j (ready_mono hj hji)
      obtain ⟨hjun, oj, hoj, hall⟩ := mem_ready.1 hj
      have hnot : ∀ e ∈ oj.after, Region.binds md e = true → e.on ≠ i := fun e he hb heq => by
        have g1 := hall e he hb
        have g0 := (mem_ready.1 hr).1
        rw [heq, getD_both g0] at g1
        cases g1
      have h2 := steadyOp_put hoj (hfree j oj hoj hji hjun hnot) (fun cs b => hsel i oi cs b hi) (fun cs b => hsel j oj cs b hoj) hy h1
      refine steadyOp_mono (fun a' h3 => ih (listed.setIfInBounds j true) a' (fun k ok hk hki hun hno => hfree k ok hk hki ?_ hno) (ready_mono hr (Ne.symm hji)) h3.1 ?_) h2
      · by_cases hjk : j = k
        · subst hjk
          exact hjun
        · rwa [getD_set_ne true hjk] at hun
      · rw [Array.setIfInBounds_comm _ _ hji]
        exact h3.2

/-- The walk in the order of the text. -/
def wpSteady (P : Program) (ops : Array Oper) (W : World) (Q : Act → Prop) : List Oper → Act → Prop
  | [], a => Q a
  | o :: rest, a => ∃ v, Steady P ops W o v a ∧ wpSteady P ops W Q rest (a.put o.dst v)
theorem anySteady_lex {Q : Act → Prop} (hs : Region.noSelect ops = true) : ∀ (l : List Oper) (k : Nat) (listed : Array Bool) (a : Act), (∀ j, l[j]? = ops[k + j]?) →
    Region.lexFrom md ops l.length k listed = true → wpSteady P ops W Q l a → anySteady P md ops W Q l.length listed a
  | [], _, _, _, _, hB, h => ⟨by simpa [Region.lexFrom] using hB, h⟩
  | o :: l, k, listed, a, hl, hB, h => by
    have h0 : ops[k]? = some o := by simpa using (hl 0).symm
    simp only [List.length_cons, Region.lexFrom, Bool.and_eq_true] at hB
    obtain ⟨⟨hr, hf⟩, hB'⟩ := hB
    obtain ⟨v, hy, hK⟩ := h
    exact anySteady_first h0 (Region.noSelect_spec hs) l.length listed a (Region.free_spec h0 hf) (by simpa using hr) hy
      (anySteady_lex hs l (k + 1) _ _ (fun j => by have := hl (j + 1); simpa [Nat.add_assoc, Nat.add_comm 1 j] using this) hB' hK)
theorem wp_region_steady {id : Nat} {Q : Exit → Act → World → Prop} {a : Act} {w : World} {l : List Oper} (hm : P.follows .mixedOrders = true) (hB : Region.lexB .any l.toArray = true)
    (h : wpSteady P l.toArray w.drew (fun a' => ∀ w', Above w.drew w' → Q .normal a' w') l a) : (Code.region id l.toArray true).wp P Q a w := by
  simp only [Region.lexB, Bool.and_eq_true] at hB
  refine wp_region_any hm (wpAny_of_steady (W := w.drew) (Q := fun a' => ∀ w', Above w.drew w' → Q .normal a' w') (fun _ w' hw' hq => hq w' hw') _ _ _ w.drew (Above.refl _) ?_)
  have := anySteady_lex (md := .any) (W := w.drew) hB.1 l 0 (Array.replicate l.toArray.size false) a (by simp) (by simpa using hB.2) h
  simpa using this

/-! ### The steps of the walk -/
theorem wpSteady_nil {Q : Act → Prop} {a : Act} (h : Q a) : wpSteady P ops W Q [] a := h
/-- An operation that yields a value and turns nothing, in every world above. -/
theorem wpSteady_value {Q : Act → Prop} {a : Act} {o : Oper} {rest : List Oper} (v : Value) (hw : Region.wanted o (yielded ops a.tmps) = true)
    (h : ∀ w, Above W w → (execOp a.eval o).run P w = .ok (.value v) w) (hr : ∀ K : Act → Prop, (∀ a, wpSteady P ops W Q rest a → K a) → K (a.put o.dst v)) : wpSteady P ops W Q (o :: rest) a :=
  ⟨v, .inl ⟨hw, fun w hww => by unfold OpGives; rw [h w hww]; exact ⟨rfl, Below.refl _ _⟩⟩, hr _ (fun _ h => h)⟩
/-- An operation whose guard is not met. -/
theorem wpSteady_skip {Q : Act → Prop} {a : Act} {o : Oper} {rest : List Oper} (hw : Region.wanted o (yielded ops a.tmps) = false)
    (hr : ∀ K : Act → Prop, (∀ a, wpSteady P ops W Q rest a → K a) → K (a.put o.dst undef)) : wpSteady P ops W Q (o :: rest) a :=
  ⟨undef, .inr ⟨hw, rfl⟩, hr _ (fun _ h => h)⟩
/-- A call that answers v and leaves what was there. -/
theorem wpSteady_call {Q : Act → Prop} {a : Act} {o : Oper} {rest : List Oper} (f : FuncId) (args : Array Value) (v : Value) (hw : Region.wanted o (yielded ops a.tmps) = true)
    (h : ∀ w, Above W w → (execOp a.eval o).run P w = .ok (.enter f args) w) (hc : ∀ w, Above W w → Calls P f args w (fun e w' => e = .returned v ∧ Below w.heap.size w w'))
    (hr : ∀ K : Act → Prop, (∀ a, wpSteady P ops W Q rest a → K a) → K (a.put o.dst v)) : wpSteady P ops W Q (o :: rest) a :=
  ⟨v, .inl ⟨hw, fun w hww => by unfold OpGives; rw [h w hww]; exact ⟨Below.refl _ _, hc w hww⟩⟩, hr _ (fun _ h => h)⟩
end
#print axioms wp_region_steady
end Go.Proofs.YtgpledgjpjifcaaGreatDoor
