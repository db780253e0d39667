/- A region that draws its order and whose last operation waits for all others: the last one is run by itself, behind the others, so that it may store into a cell that the others read. Plain ground, no program in sight. -/
import Derived.Test.YtgpledgjpjifcaaDoorBase
import Derived.Deep.RegionHeld3
namespace Go.Proofs.YtgpledgjpjifcaaDoor

section
variable {P : Program} {md : Region.Mode} {ops0 : Array Oper} {o : Oper} {Q : Exit → Act → World → Prop} {S : World → Prop}
/-- What the others hand on: the last operation's step. -/
def lastQ (P : Program) (ops : Array Oper) (o : Oper) (Q : Exit → Act → World → Prop) : Exit → Act → World → Prop
  | .normal, a, w => ∀ K : Act → World → Prop, (∀ a w, Q .normal a w → K a w) → if Region.wanted o (yielded ops a.tmps) = true then Oper.wp P o a w K Q else K (a.put o.dst undef) w
  | e, a, w => Q e a w
def noGuards (ops0 : Array Oper) : Bool := ops0.toList.all fun x => x.guard.isNone
/-- Each operation waits for earlier ones alone. -/
def backOnly (md : Region.Mode) (ops0 : Array Oper) : Bool := (List.range ops0.size).all fun i => match ops0[i]? with
  | some x => x.after.toList.all fun e => !Region.binds md e || decide (e.on < i)
  | none => true
def waitsAll (md : Region.Mode) (n : Nat) (o : Oper) : Bool := ((List.range n).all fun i => o.after.toList.any fun e => Region.binds md e && (e.on == i)) && o.after.toList.all fun e => !Region.binds md e || decide (e.on < n)

theorem push_getD {listed : Array Bool} {i : Nat} {b : Bool} (h : i < listed.size) : (listed.push false).getD i b = listed.getD i b := by
  simp [Array.getD_eq_getD_getElem?, Array.getElem?_push, Nat.ne_of_lt h]
theorem push_getD_last {listed : Array Bool} {b : Bool} : (listed.push false).getD listed.size b = false := by
  simp [Array.getD_eq_getD_getElem?]
theorem getD_any {listed : Array Bool} {i : Nat} (h : i < listed.size) (b c : Bool) : listed.getD i b = listed.getD i c := by
  simp [Array.getD_eq_getD_getElem?, h]
theorem ops_push_lt {i : Nat} (h : i < ops0.size) : (ops0.push o)[i]? = ops0[i]? := by
  rw [Array.getElem?_push, if_neg (by omega)]
/-- Nothing is ready: then all are listed. -/
theorem all_listed (hb : backOnly md ops0 = true) {listed : Array Bool} (hs : listed.size = ops0.size) (hr : Region.ready md ops0 listed = []) : ∀ i, i < ops0.size → listed.getD i false = true := by
  intro i
  induction i using Nat.strongRecOn with
  | _ i ih =>
    intro hi
    refine Classical.byContradiction fun hc => ?_
    have hc' : listed.getD i true = false := by
      rw [getD_any (by omega) true false]
      simpa using hc
    have : i ∈ Region.ready md ops0 listed := by
      refine mem_ready.2 ⟨hc', ops0[i], by simp [hi], fun e he hbe => ?_⟩
      have h1 := List.all_eq_true.1 hb i (List.mem_range.2 hi)
      simp only [Array.getElem?_eq_getElem hi] at h1
      have h2 := List.all_eq_true.1 h1 e (by simpa using he)
      simp only [hbe, Bool.not_true, Bool.false_or, decide_eq_true_eq] at h2
      exact ih e.on h2 (by omega)
    rw [hr] at this
    cases this
theorem waits_spec {n : Nat} (h : waitsAll md n o = true) : (∀ i, i < n → ∃ e ∈ o.after, Region.binds md e = true ∧ e.on = i) ∧ ∀ e ∈ o.after, Region.binds md e = true → e.on < n := by
  simp only [waitsAll, Bool.and_eq_true] at h
  refine ⟨fun i hi => ?_, fun e he hb => ?_⟩
  · obtain ⟨e, he, h1⟩ := List.any_eq_true.1 (List.all_eq_true.1 h.1 i (List.mem_range.2 hi))
    simp only [Bool.and_eq_true, beq_iff_eq] at h1
    exact ⟨e, by simpa using he, h1⟩
  · have := List.all_eq_true.1 h.2 e (by simpa using he)
    simpa [hb] using this
theorem ready_push (hw : waitsAll md ops0.size o = true) (hb : backOnly md ops0 = true) {listed : Array Bool} (hs : listed.size = ops0.size) {j : Nat} :
    j ∈ Region.ready md (ops0.push o) (listed.push false) ↔ (j ∈ Region.ready md ops0 listed ∨ (j = ops0.size ∧ ∀ i, i < ops0.size → listed.getD i false = true)) := by
  obtain ⟨h1, h2⟩ := waits_spec hw
  rw [mem_ready, mem_ready]
  by_cases hj : j < ops0.size
  · rw [push_getD (by omega), ops_push_lt hj]
    constructor
    · rintro ⟨ha, x, hx, hall⟩
      refine .inl ⟨ha, x, hx, fun e he hbe => ?_⟩
      have := hall e he hbe
      have hlt : e.on < ops0.size := by
        have h3 := List.all_eq_true.1 hb j (List.mem_range.2 hj)
        simp only [hx] at h3
        have h4 := List.all_eq_true.1 h3 e (by simpa using he)
        simp only [hbe, Bool.not_true, Bool.false_or, decide_eq_true_eq] at h4
        omega
      rwa [push_getD (by omega)] at this
    · rintro (⟨ha, x, hx, hall⟩ | ⟨rfl, _⟩)
      · refine ⟨ha, x, hx, fun e he hbe => ?_⟩
        have hlt : e.on < ops0.size := by
          have h3 := List.all_eq_true.1 hb j (List.mem_range.2 hj)
          simp only [hx] at h3
          have h4 := List.all_eq_true.1 h3 e (by simpa using he)
          simp only [hbe, Bool.not_true, Bool.false_or, decide_eq_true_eq] at h4
          omega
        rw [push_getD (by omega)]
        exact hall e he hbe
      · omega
  · by_cases he : j = ops0.size
    · subst he
      constructor
      · rintro ⟨_, x, hx, hall⟩
        have hx' : x = o := by simpa using hx.symm
        subst hx'
        refine .inr ⟨rfl, fun i hi => ?_⟩
        obtain ⟨e, he, hbe, rfl⟩ := h1 i hi
        have := hall e he hbe
        rwa [push_getD (by omega)] at this
      · rintro (⟨_, x, hx, _⟩ | ⟨_, hall⟩)
        · simp at hx
        · refine ⟨by rw [← hs]; exact push_getD_last, o, by simp, fun e he hbe => ?_⟩
          have := h2 e he hbe
          rw [push_getD (by omega)]
          exact hall _ this
    · constructor
      · rintro ⟨_, x, hx, _⟩
        rw [Array.getElem?_eq_none (by simp; omega)] at hx
        cases hx
      · rintro (⟨_, x, hx, _⟩ | ⟨rfl, _⟩)
        · rw [Array.getElem?_eq_none (by omega)] at hx
          cases hx
        · exact absurd rfl he
theorem upon_Q {P : Program} {x : Oper} {a : Act} {w : World} {K K' : Act → World → Prop} {Q Q' : Exit → Act → World → Prop} (hK : ∀ a w, K a w → K' a w) (hP : ∀ c a w, Q (.panic c) a w → Q' (.panic c) a w) (hO : LetsOut Q → LetsOut Q')
    (h : x.wp P a w K Q) : x.wp P a w K' Q' := by
  unfold Oper.wp at *
  generalize (execOp a.eval x).run P w = r at *
  cases r with
  | ok n w' =>
    cases n <;> simp only [Oper.upon] at h ⊢ <;>
      first
        | exact hK _ _ h
        | exact Calls.mono h (fun e w'' he => by cases e <;> first | exact hK _ _ he | exact hP _ _ _ he | exact hO he)
        | exact Rows.mono h (fun _ _ he => hK _ _ he)
  | halt x w' => cases x <;> simp only [Oper.upon] at h ⊢ <;> first | exact hP _ _ _ h | exact h
theorem lets_last {ops : Array Oper} (h : LetsOut (lastQ P ops o Q)) : LetsOut Q := h
theorem wpAny_last_step (hw : waitsAll md ops0.size o = true) (hb : backOnly md ops0 = true) {listed : Array Bool} (hs : listed.size = ops0.size) (hr : Region.ready md ops0 listed = []) {a : Act} {w : World}
    (h : lastQ P (ops0.push o) o Q .normal a w) (f : Nat) : wpAny P md (ops0.push o) Q (f + 1) (listed.push false) a w := by
  have hall := all_listed hb hs hr
  have hend : Region.ready md (ops0.push o) ((listed.push false).setIfInBounds ops0.size true) = [] := by
    refine List.eq_nil_iff_forall_not_mem.2 fun j hj => ?_
    obtain ⟨h1, x, hx, _⟩ := mem_ready.1 hj
    have hjs : j < ops0.size + 1 := by
      have := (Array.getElem?_eq_some_iff.1 hx).1
      simpa using this
    rw [← hs] at h1 hjs
    by_cases hjl : j = listed.size
    · subst hjl
      simp [Array.getD_eq_getD_getElem?] at h1
    · have hjlt : j < listed.size := by omega
      have h3 := hall j (by omega)
      simp [Array.getD_eq_getD_getElem?, Array.getElem_push, hjlt, Ne.symm hjl, Nat.lt_succ_of_lt hjlt] at h1 h3
      rw [h3] at h1
      cases h1
  refine ⟨fun h0 => ?_, fun i hi => ?_⟩
  · have : ops0.size ∈ Region.ready md (ops0.push o) (listed.push false) := (ready_push hw hb hs).2 (.inr ⟨rfl, hall⟩)
    rw [h0] at this
    cases this
  · rcases (ready_push hw hb hs).1 hi with hi | ⟨rfl, _⟩
    · rw [hr] at hi
      cases hi
    · have hstep := h (fun a' w' => wpAny P md (ops0.push o) Q f ((listed.push false).setIfInBounds ops0.size true) a' w') (fun a' w' hq => by
        cases f with
        | zero => exact ⟨hend, hq⟩
        | succ f => exact ⟨fun _ => hq, by rw [hend]; simp⟩)
      unfold wpOp
      simp only [Array.getElem?_push_size]
      split
      · rename_i hwd
        rw [if_pos hwd] at hstep
        exact .inl hstep
      · rename_i hwd
        rw [if_neg hwd] at hstep
        exact hstep
theorem wpAny_of_last (hg : noGuards ops0 = true) (hw : waitsAll md ops0.size o = true) (hb : backOnly md ops0 = true) : ∀ (f : Nat) (listed : Array Bool) (a : Act) (w : World), listed.size = ops0.size →
    wpAnyH P md ops0 (lastQ P (ops0.push o) o Q) S f listed a w → wpAny P md (ops0.push o) Q (f + 1) (listed.push false) a w
  | 0, listed, a, w, hs, h => wpAny_last_step hw hb hs h.1 h.2 0
  | f + 1, listed, a, w, hs, h => by
    by_cases hr : Region.ready md ops0 listed = []
    · exact wpAny_last_step hw hb hs hr (h.1 hr) (f + 1)
    · obtain ⟨j, hj⟩ := List.exists_mem_of_ne_nil _ hr
      have hnot : ¬ ∀ i, i < ops0.size → listed.getD i false = true := fun hall => by
        obtain ⟨h1, x, hx, _⟩ := mem_ready.1 hj
        have hjs := (Array.getElem?_eq_some_iff.1 hx).1
        have := hall j hjs
        rw [getD_any (by omega) false true, h1] at this
        cases this
      refine ⟨fun h0 => ?_, fun i hi => ?_⟩
      · have := (ready_push hw hb hs).2 (.inl hj)
        rw [h0] at this
        cases this
      · rcases (ready_push hw hb hs).1 hi with hi | ⟨_, hall⟩
        · have hstep := h.2 i hi
          obtain ⟨_, x, hx, _⟩ := mem_ready.1 hi
          have his := (Array.getElem?_eq_some_iff.1 hx).1
          have hgx : x.guard = none := by
            have := List.all_eq_true.1 hg x (by
              have hm : x ∈ ops0 := Array.mem_of_getElem? hx
              simpa using hm)
            simpa using this
          have hset : (listed.push false).setIfInBounds i true = (listed.setIfInBounds i true).push false := by
            apply Array.ext
            · simp
            · intro k h1 h2
              simp only [Array.size_setIfInBounds, Array.size_push] at h1
              by_cases hk : k < listed.size
              · rw [Array.getElem_push, dif_pos (by simpa using hk)]
                rw [Array.getElem_setIfInBounds, Array.getElem_setIfInBounds, Array.getElem_push, dif_pos hk]
                simp
                omega
              · have : k = listed.size := by omega
                subst this
                have hne : i ≠ listed.size := by omega
                simp [Array.getElem_push, hne]
          have key : ∀ a' w', (S w' ∧ wpAnyH P md ops0 (lastQ P (ops0.push o) o Q) S f (listed.setIfInBounds i true) a' w') → wpAny P md (ops0.push o) Q (f + 1) ((listed.push false).setIfInBounds i true) a' w' := fun a' w' h' => by
            rw [hset]
            exact wpAny_of_last hg hw hb f _ a' w' (by simpa using hs) h'.2
          unfold wpOp at hstep ⊢
          rw [ops_push_lt his]
          simp only [hx] at hstep ⊢
          have hwd : ∀ y : Nat → Option Bool, Region.wanted x y = true := fun y => by simp [Region.wanted, hgx]
          rw [if_pos (hwd _)] at hstep ⊢
          rcases hstep with hstep | ⟨h1, h2⟩
          · exact .inl (upon_Q key (fun _ _ _ h => h) (fun h => h) hstep)
          · exact .inr ⟨h1, h2⟩
        · exact absurd hall hnot
theorem wp_region_last {ops : Array Oper} {id : Nat} {a : Act} {w : World} (he : ops = ops0.push o) (hm : P.follows .mixedOrders = true) (hg : noGuards ops0 = true) (hw : waitsAll .any ops0.size o = true) (hb : backOnly .any ops0 = true)
    (hS : S w.drew) (h : S w.drew → wpAnyH P .any ops0 (lastQ P ops o Q) S ops0.size (Array.replicate ops0.size false) a w.drew) : (Code.region id ops true).wp P Q a w := by
  subst he
  refine wp_region_any hm ?_
  have := wpAny_of_last hg hw hb ops0.size (Array.replicate ops0.size false) a w.drew (by simp) (h hS)
  rw [Array.size_push, Array.replicate_succ]
  exact this
end
theorem wp_region_lastL {P : Program} {o : Oper} {Q : Exit → Act → World → Prop} {S : World → Prop} {l : List Oper} {id : Nat} {a : Act} {w : World} (ho : l.getLast? = some o) (hm : P.follows .mixedOrders = true) (hg : noGuards l.dropLast.toArray = true) (hw : waitsAll .any l.dropLast.toArray.size o = true) (hb : backOnly .any l.dropLast.toArray = true)
    (hS : S w.drew) (h : S w.drew → wpAnyH P .any l.dropLast.toArray (lastQ P l.toArray o Q) S l.dropLast.toArray.size (Array.replicate l.dropLast.toArray.size false) a w.drew) : (Code.region id l.toArray true).wp P Q a w := by
  refine wp_region_last (S := S) (ops0 := l.dropLast.toArray) (o := o) ?_ hm hg hw hb hS h
  have hne : l ≠ [] := fun e => by subst e; cases ho
  have h1 := List.dropLast_concat_getLast hne
  have h2 : l.getLast hne = o := by rw [List.getLast?_eq_some_getLast hne] at ho; injection ho
  rw [h2] at h1
  rw [List.push_toArray, h1]
end Go.Proofs.YtgpledgjpjifcaaDoor
