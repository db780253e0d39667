/- Ledgers merged, the balance and the past of an account: plain. -/
import Derived.Test.YtgpledgjpjifcaaGreatDoorRows
import Derived.Test.YtgpledgjpjifcaaGreatDoorLed
namespace Go.Proofs.YtgpledgjpjifcaaGreatDoor
open Go.RowKit

theorem lessB_iff {k c k' c' : Int} : lessB k c k' c' = true ↔ k < k' ∨ (k = k' ∧ c < c') := by
  simp [lessB]
theorem lessB_self (k c : Int) : lessB k c k c = false := by simp [lessB]
theorem less_eq {k c k' c' : Int} (h1 : lessB k c k' c' = false) (h2 : lessB k' c' k c = false) : k = k' ∧ c = c' := by
  rw [← Bool.not_eq_true, lessB_iff] at h1 h2
  omega
def lessL (x y : Line) : Prop := lessB x.Kind x.Ch y.Kind y.Ch = true
theorem lessL_iff {x y : Line} : lessL x y ↔ x.Kind < y.Kind ∨ (x.Kind = y.Kind ∧ x.Ch < y.Ch) := lessB_iff
theorem lessL_trans {x y z : Line} (h1 : lessL x y) (h2 : lessL y z) : lessL x z := by
  rw [lessL_iff] at *
  omega
def lineOk (x : Line) : Bool := accB x.Kind x.Ch && !(x.Amt == 0) && rangeB x.Amt
theorem linesB_iff {l : List Line} : linesB l = true ↔ (∀ x ∈ l, lineOk x = true) ∧ l.Pairwise lessL ∧ lineSum l = 0 := by
  unfold linesB
  rw [Bool.and_eq_true, allTo_iff, decide_eq_true_eq]
  constructor
  · rintro ⟨h, hs⟩
    have hadj : ∀ j (hj : j + 1 < l.length), lessL (l[j]'(by omega)) l[j + 1] := by
      intro j hj
      have := h (j + 1) hj
      rw [lineAt_next hj (by omega)] at this
      simp only [Bool.and_eq_true] at this
      exact this.2
    refine ⟨fun x hx => ?_, List.pairwise_iff_getElem.2 ?_, hs⟩
    · obtain ⟨k, hk, rfl⟩ := List.mem_iff_getElem.1 hx
      have := h k hk
      cases k with
      | zero => rw [lineAt_first hk] at this; exact this
      | succ j =>
        rw [lineAt_next hk (by omega), Bool.and_eq_true] at this
        exact this.1
    · intro i j hi hj hij
      induction j with
      | zero => omega
      | succ j ih =>
        by_cases e : i = j
        · subst e; exact hadj i hj
        · exact lessL_trans (ih (by omega) (by omega)) (hadj j hj)
  · rintro ⟨h, hp, hs⟩
    refine ⟨fun i hi => ?_, hs⟩
    have hm := h _ (List.getElem_mem hi)
    cases i with
    | zero => rw [lineAt_first hi]; exact hm
    | succ j =>
      rw [lineAt_next hi (by omega), Bool.and_eq_true]
      exact ⟨hm, List.pairwise_iff_getElem.1 hp j (j + 1) (by omega) hi (by omega)⟩
theorem lineSum_foldl : ∀ (l : List Line) (s : Int), l.foldl (fun s x => s + x.Amt) s = s + lineSum l
  | [], s => by simp [lineSum]
  | x :: l, s => by
    unfold lineSum
    rw [List.foldl_cons, List.foldl_cons, lineSum_foldl l, lineSum_foldl l (0 + x.Amt)]
    omega
theorem lineSum_nil : lineSum [] = 0 := rfl
theorem lineSum_cons (x : Line) (l : List Line) : lineSum (x :: l) = x.Amt + lineSum l := by
  show (x :: l).foldl (fun s x => s + x.Amt) 0 = _
  rw [List.foldl_cons, lineSum_foldl]
  omega

def mergeF : List Line → List Line → Option (List Line)
  | [], [] => some []
  | x :: a, [] => (mergeF a []).map (x :: ·)
  | [], y :: b => (mergeF [] b).map (y :: ·)
  | x :: a, y :: b =>
    if lessB x.Kind x.Ch y.Kind y.Ch = true then (mergeF a (y :: b)).map (x :: ·)
    else if lessB y.Kind y.Ch x.Kind x.Ch = true then (mergeF (x :: a) b).map (y :: ·)
    else if rangeB (x.Amt + y.Amt) = true then (if x.Amt + y.Amt = 0 then mergeF a b else (mergeF a b).map (⟨x.Kind, x.Ch, x.Amt + y.Amt⟩ :: ·))
    else none
termination_by a b => a.length + b.length

def bal (k c : Int) : List Line → Int
  | [] => 0
  | x :: l => (if x.Kind = k ∧ x.Ch = c then x.Amt else 0) + bal k c l
def findB (k c : Int) : List Line → Int
  | [] => 0
  | x :: l => if x.Kind = k ∧ x.Ch = c then x.Amt else findB k c l
theorem bal_none {k c : Int} : ∀ {l : List Line}, (∀ x ∈ l, ¬(x.Kind = k ∧ x.Ch = c)) → bal k c l = 0
  | [], _ => rfl
  | x :: l, h => by rw [bal, if_neg (h x (by simp)), bal_none fun y hy => h y (by simp [hy])]; rfl
theorem find_bal {k c : Int} : ∀ {l : List Line}, l.Pairwise lessL → findB k c l = bal k c l
  | [], _ => rfl
  | x :: l, h => by
    rw [List.pairwise_cons] at h
    rw [findB, bal]
    split
    · rename_i e
      rw [bal_none fun y hy hc => ?_]
      · omega
      · have := lessL_iff.1 (h.1 y hy); omega
    · rw [find_bal h.2]; omega
structure Merged (a b r : List Line) : Prop where
  sum : lineSum r = lineSum a + lineSum b
  len : r.length ≤ a.length + b.length
  bal : ∀ k c, bal k c r = bal k c a + bal k c b
  ok : (∀ x ∈ a, lineOk x = true) → (∀ x ∈ b, lineOk x = true) → ∀ x ∈ r, lineOk x = true
  low : ∀ p, (∀ x ∈ a, lessL p x) → (∀ x ∈ b, lessL p x) → ∀ x ∈ r, lessL p x
  sorted : a.Pairwise lessL → b.Pairwise lessL → r.Pairwise lessL
theorem merge_ok : ∀ (a b r : List Line), mergeF a b = some r → Merged a b r
  | [], [], r, h => by
    rw [mergeF] at h
    cases h
    exact ⟨rfl, Nat.le_refl _, fun _ _ => rfl, by simp, by simp, by simp⟩
  | x :: a, [], r, h => by
    rw [mergeF, Option.map_eq_some_iff] at h
    obtain ⟨r', h', rfl⟩ := h
    have m := merge_ok a [] r' h'
    refine ⟨by rw [lineSum_cons, lineSum_cons, m.sum]; omega, by have := m.len; simp at this ⊢; omega, fun k c => by simp only [bal, m.bal k c]; omega, ?_, ?_, ?_⟩
    · intro h1 h2 y hy
      rcases List.mem_cons.1 hy with rfl | hy
      · exact h1 _ (by simp)
      · exact m.ok (fun z hz => h1 z (by simp [hz])) h2 y hy
    · intro p h1 h2 y hy
      rcases List.mem_cons.1 hy with rfl | hy
      · exact h1 _ (by simp)
      · exact m.low p (fun z hz => h1 z (by simp [hz])) h2 y hy
    · intro h1 h2
      rw [List.pairwise_cons] at h1 ⊢
      exact ⟨m.low x h1.1 (by simp), m.sorted h1.2 h2⟩
  | [], y :: b, r, h => by
    rw [mergeF, Option.map_eq_some_iff] at h
    obtain ⟨r', h', rfl⟩ := h
    have m := merge_ok [] b r' h'
    refine ⟨by rw [lineSum_cons, lineSum_cons, m.sum]; omega, by have := m.len; simp at this ⊢; omega, fun k c => by simp only [bal, m.bal k c]; omega, ?_, ?_, ?_⟩
    · intro h1 h2 z hz
      rcases List.mem_cons.1 hz with rfl | hz
      · exact h2 _ (by simp)
      · exact m.ok h1 (fun z hz => h2 z (by simp [hz])) z hz
    · intro p h1 h2 z hz
      rcases List.mem_cons.1 hz with rfl | hz
      · exact h2 _ (by simp)
      · exact m.low p h1 (fun z hz => h2 z (by simp [hz])) z hz
    · intro h1 h2
      rw [List.pairwise_cons] at h2 ⊢
      exact ⟨m.low y (by simp) h2.1, m.sorted h1 h2.2⟩
  | x :: a, y :: b, r, h => by
    rw [mergeF] at h
    by_cases c1 : lessB x.Kind x.Ch y.Kind y.Ch = true
    · rw [if_pos c1, Option.map_eq_some_iff] at h
      obtain ⟨r', h', rfl⟩ := h
      have m := merge_ok a (y :: b) r' h'
      refine ⟨by rw [lineSum_cons, lineSum_cons x a, m.sum]; omega, by have := m.len; simp at this ⊢; omega, fun k c => by simp only [bal, m.bal k c]; omega, ?_, ?_, ?_⟩
      · intro h1 h2 z hz
        rcases List.mem_cons.1 hz with rfl | hz
        · exact h1 _ (by simp)
        · exact m.ok (fun z hz => h1 z (by simp [hz])) h2 z hz
      · intro p h1 h2 z hz
        rcases List.mem_cons.1 hz with rfl | hz
        · exact h1 _ (by simp)
        · exact m.low p (fun z hz => h1 z (by simp [hz])) h2 z hz
      · intro h1 h2
        have h2' := h2
        rw [List.pairwise_cons] at h1 h2 ⊢
        refine ⟨m.low x h1.1 (fun z hz => ?_), m.sorted h1.2 h2'⟩
        rcases List.mem_cons.1 hz with rfl | hz
        · exact c1
        · exact lessL_trans c1 (h2.1 z hz)
    · rw [if_neg c1] at h
      by_cases c2 : lessB y.Kind y.Ch x.Kind x.Ch = true
      · rw [if_pos c2, Option.map_eq_some_iff] at h
        obtain ⟨r', h', rfl⟩ := h
        have m := merge_ok (x :: a) b r' h'
        refine ⟨by rw [lineSum_cons, lineSum_cons y b, m.sum]; omega, by have := m.len; simp at this ⊢; omega, fun k c => by simp only [bal, m.bal k c]; omega, ?_, ?_, ?_⟩
        · intro h1 h2 z hz
          rcases List.mem_cons.1 hz with rfl | hz
          · exact h2 _ (by simp)
          · exact m.ok h1 (fun z hz => h2 z (by simp [hz])) z hz
        · intro p h1 h2 z hz
          rcases List.mem_cons.1 hz with rfl | hz
          · exact h2 _ (by simp)
          · exact m.low p h1 (fun z hz => h2 z (by simp [hz])) z hz
        · intro h1 h2
          have h1' := h1
          rw [List.pairwise_cons] at h1 h2 ⊢
          refine ⟨m.low y (fun z hz => ?_) h2.1, m.sorted h1' h2.2⟩
          rcases List.mem_cons.1 hz with rfl | hz
          · exact c2
          · exact lessL_trans c2 (h1.1 z hz)
      · rw [if_neg c2] at h
        obtain ⟨e1, e2⟩ := less_eq (Bool.eq_false_iff.2 c1) (Bool.eq_false_iff.2 c2)
        by_cases c3 : rangeB (x.Amt + y.Amt) = true
        · rw [if_pos c3] at h
          by_cases c4 : x.Amt + y.Amt = 0
          · rw [if_pos c4] at h
            have m := merge_ok a b r h
            refine ⟨by rw [lineSum_cons, lineSum_cons, m.sum]; omega, by have := m.len; simp at this ⊢; omega, fun k c => ?_, ?_, ?_, ?_⟩
            · simp only [bal, m.bal k c, e1, e2]
              split <;> omega
            · intro h1 h2
              exact m.ok (fun z hz => h1 z (by simp [hz])) (fun z hz => h2 z (by simp [hz]))
            · intro p h1 h2
              exact m.low p (fun z hz => h1 z (by simp [hz])) (fun z hz => h2 z (by simp [hz]))
            · intro h1 h2
              rw [List.pairwise_cons] at h1 h2
              exact m.sorted h1.2 h2.2
          · rw [if_neg c4, Option.map_eq_some_iff] at h
            obtain ⟨r', h', rfl⟩ := h
            have m := merge_ok a b r' h'
            refine ⟨by rw [lineSum_cons, lineSum_cons, lineSum_cons, m.sum]; simp only; omega, by have := m.len; simp at this ⊢; omega, fun k c => ?_, ?_, ?_, ?_⟩
            · simp only [bal, m.bal k c, e1, e2]
              split <;> omega
            · intro h1 h2 z hz
              rcases List.mem_cons.1 hz with rfl | hz
              · have := h1 x (by simp)
                unfold lineOk at this ⊢
                simp only [Bool.and_eq_true] at this ⊢
                exact ⟨⟨this.1.1, by simp [c4]⟩, c3⟩
              · exact m.ok (fun z hz => h1 z (by simp [hz])) (fun z hz => h2 z (by simp [hz])) z hz
            · intro p h1 h2 z hz
              rcases List.mem_cons.1 hz with rfl | hz
              · exact h1 x (by simp)
              · exact m.low p (fun z hz => h1 z (by simp [hz])) (fun z hz => h2 z (by simp [hz])) z hz
            · intro h1 h2
              rw [List.pairwise_cons] at h1 h2 ⊢
              refine ⟨m.low _ h1.1 (fun z hz => ?_), m.sorted h1.2 h2.2⟩
              have := lessL_iff.1 (h2.1 z hz)
              rw [lessL_iff]
              simp only
              omega
        · rw [if_neg c3] at h
          cases h
termination_by a b => a.length + b.length

/-! ### One posting posted; postings posted one after the other -/
def postCode (z : Int) (l : List Line) (pz : Int) (pl : List Line) : Int :=
  if ledgerB z l = true ∧ postingB pz pl = true then (if pz ≤ z then 2 else match mergeF l pl with | none => 3 | some r => if 320 < r.length then 3 else 0) else 1
def postL (z : Int) (l : List Line) (pz : Int) (pl : List Line) : List Line := if postCode z l pz pl = 0 then (mergeF l pl).getD [] else []
def postZ (z : Int) (l : List Line) (pz : Int) (pl : List Line) : Int := if postCode z l pz pl = 0 then pz else 0
theorem post_ok {z pz : Int} {l pl : List Line} (h : postCode z l pz pl = 0) : ledgerB z l = true ∧ postingB pz pl = true ∧ z < pz ∧ Merged l pl (postL z l pz pl) ∧ (postL z l pz pl).length ≤ 320 ∧ postZ z l pz pl = pz ∧ ledgerB pz (postL z l pz pl) = true := by
  have h0 := h
  unfold postCode at h
  split at h
  · rename_i hc
    split at h
    · cases h
    · rename_i hz
      cases hm : mergeF l pl with
      | none => rw [hm] at h; cases h
      | some r =>
        rw [hm] at h
        simp only at h
        split at h
        · cases h
        · rename_i hlen
          have he : postL z l pz pl = r := by unfold postL; rw [if_pos h0, hm]; rfl
          have M := merge_ok _ _ _ hm
          rw [he]
          obtain ⟨hl1, hl2⟩ := hc
          obtain ⟨a1, a2, a3⟩ := ledgerB_iff.1 hl1
          obtain ⟨b1, b2, b3, b4⟩ := postingB_iff.1 hl2
          obtain ⟨s1, s2, s3⟩ := linesB_iff.1 a3
          obtain ⟨t1, t2, t3⟩ := linesB_iff.1 b4
          refine ⟨hl1, hl2, by omega, M, by omega, by unfold postZ; rw [if_pos h0], ledgerB_iff.2 ⟨by omega, by omega, linesB_iff.2 ⟨M.ok s1 t1, M.sorted s2 t2, by rw [M.sum, s3, t3]; rfl⟩⟩⟩
  · cases h
def pAll : List (Int × List Line) → Int → List Line → Int → Int × List Line × Int
  | [], z, l, n => (z, l, n)
  | p :: ps, z, l, n => if postCode z l p.1 p.2 = 0 then pAll ps (postZ z l p.1 p.2) (postL z l p.1 p.2) (n + 1) else pAll ps z l n
theorem pAll_le : ∀ (ps : List (Int × List Line)) (z : Int) (l : List Line) (n : Int), n ≤ (pAll ps z l n).2.2 ∧ (pAll ps z l n).2.2 ≤ n + ps.length
  | [], z, l, n => by simp [pAll]
  | p :: ps, z, l, n => by
    rw [pAll]
    split
    · have := pAll_le ps (postZ z l p.1 p.2) (postL z l p.1 p.2) (n + 1)
      simp only [List.length_cons]
      omega
    · have := pAll_le ps z l n
      simp only [List.length_cons]
      omega

/-! ### The past of an account -/
def pastL (k c : Int) : List Line → Int → List Int → Option (Int × List Int)
  | [], s, o => some (s, o)
  | x :: l, s, o => if x.Kind = k ∧ x.Ch = c then (if rangeB (s + x.Amt) = true then pastL k c l (s + x.Amt) (o ++ [s + x.Amt]) else none) else pastL k c l s o
def pastP (k c : Int) : List (Int × List Line) → Int → List Int → Option (List Int)
  | [], _, o => some o
  | p :: ps, s, o => if postingB p.1 p.2 = true then (match pastL k c p.2 s o with | none => none | some x => pastP k c ps x.1 x.2) else none
def past (ps : List (Int × List Line)) (k c : Int) : List Int := if accB k c = true then (pastP k c ps 0 []).getD [] else []
theorem pastL_none {k c : Int} : ∀ {l : List Line} {s : Int} {o : List Int}, (∀ x ∈ l, ¬(x.Kind = k ∧ x.Ch = c)) → pastL k c l s o = some (s, o)
  | [], _, _, _ => rfl
  | x :: l, s, o, h => by rw [pastL, if_neg (h x (by simp))]; exact pastL_none fun y hy => h y (by simp [hy])
theorem pastL_one {k c : Int} : ∀ {l : List Line} {s : Int} {o : List Int}, l.Pairwise lessL →
    ((∀ x ∈ l, ¬(x.Kind = k ∧ x.Ch = c)) ∧ pastL k c l s o = some (s, o)) ∨ (pastL k c l s o = if rangeB (s + bal k c l) = true then some (s + bal k c l, o ++ [s + bal k c l]) else none)
  | [], _, _, _ => .inl ⟨by simp, rfl⟩
  | x :: l, s, o, h => by
    rw [List.pairwise_cons] at h
    by_cases e : x.Kind = k ∧ x.Ch = c
    · have hn : ∀ y ∈ l, ¬(y.Kind = k ∧ y.Ch = c) := fun y hy hc => by have := lessL_iff.1 (h.1 y hy); omega
      refine .inr ?_
      rw [pastL, if_pos e, bal, if_pos e, bal_none hn, Int.add_zero]
      split
      · exact pastL_none hn
      · rfl
    · rw [pastL, if_neg e, bal, if_neg e, Int.zero_add]
      rcases pastL_one (k := k) (c := c) (s := s) (o := o) h.2 with ⟨h1, h2⟩ | h2
      · refine .inl ⟨fun y hy => ?_, h2⟩
        rcases List.mem_cons.1 hy with rfl | hy
        · exact e
        · exact h1 y hy
      · exact .inr h2
theorem pastP_len {k c : Int} : ∀ (ps : List (Int × List Line)) (s : Int) (o r : List Int), pastP k c ps s o = some r → r.length ≤ o.length + ps.length
  | [], _, o, r, h => by rw [pastP] at h; cases h; simp
  | p :: ps, s, o, r, h => by
    rw [pastP] at h
    split at h
    · rename_i hp
      obtain ⟨_, _, _, hl⟩ := postingB_iff.1 hp
      obtain ⟨_, hs, _⟩ := linesB_iff.1 hl
      rcases pastL_one (k := k) (c := c) (s := s) (o := o) hs with ⟨_, e⟩ | e
      · rw [e] at h
        have := pastP_len ps _ _ _ h
        simp only [List.length_cons] at this ⊢
        omega
      · rw [e] at h
        split at h
        · cases h
        · rename_i x hx
          split at hx
          · cases hx
            have := pastP_len ps _ _ _ h
            simp only [List.length_append, List.length_cons, List.length_nil] at this ⊢
            omega
          · cases hx
    · cases h
theorem past_len (ps : List (Int × List Line)) (k c : Int) : (past ps k c).length ≤ ps.length := by
  unfold past
  split
  · cases h : pastP k c ps 0 [] with
    | none => simp
    | some r => simpa using pastP_len ps 0 [] r h
  · simp
theorem bal_range {k c : Int} {l : List Line} (h : linesB l = true) : rangeB (bal k c l) = true := by
  obtain ⟨h1, h2, h3⟩ := linesB_iff.1 h
  rw [← find_bal h2]
  clear h h2 h3
  induction l with
  | nil => exact (by decide : rangeB 0 = true)
  | cons x l ih =>
    rw [findB]
    split
    · have := h1 x (by simp)
      unfold lineOk at this
      rw [Bool.and_eq_true] at this
      exact this.2
    · exact ih fun y hy => h1 y (by simp [hy])
/-- All postings posted: the past's last value is the balance. -/
theorem past_bal {k c : Int} : ∀ (ps : List (Int × List Line)) (z : Int) (l : List Line) (n : Int) (o : List Int), ledgerB z l = true → (pAll ps z l n).2.2 = n + ps.length →
    ledgerB (pAll ps z l n).1 (pAll ps z l n).2.1 = true ∧ ∃ r, pastP k c ps (bal k c l) o = some r ∧ ((r = o ∧ bal k c (pAll ps z l n).2.1 = bal k c l) ∨ r.getLast? = some (bal k c (pAll ps z l n).2.1))
  | [], z, l, n, o, h, _ => ⟨h, o, rfl, .inl ⟨rfl, rfl⟩⟩
  | p :: ps, z, l, n, o, h, hn => by
    rw [pAll] at hn ⊢
    by_cases hc : postCode z l p.1 p.2 = 0
    · rw [if_pos hc] at hn ⊢
      obtain ⟨_, p2, _, M, _, p5, p6⟩ := post_ok hc
      rw [p5] at hn ⊢
      obtain ⟨_, _, _, hl⟩ := postingB_iff.1 p2
      obtain ⟨_, hs, _⟩ := linesB_iff.1 hl
      have hn' : (pAll ps p.1 (postL z l p.1 p.2) (n + 1)).2.2 = n + 1 + ps.length := by
        rw [hn]; simp only [List.length_cons]; omega
      have hb := M.bal k c
      have hr : rangeB (bal k c l + bal k c p.2) = true := by rw [← hb]; exact bal_range (ledgerB_iff.1 p6).2.2
      rw [pastP, if_pos p2]
      rcases pastL_one (k := k) (c := c) (s := bal k c l) (o := o) hs with ⟨e0, e⟩ | e
      · rw [e]
        have e1 : bal k c (postL z l p.1 p.2) = bal k c l := by rw [hb, bal_none e0]; omega
        obtain ⟨i1, r, i2, i3⟩ := past_bal (k := k) (c := c) ps p.1 (postL z l p.1 p.2) (n + 1) o p6 hn'
        rw [e1] at i2 i3
        exact ⟨i1, r, i2, i3⟩
      · rw [e, if_pos hr]
        obtain ⟨i1, r, i2, i3⟩ := past_bal (k := k) (c := c) ps p.1 (postL z l p.1 p.2) (n + 1) (o ++ [bal k c l + bal k c p.2]) p6 hn'
        rw [hb] at i2 i3
        refine ⟨i1, r, i2, .inr ?_⟩
        rcases i3 with ⟨j1, j2⟩ | j
        · rw [j1, j2]; simp
        · exact j
    · rw [if_neg hc] at hn
      have := pAll_le ps z l n
      simp only [List.length_cons] at hn
      omega
def balB (z : Int) (l : List Line) (k c : Int) : Int := if ledgerB z l = true ∧ accB k c = true then findB k c l else 0
theorem ledgerB_empty : ledgerB 0 [] = true := by decide
/-- The law: what the history ends with is the balance. -/
theorem past_law (ps : List (Int × List Line)) (k c : Int) (hn : (pAll ps 0 [] 0).2.2 = ps.length) :
    ((past ps k c) = [] → balB (pAll ps 0 [] 0).1 (pAll ps 0 [] 0).2.1 k c = 0) ∧ (past ps k c ≠ [] → (past ps k c).getLast? = some (balB (pAll ps 0 [] 0).1 (pAll ps 0 [] 0).2.1 k c)) := by
  unfold past balB
  by_cases ha : accB k c = true
  · obtain ⟨h1, r, h2, h3⟩ := past_bal (k := k) (c := c) ps 0 [] 0 [] ledgerB_empty (by rw [hn]; omega)
    have hb0 : bal k c [] = 0 := rfl
    rw [hb0] at h2 h3
    rw [if_pos ha, h2, if_pos ⟨h1, ha⟩, find_bal (linesB_iff.1 (ledgerB_iff.1 h1).2.2).2.1]
    rcases h3 with ⟨rfl, h4⟩ | h4
    · exact ⟨fun _ => h4, fun h => absurd rfl h⟩
    · refine ⟨fun h => ?_, fun _ => h4⟩
      simp only [Option.getD_some] at h
      rw [h] at h4
      cases h4
  · rw [if_neg ha, if_neg (fun h => ha h.2)]
    exact ⟨fun _ => rfl, fun h => absurd rfl h⟩
/-- A posting and its reverse leave nothing. -/
theorem merge_neg : ∀ (l : List Line) (f : Line → Line), (∀ x, f x = ⟨x.Kind, x.Ch, -x.Amt⟩) → mergeF l (l.map f) = some []
  | [], _, _ => by rw [List.map_nil, mergeF]
  | x :: l, f, hf => by
    rw [List.map_cons, mergeF, hf x]
    simp only
    rw [lessB_self, if_neg (by simp), if_neg (by simp), if_pos (by rw [show x.Amt + -x.Amt = 0 by omega]; decide), if_pos (by omega)]
    exact merge_neg l f hf
#print axioms past_law
#print axioms merge_neg
end Go.Proofs.YtgpledgjpjifcaaGreatDoor
