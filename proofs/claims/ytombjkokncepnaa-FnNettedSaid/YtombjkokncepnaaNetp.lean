/- Debts: peers and netting: plain, no program in sight. -/
import Derived.Test.YtombjkokncepnaaRows
import Derived.Test.YtombjkokncepnaaOwed
import Derived.Test.YtombjkokncepnaaBookp
namespace Go.Proofs.Ytombjkokncepnaa
open Go.RowKit

/-! ### Peers -/
def atP (d : Debt) (p : Int) : Bool := d.From == p || d.To == p
def hasP (l : List Debt) (p : Int) : Bool := l.any fun d => atP d p
def allP (n : Nat) : List Int := (List.range n).map fun i : Nat => (i : Int) + 1
def peersF (l : List Debt) (n : Nat) : List Int := (allP n).filter (hasP l)
def peersL (l : List Debt) : List Int := peersF l 99
def peersOf (l : List Debt) : List Int := if debtsOk l = true then peersL l else []
theorem allP_succ (n : Nat) : allP (n + 1) = allP n ++ [(n : Int) + 1] := by simp [allP, List.range_succ]
theorem mem_allP {n : Nat} {p : Int} : p ∈ allP n ↔ 1 ≤ p ∧ p ≤ n := by
  simp only [allP, List.mem_map, List.mem_range]
  constructor
  · rintro ⟨i, h, rfl⟩; omega
  · intro h; exact ⟨(p - 1).toNat, by omega, by omega⟩
theorem allP_lt (n : Nat) : (allP n).Pairwise (· < ·) := by
  induction n with
  | zero => simp [allP]
  | succ n ih =>
    rw [allP_succ, List.pairwise_append]
    refine ⟨ih, by simp, fun a ha b hb => ?_⟩
    rw [List.mem_singleton.1 hb]
    have := (mem_allP.1 ha).2
    omega
theorem peersF_succ (l : List Debt) (n : Nat) : peersF l (n + 1) = peersF l n ++ (if hasP l ((n : Int) + 1) = true then [(n : Int) + 1] else []) := by
  rw [peersF, allP_succ, List.filter_append, ← peersF]
  congr 1
  cases h : hasP l ((n : Int) + 1) <;> simp [h]
theorem mem_peersF {l : List Debt} {n : Nat} {p : Int} : p ∈ peersF l n ↔ (1 ≤ p ∧ p ≤ n) ∧ hasP l p = true := by
  rw [peersF, List.mem_filter, mem_allP]
theorem peersF_len (l : List Debt) (n : Nat) : (peersF l n).length ≤ n := by
  have := List.length_filter_le (hasP l) (allP n)
  rw [← peersF] at this
  simpa [allP] using this
theorem peersF_no (l : List Debt) (n : Nat) : hasB (peersF l n) ((n : Int) + 1) = false := by
  rw [hasB, Bool.eq_false_iff]
  intro h
  obtain ⟨x, hx, he⟩ := List.any_eq_true.1 h
  have := mem_peersF.1 hx
  simp at he
  omega
theorem peersF_yes (l : List Debt) (n : Nat) : hasB (peersF l n ++ [(n : Int) + 1]) ((n : Int) + 1) = true := by
  simp [hasB]
theorem peersL_lt (l : List Debt) : (peersL l).Pairwise (· < ·) := (allP_lt 99).filter _
theorem peersL_len (l : List Debt) : (peersL l).length ≤ 99 := peersF_len l 99
theorem peersOf_len (l : List Debt) : (peersOf l).length ≤ 99 := by
  unfold peersOf
  split
  · exact peersL_len l
  · exact Nat.zero_le _

def addP (out : List Int) (p : Int) : List Int := if hasB out p = true then out else out ++ [p]
def collF (out : List Int) (d : Debt) : List Int := addP (addP out d.From) d.To
def coll (l : List Debt) : List Int := l.foldl collF []
theorem mem_addP {out : List Int} {p x : Int} : x ∈ addP out p ↔ x ∈ out ∨ x = p := by
  unfold addP
  split
  · rename_i h
    obtain ⟨y, hy, he⟩ := List.any_eq_true.1 h
    have : y = p := by simpa using he
    subst this
    constructor
    · exact .inl
    · rintro (h | rfl)
      · exact h
      · exact hy
  · simp
theorem nodup_addP {out : List Int} {p : Int} (h : out.Nodup) : (addP out p).Nodup := by
  unfold addP
  split
  · exact h
  · rename_i hn
    rw [List.nodup_append]
    refine ⟨h, by simp, fun a ha b hb => ?_⟩
    rw [List.mem_singleton.1 hb]
    intro he
    subst he
    exact hn (List.any_eq_true.2 ⟨a, ha, by simp⟩)
theorem len_addP (out : List Int) (p : Int) : (addP out p).length ≤ out.length + 1 := by
  unfold addP
  split <;> simp
theorem coll_len (l : List Debt) : (coll l).length ≤ 2 * l.length := by
  have : ∀ (l : List Debt) (out : List Int), (l.foldl collF out).length ≤ out.length + 2 * l.length := by
    intro l
    induction l with
    | nil => intro out; simp
    | cons d l ih =>
      intro out
      have h1 := ih (collF out d)
      have h2 := len_addP (addP out d.From) d.To
      have h3 := len_addP out d.From
      simp only [List.foldl_cons, List.length_cons, collF] at *
      omega
  unfold coll
  simpa using this l []
theorem coll_facts (l : List Debt) : (coll l).Nodup ∧ ∀ p, p ∈ coll l ↔ hasP l p = true := by
  have : ∀ (l : List Debt) (out : List Int), out.Nodup → (l.foldl collF out).Nodup ∧ ∀ p, p ∈ l.foldl collF out ↔ p ∈ out ∨ hasP l p = true := by
    intro l
    induction l with
    | nil => intro out h; exact ⟨h, fun p => by simp [hasP]⟩
    | cons d l ih =>
      intro out h
      obtain ⟨h1, h2⟩ := ih (collF out d) (nodup_addP (nodup_addP h))
      refine ⟨h1, fun p => ?_⟩
      rw [List.foldl_cons, h2 p]
      simp only [collF, mem_addP, hasP, List.any_cons, atP, Bool.or_eq_true, beq_iff_eq]
      constructor
      · rintro (((h | h) | h) | h)
        · exact .inl h
        · exact .inr (.inl (.inl h.symm))
        · exact .inr (.inl (.inr h.symm))
        · exact .inr (.inr h)
      · rintro (h | (h | h) | h)
        · exact .inl (.inl (.inl h))
        · exact .inl (.inl (.inr h.symm))
        · exact .inl (.inr h.symm)
        · exact .inr h
  obtain ⟨h1, h2⟩ := this l [] List.nodup_nil
  exact ⟨h1, fun p => by rw [coll, h2 p]; simp⟩
theorem hasP_range {l : List Debt} (h : debtsOk l = true) {p : Int} (hp : hasP l p = true) : 1 ≤ p ∧ p ≤ 99 := by
  obtain ⟨d, hd, he⟩ := List.any_eq_true.1 hp
  simp only [debtsOk, Bool.and_eq_true, List.all_eq_true] at h
  have hk := debtOk_iff.1 (h.1 d hd)
  simp only [atP, Bool.or_eq_true, beq_iff_eq] at he
  omega
theorem lt_ext : ∀ {a b : List Int}, a.Pairwise (· < ·) → b.Pairwise (· < ·) → (∀ x, x ∈ a ↔ x ∈ b) → a = b
  | [], [], _, _, _ => rfl
  | [], y :: b, _, _, h => by have := (h y).2 (by simp); simp at this
  | x :: a, [], _, _, h => by have := (h x).1 (by simp); simp at this
  | x :: a, y :: b, ha, hb, h => by
    rw [List.pairwise_cons] at ha hb
    have hxy : x = y := by
      rcases List.mem_cons.1 ((h x).1 (by simp)) with h1 | h1
      · exact h1
      · rcases List.mem_cons.1 ((h y).2 (by simp)) with h2 | h2
        · exact h2.symm
        · have := hb.1 x h1
          have := ha.1 y h2
          omega
    subst hxy
    rw [lt_ext ha.2 hb.2 (fun z => ?_)]
    constructor
    · intro hz
      rcases List.mem_cons.1 ((h z).1 (by simp [hz])) with h1 | h1
      · have := ha.1 z hz; omega
      · exact h1
    · intro hz
      rcases List.mem_cons.1 ((h z).2 (by simp [hz])) with h1 | h1
      · have := hb.1 z hz; omega
      · exact h1
theorem sorted_coll {l : List Debt} (h : debtsOk l = true) : (coll l).mergeSort (fun x y => decide (x ≤ y)) = peersL l := by
  have hp := List.mergeSort_perm (coll l) (fun x y => decide (x ≤ y))
  have hs := List.pairwise_mergeSort (le := fun x y : Int => decide (x ≤ y)) (fun a b c h1 h2 => by simp at *; omega) (fun a b => by simp; omega) (coll l)
  have hn : ((coll l).mergeSort (fun x y => decide (x ≤ y))).Nodup := hp.nodup_iff.2 (coll_facts l).1
  refine lt_ext ?_ (peersL_lt l) (fun x => ?_)
  · refine (hs.and hn).imp ?_
    intro a b ⟨h1, h2⟩
    have h1 := of_decide_eq_true h1
    have h2 : a ≠ b := h2
    omega
  · rw [hp.mem_iff, (coll_facts l).2 x, peersL, mem_peersF]
    constructor
    · intro hx
      exact ⟨by have := hasP_range h hx; omega, hx⟩
    · exact fun hx => hx.2
/-- one inner round -/
def collS (out : List Int) (d : Debt) : Nat → List Int
  | 0 => out
  | 1 => addP out d.From
  | _ => collF out d

/-! ### Netting -/
def at_ (o : List Int) (i : Nat) : Int := o.getD i 0
theorem at_lt {o : List Int} {i : Nat} (h : i < o.length) : at_ o i = o[i] := by simp [at_, h]
def mostN (t : Int) (o : List Int) : Nat → Nat
  | 0 => 0
  | k + 1 => if t * at_ o (mostN t o k) < t * at_ o k then k else mostN t o k
theorem mostN_facts (t : Int) (o : List Int) (k : Nat) : mostN t o (k + 1) ≤ k ∧ (∀ i, i ≤ k → t * at_ o i ≤ t * at_ o (mostN t o (k + 1))) ∧ ∀ i, i < mostN t o (k + 1) → t * at_ o i < t * at_ o (mostN t o (k + 1)) := by
  induction k with
  | zero =>
    have e : mostN t o 1 = 0 := by simp [mostN]
    rw [Nat.zero_add, e]
    exact ⟨Nat.le_refl _, fun i hi => by rw [Nat.le_zero.1 hi]; exact Int.le_refl _, fun i hi => by omega⟩
  | succ k ih =>
    rw [mostN]
    obtain ⟨h1, h2, h3⟩ := ih
    split
    · rename_i hlt
      refine ⟨Nat.le_refl _, fun i hi => ?_, fun i hi => ?_⟩
      · by_cases he : i = k + 1
        · rw [he]; exact Int.le_refl _
        · have := h2 i (by omega); omega
      · have := h2 i (by omega); omega
    · rename_i hlt
      refine ⟨by omega, fun i hi => ?_, h3⟩
      by_cases he : i = k + 1
      · rw [he]; omega
      · exact h2 i (by omega)
theorem mostN_one (t : Int) (o : List Int) : mostN t o 1 = 0 := by simp [mostN]
theorem most_unique {t : Int} {o : List Int} {k p : Nat} (hp : p ≤ k) (h1 : ∀ i, i ≤ k → t * at_ o i ≤ t * at_ o p) (h2 : ∀ i, i < p → t * at_ o i < t * at_ o p) : p = mostN t o (k + 1) := by
  obtain ⟨g1, g2, g3⟩ := mostN_facts t o k
  rcases Nat.lt_trichotomy p (mostN t o (k + 1)) with h | h | h
  · have := g3 p h; have := h1 _ g1; omega
  · exact h
  · have := h2 _ h; have := g2 p hp; omega
def shiftB (o : List Int) (f t : Nat) : List Int := (o.set f (at_ o f + min (-at_ o f) (at_ o t))).set t (at_ o t - min (-at_ o f) (at_ o t))
def netGo : Nat → List Int → List Debt
  | 0, _ => []
  | n + 1, o => if at_ o (mostN (-1) o 100) = 0 then [] else ⟨mostN (-1) o 100, mostN 1 o 100, min (-at_ o (mostN (-1) o 100)) (at_ o (mostN 1 o 100))⟩ :: netGo n (shiftB o (mostN (-1) o 100) (mostN 1 o 100))
def pick (t : Int) (s : List Int) : Nat → Int
  | 0 => -1
  | k + 1 => if 0 < t * at_ s k ∧ (pick t s k < 0 ∨ t * at_ s (pick t s k).toNat < t * at_ s k) then k else pick t s k
theorem pick_facts (t : Int) (s : List Int) (k : Nat) : (pick t s k = -1 ∧ ∀ i, i < k → t * at_ s i ≤ 0) ∨
    (∃ f : Nat, pick t s k = f ∧ f < k ∧ 0 < t * at_ s f ∧ (∀ i, i < k → t * at_ s i ≤ t * at_ s f) ∧ ∀ i, i < f → t * at_ s i < t * at_ s f) := by
  induction k with
  | zero => exact .inl ⟨rfl, fun i hi => by omega⟩
  | succ k ih =>
    rw [pick]
    rcases ih with ⟨h0, h1⟩ | ⟨f, h0, h1, h2, h3, h4⟩
    · rw [h0]
      split
      · rename_i h
        refine .inr ⟨k, rfl, by omega, h.1, fun i hi => ?_, fun i hi => ?_⟩
        · by_cases he : i = k
          · rw [he]; exact Int.le_refl _
          · have := h1 i (by omega); omega
        · have := h1 i (by omega); omega
      · rename_i h
        refine .inl ⟨rfl, fun i hi => ?_⟩
        by_cases he : i = k
        · rw [he]; omega
        · exact h1 i (by omega)
    · rw [h0]
      have e : ((f : Int)).toNat = f := by omega
      rw [e]
      split
      · rename_i h
        have hlt : t * at_ s f < t * at_ s k := by omega
        refine .inr ⟨k, rfl, by omega, h.1, fun i hi => ?_, fun i hi => ?_⟩
        · by_cases he : i = k
          · rw [he]; exact Int.le_refl _
          · have := h3 i (by omega); omega
        · have := h3 i (by omega); omega
      · rename_i h
        refine .inr ⟨f, rfl, by omega, h2, fun i hi => ?_, h4⟩
        by_cases he : i = k
        · rw [he]; omega
        · exact h3 i (by omega)
theorem pick_lt (t : Int) (s : List Int) (k : Nat) : -1 ≤ pick t s k ∧ pick t s k < (k : Int) := by
  rcases pick_facts t s k with ⟨h, _⟩ | ⟨f, h, hf, _⟩ <;> omega
def netI : Nat → List Int → List Int → List Debt
  | 0, _, _ => []
  | n + 1, ps, s => if pick (-1) s s.length < 0 ∨ pick 1 s s.length < 0 then [] else
      ⟨at_ ps (pick (-1) s s.length).toNat, at_ ps (pick 1 s s.length).toNat, min (-at_ s (pick (-1) s s.length).toNat) (at_ s (pick 1 s s.length).toNat)⟩ :: netI n ps (shiftB s (pick (-1) s s.length).toNat (pick 1 s s.length).toNat)

/-! how many are not zero -/
def nz (o : List Int) : Nat := o.countP (fun x => x != 0)
theorem at_set_self {o : List Int} {i : Nat} (h : i < o.length) (v : Int) : at_ (o.set i v) i = v := by simp [at_, h]
theorem at_set_ne {o : List Int} {i j : Nat} (h : i ≠ j) (v : Int) : at_ (o.set i v) j = at_ o j := by simp [at_, List.getElem?_set_ne h]
def one01 (x : Int) : Nat := if x = 0 then 0 else 1
theorem one01_eq (x : Int) : (if (x != 0) = true then 1 else 0) = one01 x := by
  unfold one01
  by_cases h : x = 0 <;> simp [h]
theorem nz_set {o : List Int} {i : Nat} (h : i < o.length) (v : Int) : nz (o.set i v) + one01 (at_ o i) = nz o + one01 v := by
  induction o generalizing i with
  | nil => simp at h
  | cons x o ih =>
    cases i with
    | zero =>
      simp only [List.set_cons_zero, nz, List.countP_cons, at_, List.getD_cons_zero, one01_eq]
      omega
    | succ i =>
      have h2 := ih (i := i) (by simpa using h)
      simp only [List.set_cons_succ, nz, List.countP_cons, at_, List.getD_cons_succ] at h2 ⊢
      omega
theorem nz_move {o : List Int} {f t : Nat} (hf : f < o.length) (ht : t < o.length) (h1 : at_ o f < 0) (h2 : 0 < at_ o t) : nz (shiftB o f t) + 1 ≤ nz o := by
  have hne : f ≠ t := by intro h; subst h; omega
  have a := nz_set (o := o.set f (at_ o f + min (-at_ o f) (at_ o t))) (i := t) (by simpa using ht) (at_ o t - min (-at_ o f) (at_ o t))
  have b := nz_set hf (at_ o f + min (-at_ o f) (at_ o t))
  rw [at_set_ne hne] at a
  have e1 : one01 (at_ o f) = 1 := if_neg (by omega)
  have e2 : one01 (at_ o t) = 1 := if_neg (by omega)
  have e3 : ∀ x, one01 x ≤ 1 := fun x => by unfold one01; split <;> omega
  have e4 : ∀ x, x = 0 → one01 x = 0 := fun x h => if_pos h
  rw [e1] at b
  rw [e2] at a
  unfold shiftB
  rcases Int.le_total (-at_ o f) (at_ o t) with h | h
  · rw [Int.min_eq_left h] at *
    have := e3 (at_ o t - -at_ o f)
    have := e4 (at_ o f + -at_ o f) (by omega)
    omega
  · rw [Int.min_eq_right h] at *
    have := e3 (at_ o f + at_ o t)
    have := e4 (at_ o t - at_ o t) (by omega)
    omega
theorem nz_le (o : List Int) : nz o ≤ o.length := List.countP_le_length
theorem nz_pos {o : List Int} {i : Nat} (h : at_ o i ≠ 0) : 0 < nz o := by
  have hi : i < o.length := by
    refine Nat.lt_of_not_le fun hh => h ?_
    simp [at_, List.getElem?_eq_none hh]
  unfold nz
  rw [List.countP_pos_iff]
  refine ⟨o[i], List.getElem_mem hi, ?_⟩
  rw [at_lt hi] at h
  simpa using h
theorem len_move (o : List Int) (f t : Nat) : (shiftB o f t).length = o.length := by simp [shiftB]
theorem at_move {o : List Int} {f t : Nat} (hf : f < o.length) (ht : t < o.length) (hne : f ≠ t) (i : Nat) :
    at_ (shiftB o f t) i = if i = t then at_ o t - min (-at_ o f) (at_ o t) else if i = f then at_ o f + min (-at_ o f) (at_ o t) else at_ o i := by
  unfold shiftB
  by_cases h1 : i = t
  · subst h1; rw [at_set_self (by simpa using ht), if_pos rfl]
  · rw [at_set_ne (Ne.symm h1), if_neg h1]
    by_cases h2 : i = f
    · subst h2; rw [at_set_self hf, if_pos rfl]
    · rw [at_set_ne (Ne.symm h2), if_neg h2]
/-- The bound, kept. -/
def Bd (o : List Int) : Prop := ∀ i, -60000000000 ≤ at_ o i ∧ at_ o i ≤ 60000000000
theorem Bd.step {o : List Int} (h : Bd o) {f t : Nat} (hf : f < o.length) (ht : t < o.length) (h1 : at_ o f < 0) (h2 : 0 < at_ o t) : Bd (shiftB o f t) := by
  have hne : f ≠ t := by intro h; subst h; omega
  intro i
  rw [at_move hf ht hne]
  have := h i
  have := h f
  have := h t
  split
  · omega
  · split <;> omega
theorem sum_set {o : List Int} {i : Nat} (h : i < o.length) (v : Int) : (o.set i v).sum = o.sum - at_ o i + v := by
  induction o generalizing i with
  | nil => simp at h
  | cons x o ih =>
    cases i with
    | zero => simp [at_]; omega
    | succ i =>
      have h2 := ih (i := i) (by simpa using h)
      simp only [List.set_cons_succ, List.sum_cons, at_, List.getD_cons_succ] at h2 ⊢
      omega
theorem sum_move {o : List Int} {f t : Nat} (hf : f < o.length) (ht : t < o.length) (hne : f ≠ t) : (shiftB o f t).sum = o.sum := by
  unfold shiftB
  rw [sum_set (by simpa using ht), sum_set hf, at_set_ne hne]
  omega
theorem sum_pos : ∀ {o : List Int}, o.sum = 0 → (∃ i, at_ o i < 0) → ∃ i, 0 < at_ o i := by
  have key : ∀ o : List Int, (∀ i, at_ o i ≤ 0) → o.sum ≤ 0 ∧ ((∃ i, at_ o i < 0) → o.sum < 0) := by
    intro o
    induction o with
    | nil => intro _; exact ⟨by simp, fun ⟨i, hi⟩ => by simp [at_] at hi⟩
    | cons x o ih =>
      intro h
      obtain ⟨h1, h2⟩ := ih (fun i => by simpa [at_] using h (i + 1))
      have h0 : x ≤ 0 := by simpa [at_] using h 0
      refine ⟨by simp; omega, fun ⟨i, hi⟩ => ?_⟩
      cases i with
      | zero => simp [at_] at hi; simp; omega
      | succ i =>
        have := h2 ⟨i, by simpa [at_] using hi⟩
        simp; omega
  intro o hs hn
  refine Classical.byContradiction fun hc => ?_
  have := (key o (fun i => Int.not_lt.1 (fun hh => hc ⟨i, hh⟩))).2 hn
  omega

/-! ### The tie -/
structure Tie (ps s o : List Int) : Prop where
  len : o.length = 100
  up : ps.Pairwise (· < ·)
  rng : ∀ p ∈ ps, 1 ≤ p ∧ p ≤ 99
  same : s = ps.map fun p => at_ o p.toNat
  only : ∀ i, at_ o i ≠ 0 → ((i : Nat) : Int) ∈ ps
  sum : o.sum = 0
theorem Tie.len_s {ps s o : List Int} (h : Tie ps s o) : s.length = ps.length := by rw [h.same]; simp
theorem Tie.at_s {ps s o : List Int} (h : Tie ps s o) {i : Nat} (hi : i < ps.length) : at_ s i = at_ o (ps[i]).toNat := by
  have : i < s.length := by rw [h.len_s]; exact hi
  rw [at_lt this]
  simp [h.same]
theorem ps_lt {ps : List Int} (h : ps.Pairwise (· < ·)) {i j : Nat} (hi : i < ps.length) (hj : j < ps.length) : i < j ↔ ps[i] < ps[j] := by
  have k := List.pairwise_iff_getElem.1 h
  constructor
  · exact fun hij => k i j hi hj hij
  · intro hlt
    rcases Nat.lt_trichotomy i j with h | h | h
    · exact h
    · subst h; omega
    · have := k j i hj hi h; omega
theorem Tie.picked {ps s o : List Int} (h : Tie ps s o) (t : Int) {f : Nat} (h1 : f < s.length) (h2 : 0 < t * at_ s f) (h3 : ∀ i, i < s.length → t * at_ s i ≤ t * at_ s f) (h4 : ∀ i, i < f → t * at_ s i < t * at_ s f) :
    (at_ ps f).toNat = mostN t o 100 ∧ at_ ps f = ((mostN t o 100 : Nat) : Int) ∧ at_ o (mostN t o 100) = at_ s f := by
  have hf : f < ps.length := by rw [← h.len_s]; exact h1
  obtain ⟨r1, r2⟩ := h.rng _ (List.getElem_mem hf)
  have e0 := h.at_s hf
  have key : ∀ i, i < 100 → at_ o i = 0 ∨ ∃ j, ∃ hj : j < ps.length, (ps[j]).toNat = i ∧ at_ s j = at_ o i := by
    intro i _
    by_cases hz : at_ o i = 0
    · exact .inl hz
    · obtain ⟨j, hj, he⟩ := List.getElem_of_mem (h.only i hz)
      exact .inr ⟨j, hj, by omega, by rw [h.at_s hj, show (ps[j]).toNat = i by omega]⟩
  have e : (ps[f]).toNat = mostN t o 100 := by
    refine most_unique (k := 99) (by omega) (fun i hi => ?_) (fun i hi => ?_)
    · rcases key i (by omega) with hz | ⟨j, hj, he, hv⟩
      · rw [hz, ← e0, Int.mul_zero]; omega
      · rw [← hv, ← e0]; exact h3 j (by rw [h.len_s]; exact hj)
    · rcases key i (by omega) with hz | ⟨j, hj, he, hv⟩
      · rw [hz, ← e0, Int.mul_zero]; omega
      · rw [← hv, ← e0]
        refine h4 j ?_
        rw [ps_lt h.up hj hf]
        have := h.rng _ (List.getElem_mem hj)
        omega
  rw [at_lt hf]
  refine ⟨e, by rw [← e]; omega, ?_⟩
  rw [← e, e0]
theorem Tie.step {ps s o : List Int} (h : Tie ps s o) {f t : Nat} (hf : f < ps.length) (ht : t < ps.length) (hne : f ≠ t) : Tie ps (shiftB s f t) (shiftB o (at_ ps f).toNat (at_ ps t).toNat) := by
  have hfs : f < s.length := by rw [h.len_s]; exact hf
  have hts : t < s.length := by rw [h.len_s]; exact ht
  obtain ⟨r1, r2⟩ := h.rng _ (List.getElem_mem hf)
  obtain ⟨r3, r4⟩ := h.rng _ (List.getElem_mem ht)
  rw [at_lt hf, at_lt ht]
  have hpf : (ps[f]).toNat < o.length := by rw [h.len]; omega
  have hpt : (ps[t]).toNat < o.length := by rw [h.len]; omega
  have hinj : ∀ {i j : Nat} (hi : i < ps.length) (hj : j < ps.length), (ps[i]).toNat = (ps[j]).toNat ↔ i = j := by
    intro i j hi hj
    constructor
    · intro he
      have a := h.rng _ (List.getElem_mem hi)
      have b := h.rng _ (List.getElem_mem hj)
      have e : ps[i] = ps[j] := by omega
      rcases Nat.lt_trichotomy i j with k | k | k
      · have := (ps_lt h.up hi hj).1 k; omega
      · exact k
      · have := (ps_lt h.up hj hi).1 k; omega
    · rintro rfl; rfl
  have hpne : (ps[f]).toNat ≠ (ps[t]).toNat := by rw [ne_eq, hinj hf ht]; exact hne
  refine ⟨by rw [len_move]; exact h.len, h.up, h.rng, ?_, ?_, by rw [sum_move hpf hpt hpne]; exact h.sum⟩
  · apply List.ext_getElem
    · rw [len_move, h.len_s]; simp
    · intro i h1 h2
      have hi : i < ps.length := by simpa using h2
      have hl : (shiftB s f t)[i] = at_ (shiftB s f t) i := (at_lt h1).symm
      rw [hl, at_move hfs hts hne, List.getElem_map, at_move hpf hpt hpne, ← h.at_s hf, ← h.at_s ht, ← h.at_s hi]
      simp only [hinj hi ht, hinj hi hf]
  · intro i hi
    rw [at_move hpf hpt hpne] at hi
    by_cases h1 : i = (ps[t]).toNat
    · rw [h1, show (((ps[t]).toNat : Nat) : Int) = ps[t] by omega]; exact List.getElem_mem ht
    · rw [if_neg h1] at hi
      by_cases h2 : i = (ps[f]).toNat
      · rw [h2, show (((ps[f]).toNat : Nat) : Int) = ps[f] by omega]; exact List.getElem_mem hf
      · rw [if_neg h2] at hi
        exact h.only i hi
theorem pick_cast {t : Int} {s : List Int} (h : ¬ pick t s s.length < 0) : ∃ f : Nat, pick t s s.length = f ∧ f < s.length ∧ 0 < t * at_ s f ∧ (∀ i, i < s.length → t * at_ s i ≤ t * at_ s f) ∧ ∀ i, i < f → t * at_ s i < t * at_ s f := by
  rcases pick_facts t s s.length with ⟨h0, _⟩ | h1
  · omega
  · exact h1
theorem Tie.zero {ps s o : List Int} (h : Tie ps s o) : at_ o 0 = 0 := by
  refine Classical.byContradiction fun hc => ?_
  have := h.rng _ (h.only 0 hc)
  omega
theorem net_tie : ∀ (n : Nat) (ps s o : List Int), Tie ps s o → netI n ps s = netGo n o
  | 0, _, _, _, _ => rfl
  | n + 1, ps, s, o, h => by
    have hz := h.zero
    obtain ⟨m1, m2, m3⟩ := mostN_facts (-1) o 99
    have hnon : ∀ i, s.length ≤ i → at_ s i = 0 := fun i hi => by simp [at_, List.getElem?_eq_none hi]
    have hin : ∀ i, at_ o i ≠ 0 → ∃ j, j < s.length ∧ at_ s j = at_ o i := by
      intro i hi
      obtain ⟨j, hj, he⟩ := List.getElem_of_mem (h.only i hi)
      exact ⟨j, by rw [h.len_s]; exact hj, by rw [h.at_s hj, show (ps[j]).toNat = i by omega]⟩
    rw [netI, netGo]
    by_cases h1 : pick (-1) s s.length < 0 ∨ pick 1 s s.length < 0
    · rw [if_pos h1, if_pos]
      refine Classical.byContradiction fun hc => ?_
      have hneg : at_ o (mostN (-1) o 100) < 0 := by
        have := m2 0 (by omega)
        rw [hz] at this
        have e : (99 + 1 : Nat) = 100 := rfl
        rw [e] at this
        omega
      rcases h1 with h1 | h1
      · rcases pick_facts (-1) s s.length with ⟨_, h3⟩ | ⟨f, h3, _⟩
        · obtain ⟨j, hj, he⟩ := hin _ hc
          have := h3 j hj
          omega
        · omega
      · obtain ⟨i, hi⟩ := sum_pos h.sum ⟨_, hneg⟩
        rcases pick_facts 1 s s.length with ⟨_, h3⟩ | ⟨f, h3, _⟩
        · obtain ⟨j, hj, he⟩ := hin i (by omega)
          have := h3 j hj
          omega
        · omega
    · rw [not_or] at h1
      obtain ⟨f, ef, f1, f2, f3, f4⟩ := pick_cast h1.1
      obtain ⟨t, et, t1, t2, t3, t4⟩ := pick_cast h1.2
      rw [if_neg (by omega), ef, et]
      obtain ⟨pf1, pf2, pf3⟩ := h.picked (-1) f1 f2 f3 f4
      obtain ⟨pt1, pt2, pt3⟩ := h.picked 1 t1 t2 t3 t4
      have hne : f ≠ t := by intro he; subst he; omega
      rw [if_neg (by rw [pf3]; omega), Int.toNat_natCast, Int.toNat_natCast, pf3, pt3, ← pf2, ← pt2]
      congr 1
      have hm := h.step (f := f) (t := t) (by rw [← h.len_s]; exact f1) (by rw [← h.len_s]; exact t1) hne
      rw [pf1, pt1] at hm
      exact net_tie n ps _ _ hm
/-! The start. -/
def bal0 (l : List Debt) : List Int := (List.range 100).map fun p : Nat => owedL l p
theorem owedL_cons (d : Debt) (l : List Debt) (p : Int) : owedL (d :: l) p = owedL l p + (if d.To = p then d.Amt else 0) - (if d.From = p then d.Amt else 0) := by
  have : ∀ (l : List Debt) (a b : Int), l.foldl (owedF p) (a + b) = l.foldl (owedF p) a + b := by
    intro l
    induction l with
    | nil => intro a b; rfl
    | cons x l ih =>
      intro a b
      simp only [List.foldl_cons]
      rw [← ih]
      congr 1
      simp only [owedF, beq_iff_eq]
      split <;> split <;> omega
  simp only [owedL, List.foldl_cons]
  rw [show owedF p 0 d = 0 + ((if d.To = p then d.Amt else 0) - (if d.From = p then d.Amt else 0)) by simp only [owedF, beq_iff_eq]; split <;> split <;> omega, this]
  omega
theorem sum_one (a : Int) (x : Int) : ∀ n : Nat, ((List.range n).map fun p : Nat => if x = (p : Int) then a else 0).sum = if 0 ≤ x ∧ x < n then a else 0
  | 0 => by simp; omega
  | n + 1 => by
    rw [List.range_succ, List.map_append, List.sum_append, sum_one a x n]
    simp only [List.map_cons, List.map_nil, List.sum_cons, List.sum_nil]
    by_cases h : x = n
    · subst h; rw [if_neg (by omega), if_pos rfl, if_pos (by omega)]; omega
    · rw [if_neg h]
      by_cases h2 : 0 ≤ x ∧ x < n
      · rw [if_pos h2, if_pos (by omega)]; omega
      · rw [if_neg h2, if_neg (by omega)]; omega
theorem sum_comb (f g h : Nat → Int) : ∀ l : List Nat, (l.map fun p => f p + g p - h p).sum = (l.map f).sum + (l.map g).sum - (l.map h).sum
  | [] => by simp
  | x :: l => by simp only [List.map_cons, List.sum_cons, sum_comb f g h l]; omega
theorem bal0_sum : ∀ (l : List Debt), (∀ d ∈ l, debtOk d = true) → (bal0 l).sum = 0
  | [], _ => by simpa [bal0, owedL] using sum_one 0 0 100
  | d :: l, h => by
    have ih := bal0_sum l (fun x hx => h x (by simp [hx]))
    have hd := debtOk_iff.1 (h d (by simp))
    unfold bal0 at ih ⊢
    rw [show (fun p : Nat => owedL (d :: l) p) = fun p : Nat => owedL l p + (if d.To = (p : Int) then d.Amt else 0) - (if d.From = (p : Int) then d.Amt else 0) from funext fun p => owedL_cons d l p,
      sum_comb (fun p : Nat => owedL l p) (fun p : Nat => if d.To = (p : Int) then d.Amt else 0) (fun p : Nat => if d.From = (p : Int) then d.Amt else 0), ih, sum_one, sum_one, if_pos (by omega), if_pos (by omega)]
    omega
theorem owedL_zero : ∀ (l : List Debt) (p : Int), hasP l p = false → owedL l p = 0
  | [], _, _ => rfl
  | d :: l, p, h => by
    simp only [hasP, List.any_cons, Bool.or_eq_false_iff, atP, beq_eq_false_iff_ne] at h
    rw [owedL_cons, owedL_zero l p h.2, if_neg (by omega), if_neg (by omega)]
    omega
theorem at_bal0 (l : List Debt) {i : Nat} (h : i < 100) : at_ (bal0 l) i = owedL l i := by
  rw [at_lt (by simp [bal0, h])]
  simp [bal0]
theorem tie0 {l : List Debt} (h : debtsOk l = true) : Tie (peersL l) ((peersL l).map (owedL l)) (bal0 l) := by
  have hall : ∀ d ∈ l, debtOk d = true := by simp only [debtsOk, Bool.and_eq_true, List.all_eq_true] at h; exact h.1
  refine ⟨by simp [bal0], peersL_lt l, fun p hp => (mem_peersF.1 hp).1, ?_, fun i hi => ?_, bal0_sum l hall⟩
  · refine List.map_congr_left fun p hp => ?_
    have := (mem_peersF.1 hp).1
    rw [at_bal0 l (by omega), show ((p.toNat : Nat) : Int) = p by omega]
  · have hlt : i < 100 := by
      refine Nat.lt_of_not_le fun hh => hi ?_
      simp [at_, bal0, hh]
    rw [at_bal0 l hlt] at hi
    have hp : hasP l i = true := by
      cases hc : hasP l i
      · exact absurd (owedL_zero l i hc) hi
      · rfl
    exact mem_peersF.2 ⟨by have := hasP_range h hp; omega, hp⟩
def netR (l : List Debt) : List Debt := if debtsOk l = true then netGo 100 (bal0 l) else []
theorem net_eq {l : List Debt} (h : debtsOk l = true) : netI 100 (peersL l) ((peersL l).map (owedL l)) = netR l := by
  rw [netR, if_pos h]
  exact net_tie 100 _ _ _ (tie0 h)
theorem netGo_len : ∀ (n : Nat) (o : List Int), (netGo n o).length ≤ n
  | 0, _ => Nat.le_refl _
  | n + 1, o => by
    rw [netGo]
    split
    · exact Nat.zero_le _
    · have := netGo_len n (shiftB o (mostN (-1) o 100) (mostN 1 o 100))
      simp only [List.length_cons]
      omega
theorem netR_len (l : List Debt) : (netR l).length ≤ 100 := by
  unfold netR
  split
  · exact netGo_len _ _
  · exact Nat.zero_le _
/-! ### What the walks keep -/
theorem most_lt (t : Int) (o : List Int) : mostN t o 100 < 100 := Nat.lt_succ_of_le (mostN_facts t o 99).1
theorem mostN_lt (t : Int) (o : List Int) {k : Nat} (hk : 1 ≤ k) : mostN t o k < k := by
  obtain ⟨j, rfl⟩ : ∃ j, k = j + 1 := ⟨k - 1, by omega⟩
  have := (mostN_facts t o j).1
  omega
structure NInv (o : List Int) : Prop where
  len : o.length = 100
  zero : at_ o 0 = 0
  sum : o.sum = 0
  bd : Bd o
theorem at_ge {o : List Int} {i : Nat} (h : o.length ≤ i) : at_ o i = 0 := by simp [at_, List.getElem?_eq_none h]
theorem NInv.signs {o : List Int} (h : NInv o) (hf : at_ o (mostN (-1) o 100) ≠ 0) : at_ o (mostN (-1) o 100) < 0 ∧ 0 < at_ o (mostN 1 o 100) := by
  obtain ⟨_, m2, _⟩ := mostN_facts (-1) o 99
  obtain ⟨_, k2, _⟩ := mostN_facts 1 o 99
  have e : (99 + 1 : Nat) = 100 := rfl
  rw [e] at m2 k2
  have h0 := m2 0 (by omega)
  have hz := h.zero
  rw [hz] at h0
  have h1 : at_ o (mostN (-1) o 100) < 0 := by omega
  refine ⟨h1, ?_⟩
  obtain ⟨i, hi⟩ := sum_pos h.sum ⟨_, h1⟩
  have hl : i < 100 := by
    refine Nat.lt_of_not_le fun hh => ?_
    rw [at_ge (by rw [h.len]; exact hh)] at hi
    omega
  have := k2 i (by omega)
  omega
theorem NInv.step {o : List Int} (h : NInv o) (hf : at_ o (mostN (-1) o 100) ≠ 0) : NInv (shiftB o (mostN (-1) o 100) (mostN 1 o 100)) := by
  obtain ⟨h1, h2⟩ := h.signs hf
  have l1 : mostN (-1) o 100 < o.length := by rw [h.len]; exact most_lt _ _
  have l2 : mostN 1 o 100 < o.length := by rw [h.len]; exact most_lt _ _
  have hz := h.zero
  have hne : mostN (-1) o 100 ≠ mostN 1 o 100 := fun e => by rw [e] at h1; omega
  refine ⟨by rw [len_move]; exact h.len, ?_, by rw [sum_move l1 l2 hne]; exact h.sum, h.bd.step l1 l2 h1 h2⟩
  rw [at_move l1 l2 hne, if_neg (fun e => by rw [← e] at h2; omega), if_neg (fun e => by rw [← e] at h1; omega)]
  exact hz
theorem inv0 {l : List Debt} (h : debtsOk l = true) : NInv (bal0 l) := by
  have ht := tie0 h
  refine ⟨ht.len, ht.zero, ht.sum, fun i => ?_⟩
  by_cases hi : i < 100
  · rw [at_bal0 l hi]
    have := owedL_bd l i h (k := l.length)
    rw [List.take_length] at this
    have := debtsOk_le h
    omega
  · rw [at_ge (by rw [ht.len]; omega)]
    decide
theorem netGo_amt : ∀ (n : Nat) (o : List Int), NInv o → ∀ d ∈ netGo n o, 0 ≤ d.Amt ∧ d.Amt ≤ 60000000000
  | 0, _, _, d, hd => by simp [netGo] at hd
  | n + 1, o, h, d, hd => by
    rw [netGo] at hd
    split at hd
    · simp at hd
    · rename_i hf
      obtain ⟨h1, h2⟩ := h.signs hf
      rcases List.mem_cons.1 hd with rfl | hd
      · have := h.bd (mostN (-1) o 100)
        have := h.bd (mostN 1 o 100)
        simp only
        omega
      · exact netGo_amt n _ (h.step hf) d hd
theorem netR_amt (l : List Debt) : ∀ d ∈ netR l, 0 ≤ d.Amt ∧ d.Amt ≤ 60000000000 := by
  unfold netR
  split
  · rename_i h
    exact netGo_amt 100 _ (inv0 h)
  · simp
theorem pick_neg (s : List Int) {k : Nat} (hk : k < s.length) :
    (decide (s[k] < 0) = false ∧ pick (-1) s (k + 1) = pick (-1) s k) ∨ (decide (s[k] < 0) = true ∧ pick (-1) s k = -1 ∧ pick (-1) s (k + 1) = k) ∨
    (decide (s[k] < 0) = true ∧ ∃ f : Nat, ∃ hf : f < s.length, pick (-1) s k = f ∧ decide (s[k] < s[f]) = true ∧ pick (-1) s (k + 1) = k) ∨
    (decide (s[k] < 0) = true ∧ ∃ f : Nat, ∃ hf : f < s.length, pick (-1) s k = f ∧ decide (s[k] < s[f]) = false ∧ pick (-1) s (k + 1) = f) := by
  have hp : pick (-1) s (k + 1) = if 0 < -1 * at_ s k ∧ (pick (-1) s k < 0 ∨ -1 * at_ s (pick (-1) s k).toNat < -1 * at_ s k) then (k : Int) else pick (-1) s k := rfl
  rw [at_lt hk] at hp
  by_cases h0 : s[k] < 0
  · rcases pick_facts (-1) s k with ⟨h1, _⟩ | ⟨f, h1, hf, _⟩
    · refine .inr (.inl ⟨decide_eq_true h0, h1, ?_⟩)
      rw [hp, if_pos ⟨by omega, .inl (by omega)⟩]
    · have hfl : f < s.length := by omega
      rw [h1, Int.toNat_natCast, at_lt hfl] at hp
      by_cases h2 : s[k] < s[f]
      · refine .inr (.inr (.inl ⟨decide_eq_true h0, f, hfl, h1, decide_eq_true h2, ?_⟩))
        rw [hp, if_pos ⟨by omega, .inr (by omega)⟩]
      · refine .inr (.inr (.inr ⟨decide_eq_true h0, f, hfl, h1, decide_eq_false h2, ?_⟩))
        rw [hp, if_neg (by omega)]
  · refine .inl ⟨decide_eq_false h0, ?_⟩
    rw [hp, if_neg (by omega)]
theorem pick_pos (s : List Int) {k : Nat} (hk : k < s.length) :
    (decide (0 < s[k]) = false ∧ pick 1 s (k + 1) = pick 1 s k) ∨ (decide (0 < s[k]) = true ∧ pick 1 s k = -1 ∧ pick 1 s (k + 1) = k) ∨
    (decide (0 < s[k]) = true ∧ ∃ f : Nat, ∃ hf : f < s.length, pick 1 s k = f ∧ decide (s[f] < s[k]) = true ∧ pick 1 s (k + 1) = k) ∨
    (decide (0 < s[k]) = true ∧ ∃ f : Nat, ∃ hf : f < s.length, pick 1 s k = f ∧ decide (s[f] < s[k]) = false ∧ pick 1 s (k + 1) = f) := by
  have hp : pick 1 s (k + 1) = if 0 < 1 * at_ s k ∧ (pick 1 s k < 0 ∨ 1 * at_ s (pick 1 s k).toNat < 1 * at_ s k) then (k : Int) else pick 1 s k := rfl
  rw [at_lt hk] at hp
  by_cases h0 : 0 < s[k]
  · rcases pick_facts 1 s k with ⟨h1, _⟩ | ⟨f, h1, hf, _⟩
    · refine .inr (.inl ⟨decide_eq_true h0, h1, ?_⟩)
      rw [hp, if_pos ⟨by omega, .inl (by omega)⟩]
    · have hfl : f < s.length := by omega
      rw [h1, Int.toNat_natCast, at_lt hfl] at hp
      by_cases h2 : s[f] < s[k]
      · refine .inr (.inr (.inl ⟨decide_eq_true h0, f, hfl, h1, decide_eq_true h2, ?_⟩))
        rw [hp, if_pos ⟨by omega, .inr (by omega)⟩]
      · refine .inr (.inr (.inr ⟨decide_eq_true h0, f, hfl, h1, decide_eq_false h2, ?_⟩))
        rw [hp, if_neg (by omega)]
  · refine .inl ⟨decide_eq_false h0, ?_⟩
    rw [hp, if_neg (by omega)]
theorem netI_end {n : Nat} {ps s : List Int} (h : pick (-1) s s.length < 0 ∨ pick 1 s s.length < 0) : netI n ps s = [] := by
  cases n with
  | zero => rfl
  | succ n => rw [netI, if_pos h]
theorem netI_go {n : Nat} {ps s : List Int} {f t : Nat} (hf : pick (-1) s s.length = f) (ht : pick 1 s s.length = t) (hn : nz s ≤ n) (hp : ps.length = s.length) : ∃ hf' : f < s.length, ∃ ht' : t < s.length, ∃ hfp : f < ps.length, ∃ htp : t < ps.length, s[f] < 0 ∧ 0 < s[t] ∧ f ≠ t ∧
    netI n ps s = ⟨ps[f], ps[t], min (-s[f]) s[t]⟩ :: netI (n - 1) ps (shiftB s f t) ∧ nz (shiftB s f t) + 1 ≤ nz s := by
  rcases pick_facts (-1) s s.length with ⟨h1, _⟩ | ⟨f', h1, f1, f2, _⟩
  · omega
  rcases pick_facts 1 s s.length with ⟨h2, _⟩ | ⟨t', h2, t1, t2, _⟩
  · omega
  obtain rfl : f = f' := by omega
  obtain rfl : t = t' := by omega
  rw [at_lt f1] at f2
  rw [at_lt t1] at t2
  have hz : 0 < nz s := nz_pos (i := f) (by rw [at_lt f1]; omega)
  refine ⟨f1, t1, by omega, by omega, by omega, by omega, fun e => by subst e; omega, ?_, nz_move f1 t1 (by rw [at_lt f1]; omega) (by rw [at_lt t1]; omega)⟩
  obtain ⟨m, rfl⟩ : ∃ m, n = m + 1 := ⟨n - 1, by omega⟩
  rw [netI, if_neg (by omega), hf, ht, Int.toNat_natCast, Int.toNat_natCast, at_lt f1, at_lt t1, at_lt (by omega : f < ps.length), at_lt (by omega : t < ps.length)]
  rfl
theorem netGo_end {n : Nat} {o : List Int} (h : at_ o (mostN (-1) o 100) = 0) : netGo n o = [] := by
  cases n with
  | zero => rfl
  | succ n => rw [netGo, if_pos h]
theorem netGo_go {n : Nat} {o : List Int} (hi : NInv o) (h : at_ o (mostN (-1) o 100) ≠ 0) (hn : nz o ≤ n) :
    netGo n o = ⟨mostN (-1) o 100, mostN 1 o 100, min (-at_ o (mostN (-1) o 100)) (at_ o (mostN 1 o 100))⟩ :: netGo (n - 1) (shiftB o (mostN (-1) o 100) (mostN 1 o 100)) ∧
    nz (shiftB o (mostN (-1) o 100) (mostN 1 o 100)) + 1 ≤ nz o := by
  have hz := nz_pos h
  obtain ⟨h1, h2⟩ := hi.signs h
  refine ⟨?_, nz_move (by rw [hi.len]; exact most_lt _ _) (by rw [hi.len]; exact most_lt _ _) h1 h2⟩
  obtain ⟨m, rfl⟩ : ∃ m, n = m + 1 := ⟨n - 1, by omega⟩
  rw [netGo, if_neg h]
  rfl
def dsum (l : List Debt) : Int := l.foldl (fun n d => n + d.Amt) 0
theorem dsum_succ (l : List Debt) {k : Nat} (hk : k < l.length) : dsum (l.take (k + 1)) = dsum (l.take k) + l[k].Amt := foldl_take_succ l _ _ hk
theorem dsum_bd {l : List Debt} (h : ∀ d ∈ l, 0 ≤ d.Amt ∧ d.Amt ≤ 60000000000) (k : Nat) : 0 ≤ dsum (l.take k) ∧ dsum (l.take k) ≤ (k : Int) * 60000000000 := by
  induction k with
  | zero => simp [dsum]
  | succ k ih =>
    by_cases hk : k < l.length
    · rw [dsum_succ l hk]
      have := h _ (List.getElem_mem hk)
      omega
    · rw [List.take_of_length_le (by omega)] at ih ⊢
      omega
theorem debts_amt {l : List Debt} (h : debtsOk l = true) : ∀ d ∈ l, 0 ≤ d.Amt ∧ d.Amt ≤ 60000000000 := by
  intro d hd
  simp only [debtsOk, Bool.and_eq_true, List.all_eq_true] at h
  have := debtOk_iff.1 (h.1 d hd)
  omega
def ringsR (l : List Debt) : Int := if debtsOk l = true then dsum l - dsum (netR l) else 0
end Go.Proofs.Ytombjkokncepnaa
