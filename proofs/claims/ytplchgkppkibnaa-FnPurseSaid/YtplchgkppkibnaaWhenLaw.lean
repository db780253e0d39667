/- Purses: the returned time is the first at which may be spent, and spending there keeps the purse sound: plain, no program in sight. -/
import Derived.Test.YtplchgkppkibnaaRows
import Derived.Test.YtplchgkppkibnaaPurseWs
import Derived.Test.YtplchgkppkibnaaSpendS
namespace Go.Proofs.Ytplchgkppkibnaa
open Go.RowKit

theorem last_such (p : Nat → Prop) : ∀ N : Nat, (∃ i, i < N ∧ p i) → ∃ j, j < N ∧ p j ∧ ∀ k, j < k → k < N → ¬ p k
  | 0, ⟨i, h, _⟩ => absurd h (Nat.not_lt_zero _)
  | N + 1, ⟨i, h, hp⟩ => by
    by_cases hN : p N
    · exact ⟨N, Nat.lt_succ_self _, hN, fun k h1 h2 => by omega⟩
    · have hi : i < N := by
        rcases Nat.lt_succ_iff_lt_or_eq.1 h with h | h
        · exact h
        · subst h; exact absurd hp hN
      obtain ⟨j, hj, h1, h2⟩ := last_such p N ⟨i, hi, hp⟩
      refine ⟨j, by omega, h1, fun k hk hk2 => ?_⟩
      rcases Nat.lt_succ_iff_lt_or_eq.1 hk2 with h | h
      · exact h2 k hk h
      · subst h; exact hN
theorem last_max {l : List Coin} (h : CoinsOk l) {x : Coin} (hx : x ∈ l) : x.At ≤ lastAt l := by
  obtain ⟨i, hi, rfl⟩ := List.getElem_of_mem hx
  rw [lastAt_get (by omega)]
  have := sorted_le h.1 (l.length - 1 - i) i hi (by omega)
  simpa [show i + (l.length - 1 - i) = l.length - 1 by omega] using this
theorem counted_le_of {s a b : Int} {l : List Coin} (h : CoinsOk l) (hab : ∀ x ∈ l, (x.At ≤ a ∧ a - x.At < s) → (x.At ≤ b ∧ b - x.At < s)) : counted s a l ≤ counted s b l := by
  refine counted_mono (fun x hx => ?_) hab 0 0 (Int.le_refl _)
  obtain ⟨i, hi, rfl⟩ := List.getElem_of_mem hx
  have := h.at_ hi
  omega
theorem may_before {c s n F : Int} {l : List Coin} {x : Coin} (h : CoinsOk l) (hF : lastAt l ≤ F) (hno : mayB c s F n l = false) (hx : l.find? (endOk c s n F l) = some x) : mayB c s (x.At + s - 1) n l = false := by
  refine Bool.eq_false_iff.2 fun hT => ?_
  have hp := List.find?_some hx
  simp only [endOk, Bool.and_eq_true, decide_eq_true_eq] at hp
  obtain ⟨⟨p1, p2⟩, p3⟩ := hp
  simp only [mayB, decide_eq_true_eq, decide_eq_false_iff_not] at hT hno
  by_cases hex : ∃ i, i < l.length ∧ (∃ hi : i < l.length, F < l[i].At + s ∧ l[i].At + s ≤ x.At + s - 1)
  · obtain ⟨i, hi, hi', q1, q2⟩ := hex
    obtain ⟨j, hj, ⟨hj', r1⟩, r2⟩ := last_such (fun j => ∃ hj : j < l.length, l[j].At + s ≤ x.At + s - 1) l.length ⟨i, hi, hi', q2⟩
    have hij : i ≤ j := Nat.le_of_not_lt fun hc => r2 i hc hi ⟨hi', q2⟩
    have hse := sorted_le h.1 (j - i) i hi (by omega)
    have hse' : l[i].At ≤ l[j].At := by simpa [show i + (j - i) = j by omega] using hse
    have hcnt : counted s (l[j].At + s) l ≤ counted s (x.At + s - 1) l := counted_le_of h (fun y hy ⟨y1, y2⟩ => by
      obtain ⟨k, hk, rfl⟩ := List.getElem_of_mem hy
      have hyl := last_max h hy
      refine ⟨by omega, ?_⟩
      refine Int.lt_of_not_ge fun hc => ?_
      by_cases hkj : j < k
      · exact r2 k hkj hk ⟨hk, by omega⟩
      · have := sorted_le h.1 (j - k) k hk (by omega)
        have : l[k].At ≤ l[j].At := by simpa [show k + (j - k) = j by omega] using this
        omega)
    have hok : endOk c s n F l l[j] = true := by
      simp only [endOk, mayB, Bool.and_eq_true, decide_eq_true_eq]
      refine ⟨⟨by omega, by omega⟩, by omega⟩
    cases hf : (l.take (j + 1)).find? (endOk c s n F l) with
    | none =>
      have := List.find?_eq_none.1 hf l[j] (by
        rw [List.mem_take_iff_getElem]
        exact ⟨j, by omega, rfl⟩)
      exact this hok
    | some y =>
      have h2 := find_take_stay hf (m := l.length) (by omega)
      rw [List.take_length, hx] at h2
      injection h2 with h2
      subst h2
      have hm := List.mem_of_find?_eq_some hf
      obtain ⟨k, hk, hkx⟩ := List.getElem_of_mem hm
      rw [List.length_take] at hk
      rw [List.getElem_take] at hkx
      have := sorted_le h.1 (j - k) k (by omega) (by omega)
      have : l[k].At ≤ l[j].At := by simpa [show k + (j - k) = j by omega] using this
      rw [hkx] at this
      omega
  · have hcnt : counted s F l ≤ counted s (x.At + s - 1) l := counted_le_of h (fun y hy ⟨y1, y2⟩ => by
      obtain ⟨k, hk, rfl⟩ := List.getElem_of_mem hy
      refine ⟨by omega, ?_⟩
      refine Int.lt_of_not_ge fun hc => hex ⟨k, hk, hk, by omega, by omega⟩)
    omega
theorem when_law (c s a n : Int) (l : List Coin) : (purseWhen c s a n l = -1) ∨ (0 ≤ purseWhen c s a n l ∧ purseWhen c s a n l ≤ 1000000000 ∧ maySpend c s (purseWhen c s a n l) n l = true ∧ (a < purseWhen c s a n l → 0 ≤ a → maySpend c s (purseWhen c s a n l - 1) n l = false)) := by
  unfold purseWhen
  split
  · rename_i h
    simp only [Bool.and_eq_true, decide_eq_true_eq] at h
    obtain ⟨⟨hp, hn⟩, ha⟩ := h
    have hf : purseForm c s l = true := by
      simp only [purseOk, Bool.and_eq_true] at hp
      exact hp.1
    obtain ⟨hok, ⟨q1, q2⟩, q3, q4⟩ := purseForm_iff.1 hf
    obtain ⟨b1, b2⟩ := lastAt_bd hok
    have hF : lastAt l ≤ max a (lastAt l) := by omega
    have hask : ∀ t, lastAt l ≤ t → 0 ≤ t → t ≤ 1000000000 → mayB c s t n l = true → maySpend c s t n l = true := fun t h1 h2 h3 h4 => by
      rw [maySpend_ask hp hn h1, h4, Bool.and_true]
      exact inB_iff.2 ⟨h2, h3⟩
    split
    · rename_i hm
      refine .inr ⟨by omega, by omega, hask _ hF (by omega) (by omega) hm, fun h1 h2 => ?_⟩
      have : ¬ lastAt l ≤ max a (lastAt l) - 1 := by omega
      simp [maySpend, canAsk, this]
    · rename_i hm
      have hm' : mayB c s (max a (lastAt l)) n l = false := by simpa using hm
      unfold firstEnd
      rw [List.take_length]
      cases hx : l.find? (endOk c s n (max a (lastAt l)) l) with
      | none => exact .inl rfl
      | some x =>
        have hpx := List.find?_some hx
        simp only [endOk, Bool.and_eq_true, decide_eq_true_eq] at hpx
        obtain ⟨⟨p1, p2⟩, p3⟩ := hpx
        refine .inr ⟨by simp only; omega, p2, hask _ (by simp only; omega) (by simp only; omega) p2 p3, fun _ _ => ?_⟩
        have := may_before hok hF hm' hx
        simp [maySpend, this]
  · exact .inl rfl
theorem counted_app (s a : Int) (l : List Coin) (x : Coin) : counted s a (l ++ [x]) = countedF s a (counted s a l) x := by
  unfold counted
  rw [List.foldl_append]
  rfl
theorem counted_keep_self (s a : Int) (l : List Coin) : counted s a (l.filter (counts s a)) = counted s a l := by
  have key : ∀ (l : List Coin) (m : Int), (l.filter (counts s a)).foldl (countedF s a) m = l.foldl (countedF s a) m := by
    intro l
    induction l with
    | nil => intro m; rfl
    | cons x l ih =>
      intro m
      rw [List.filter_cons, List.foldl_cons]
      cases h : counts s a x
      · rw [if_neg (by decide), ih, countedF_counts, h]; rfl
      · rw [if_pos rfl, List.foldl_cons, ih]
  exact key l 0
theorem counted_keep_le (s a t : Int) (l : List Coin) (h : ∀ x ∈ l, 0 ≤ x.Amt) : counted s a (l.filter (counts s t)) ≤ counted s a l := by
  have key : ∀ (l : List Coin) (m k : Int), (∀ x ∈ l, 0 ≤ x.Amt) → m ≤ k → (l.filter (counts s t)).foldl (countedF s a) m ≤ l.foldl (countedF s a) k := by
    intro l
    induction l with
    | nil => intro m k _ h; exact h
    | cons x l ih =>
      intro m k h hmk
      have hx := h x (by simp)
      rw [List.filter_cons, List.foldl_cons]
      cases hc : counts s t x
      · rw [if_neg (by decide)]
        refine ih _ _ (fun y hy => h y (by simp [hy])) ?_
        rw [countedF_counts]
        split <;> omega
      · rw [if_pos rfl, List.foldl_cons]
        refine ih _ _ (fun y hy => h y (by simp [hy])) ?_
        rw [countedF_counts, countedF_counts]
        split <;> omega
  exact key l 0 0 h (Int.le_refl _)
theorem coinsOk_of {l : List Coin} (hb : ∀ x ∈ l, (0 ≤ x.At ∧ x.At ≤ 1000000000) ∧ 1 ≤ x.Amt ∧ x.Amt ≤ 1125899906842624) (hp : l.Pairwise fun x y => x.At ≤ y.At) (hl : l.length ≤ 40) : CoinsOk l := by
  refine ⟨upTo_iff.2 fun i hi => ?_, hl⟩
  unfold coinAt
  rw [List.getElem?_eq_getElem hi]
  obtain ⟨⟨b1, b2⟩, b3, b4⟩ := hb _ (List.getElem_mem hi)
  have h1 : timeB l[i].At = true := inB_iff.2 ⟨b1, b2⟩
  have h2 : inB l[i].Amt 1 1125899906842624 = true := inB_iff.2 ⟨b3, b4⟩
  simp only [h1, h2, Bool.true_and]
  by_cases h0 : i = 0
  · simp [h0]
  · have hi2 : i - 1 < l.length := by omega
    rw [List.getElem?_eq_getElem hi2]
    have := List.pairwise_iff_getElem.1 hp (i - 1) i hi2 hi (by omega)
    simp [this]
theorem coinsOk_pairwise {l : List Coin} (h : CoinsOk l) : l.Pairwise fun x y => x.At ≤ y.At := by
  rw [List.pairwise_iff_getElem]
  intro i j hi hj hij
  have := sorted_le h.1 (j - i) i hi (by omega)
  simpa [show i + (j - i) = j by omega] using this
/-- Spending keeps the purse sound, and what is used grows by what is spent. -/
theorem spend_law {c s t n : Int} {l : List Coin} (hm : maySpend c s t n l = true) (hk : (spendKeep s t l).length + 1 ≤ 40) :
    purseOk c s (spendKeep s t l ++ [⟨t, n⟩]) = true ∧ usedR c s t (spendKeep s t l ++ [⟨t, n⟩]) = usedR c s t l + n ∧ usedR c s t (spendKeep s t l ++ [⟨t, n⟩]) ≤ c := by
  have hm0 := hm
  simp only [maySpend, Bool.and_eq_true, canAsk, mayB, decide_eq_true_eq] at hm
  obtain ⟨⟨hp, ⟨ht, hl⟩, hn⟩, hmay⟩ := hm
  have hn' := inB_iff.1 hn
  have ht' : 0 ≤ t ∧ t ≤ 1000000000 := inB_iff.1 ht
  have hu : usedR c s t l = counted s t l := askB_used (n := n) (by simp [askB, canAsk, hp, ht, hl, hn])
  have hp2 := hp
  simp only [purseOk, Bool.and_eq_true, List.all_eq_true, decide_eq_true_eq] at hp2
  obtain ⟨hf, hall⟩ := hp2
  obtain ⟨hok, ⟨q1, q2⟩, q3, q4⟩ := purseForm_iff.1 hf
  have hmem : ∀ x ∈ l, (0 ≤ x.At ∧ x.At ≤ 1000000000) ∧ 1 ≤ x.Amt ∧ x.Amt ≤ 1125899906842624 := fun x hx => by
    obtain ⟨i, hi, rfl⟩ := List.getElem_of_mem hx
    exact hok.at_ hi
  have hnn : ∀ x ∈ l, 0 ≤ x.Amt := fun x hx => by have := hmem x hx; omega
  have hkm : ∀ x ∈ spendKeep s t l, x ∈ l := fun x hx => (List.mem_filter.1 hx).1
  have hck : counted s t (spendKeep s t l) = counted s t l := counted_keep_self s t l
  have hct : counted s t (spendKeep s t l ++ [⟨t, n⟩]) = counted s t l + n := by
    rw [counted_app, countedF_counts, hck, if_pos (by simp [counts]; omega)]
  have hcb := counted_all s t hok
  have hform : purseForm c s (spendKeep s t l ++ [⟨t, n⟩]) = true := by
    refine purseForm_iff.2 ⟨coinsOk_of ?_ ?_ (by simpa using hk), ⟨q1, q2⟩, q3, q4⟩
    · intro x hx
      rcases List.mem_append.1 hx with hx | hx
      · exact hmem x (hkm x hx)
      · rw [List.mem_singleton.1 hx]
        exact ⟨ht', by omega⟩
    · rw [List.pairwise_append]
      refine ⟨(coinsOk_pairwise hok).sublist List.filter_sublist, by simp, fun x hx y hy => ?_⟩
      rw [List.mem_singleton.1 hy]
      have := last_max hok (hkm x hx)
      simp only
      omega
  have hused : usedR c s t (spendKeep s t l ++ [⟨t, n⟩]) = counted s t l + n := by
    rw [usedR, if_pos hform, hct, if_pos (amtB_iff.2 ⟨by omega, by omega⟩)]
  refine ⟨?_, by rw [hused, hu], by rw [hused]; exact hmay⟩
  simp only [purseOk, Bool.and_eq_true, List.all_eq_true, decide_eq_true_eq]
  refine ⟨hform, fun x hx => ?_⟩
  by_cases hxt : x.At = t
  · rw [hxt, hct]; exact hmay
  · have hxl : x ∈ l := by
      rcases List.mem_append.1 hx with hx | hx
      · exact hkm x hx
      · rw [List.mem_singleton.1 hx] at hxt
        exact absurd rfl hxt
    have hlt := last_max hok hxl
    rw [counted_app, countedF_counts, if_neg (by simp [counts]; omega)]
    exact Int.le_trans (counted_keep_le s x.At t l hnn) (hall x hxl)
end Go.Proofs.Ytplchgkppkibnaa
