/- Texts of numbers, accounts, debts, ledgers and postings, cut at their bytes: plain. -/
import Derived.Test.YtgpledgjpjifcaaGreatDoorRows
import Derived.Test.YtgpledgjpjifcaaGreatDoorTNum
import Derived.Test.YtgpledgjpjifcaaGreatDoorParts
import Derived.Test.YtgpledgjpjifcaaGreatDoorTxtL
namespace Go.Proofs.YtgpledgjpjifcaaGreatDoor
open Go

theorem digit_in {b : UInt8} {d : Nat} (h : Lib.digitVal b = some d) : 48 ≤ b.toNat ∧ b.toNat ≤ 57 := by
  unfold Lib.digitVal at h
  split at h
  · assumption
  · cases h
theorem dec_in {l : List UInt8} {n : Nat} (h : Lib.decFrom 0 l = some n) {b : UInt8} (hb : b ∈ l) : 48 ≤ b.toNat ∧ b.toNat ≤ 57 := by
  obtain ⟨j, hj, e⟩ := List.mem_iff_getElem.1 hb
  obtain ⟨d, hd⟩ := Lib.digit_of_decFrom l 0 n h j b (by rw [List.getElem?_eq_getElem hj, e])
  exact digit_in hd
theorem num_chars {n : Int} {b : UInt8} (hb : b ∈ numL n) : b.toNat = 45 ∨ (48 ≤ b.toNat ∧ b.toNat ≤ 57) := by
  cases hn : numB n with
  | false =>
    exfalso
    unfold numL at hb
    rw [hn] at hb
    simp at hb
  | true =>
    rcases num_shape hn with ⟨_, h, _⟩ | ⟨_, r, e, h⟩
    · exact .inr (dec_in h hb)
    · rw [e] at hb
      rcases List.mem_cons.1 hb with rfl | hb
      · exact .inl rfl
      · exact .inr (dec_in h hb)
theorem num_no {n : Int} {b : UInt8} (h : b = 10 ∨ b = 32 ∨ b = 58 ∨ b = 62) : b ∉ numL n := fun k => by
  have := num_chars k
  rcases h with rfl | rfl | rfl | rfl <;> simp at this
theorem num_head {n : Int} (h1 : 0 ≤ n) (h2 : n ≤ 1125899906842624) : ∃ b r, numL n = b :: r ∧ 48 ≤ b.toNat ∧ b.toNat ≤ 57 := by
  have hn : numB n = true := numB_iff.2 ⟨by omega, h2⟩
  rcases num_shape hn with ⟨_, h, b, r, e, _⟩ | ⟨_, _⟩
  · exact ⟨b, r, e, dec_in h (by rw [e]; simp)⟩
  · omega
theorem word_chars {k : Int} {b : UInt8} (hb : b ∈ wordL k) : 97 ≤ b.toNat ∧ b.toNat ≤ 122 := by
  have key : ∀ l : List UInt8, (l.all fun b => decide (97 ≤ b.toNat ∧ b.toNat ≤ 122)) = true → b ∈ l → 97 ≤ b.toNat ∧ b.toNat ≤ 122 := fun l hl hm => by
    simpa using List.all_eq_true.1 hl b hm
  unfold wordL at hb
  split at hb <;> first | exact key _ (by decide) hb | simp at hb
theorem accB_iff {k c : Int} : accB k c = true ↔ ((6 ≤ k ∧ k ≤ 8) ∧ 1 ≤ c ∧ c ≤ 99) ∨ ((1 ≤ k ∧ k ≤ 5) ∧ c = 0) := by
  unfold accB
  by_cases h : inB k 6 8 = true
  · rw [if_pos h, inB_iff]
    rw [inB_iff] at h
    omega
  · rw [if_neg h]
    rw [inB_iff] at h
    simp only [Bool.and_eq_true, inB_iff, decide_eq_true_eq]
    omega
theorem acc_chars {k c : Int} {b : UInt8} (hb : b ∈ accL k c) : (97 ≤ b.toNat ∧ b.toNat ≤ 122) ∨ b.toNat = 45 ∨ (48 ≤ b.toNat ∧ b.toNat ≤ 57) := by
  unfold accL at hb
  split at hb
  · rcases List.mem_append.1 hb with hb | hb
    · exact .inl (word_chars hb)
    · split at hb
      · exact .inr (num_chars hb)
      · simp at hb
  · simp at hb
theorem acc_no {k c : Int} {b : UInt8} (h : b = 10 ∨ b = 32 ∨ b = 58 ∨ b = 62) : b ∉ accL k c := fun j => by
  have := acc_chars j
  rcases h with rfl | rfl | rfl | rfl <;> simp at this
theorem acc_ne {k c : Int} (h : accB k c = true) : accL k c ≠ [] := by
  unfold accL
  rw [if_pos h]
  have hk : k = 1 ∨ k = 2 ∨ k = 3 ∨ k = 4 ∨ k = 5 ∨ k = 6 ∨ k = 7 ∨ k = 8 := by
    have := accB_iff.1 h
    omega
  rcases hk with rfl | rfl | rfl | rfl | rfl | rfl | rfl | rfl <;> simp [wordL]
theorem accL_low {k : Int} (h : 1 ≤ k ∧ k ≤ 5) : accL k 0 = wordL k := by
  unfold accL
  rw [if_pos (accB_iff.2 (.inr ⟨h, rfl⟩)), if_neg (by omega), List.append_nil]
theorem accL_high {k c : Int} (h : 6 ≤ k ∧ k ≤ 8) (hc : 1 ≤ c ∧ c ≤ 99) : accL k c = wordL k ++ numL c := by
  unfold accL
  rw [if_pos (accB_iff.2 (.inl ⟨h, hc⟩)), if_pos (by omega)]
theorem accL_inj {k c k' c' : Int} (h : accB k c = true) (h' : accB k' c' = true) (e : accL k c = accL k' c') : k = k' ∧ c = c' := by
  rcases accB_iff.1 h with ⟨hk, hc⟩ | ⟨hk, rfl⟩ <;> rcases accB_iff.1 h' with ⟨hk', hc'⟩ | ⟨hk', rfl⟩
  · rw [accL_high hk hc, accL_high hk' hc'] at e
    have a : k = 6 ∨ k = 7 ∨ k = 8 := by omega
    have a' : k' = 6 ∨ k' = 7 ∨ k' = 8 := by omega
    have fin : numL c = numL c' → c = c' := numL_inj (numB_iff.2 (by omega)) (numB_iff.2 (by omega))
    rcases a with rfl | rfl | rfl <;> rcases a' with rfl | rfl | rfl <;> simp [wordL] at e <;> exact ⟨rfl, fin e⟩
  · obtain ⟨b, r, hb, h1, h2⟩ := num_head (n := c) (by omega) (by omega)
    rw [accL_high hk hc, accL_low hk', hb] at e
    have a : k = 6 ∨ k = 7 ∨ k = 8 := by omega
    have a' : k' = 1 ∨ k' = 2 ∨ k' = 3 ∨ k' = 4 ∨ k' = 5 := by omega
    rcases a with rfl | rfl | rfl <;> rcases a' with rfl | rfl | rfl | rfl | rfl <;> simp [wordL] at e
    obtain ⟨rfl, _⟩ := e
    simp at h2
  · obtain ⟨b, r, hb, h1, h2⟩ := num_head (n := c') (by omega) (by omega)
    rw [accL_high hk' hc', accL_low hk, hb] at e
    have a : k = 1 ∨ k = 2 ∨ k = 3 ∨ k = 4 ∨ k = 5 := by omega
    have a' : k' = 6 ∨ k' = 7 ∨ k' = 8 := by omega
    rcases a with rfl | rfl | rfl | rfl | rfl <;> rcases a' with rfl | rfl | rfl <;> simp [wordL] at e
    obtain ⟨rfl, _⟩ := e
    simp at h2
  · rw [accL_low hk, accL_low hk'] at e
    have a : k = 1 ∨ k = 2 ∨ k = 3 ∨ k = 4 ∨ k = 5 := by omega
    have a' : k' = 1 ∨ k' = 2 ∨ k' = 3 ∨ k' = 4 ∨ k' = 5 := by omega
    rcases a with rfl | rfl | rfl | rfl | rfl <;> rcases a' with rfl | rfl | rfl | rfl | rfl <;> simp [wordL] at e <;> exact ⟨rfl, rfl⟩
/-- what a text says of an account -/
def AccIs (s : List UInt8) (k c : Int) (ok : Bool) : Prop :=
  (ok = true ∧ accB k c = true ∧ accL k c = s) ∨ (ok = false ∧ k = 0 ∧ c = 0 ∧ ∀ k' c', accB k' c' = true → accL k' c' ≠ s)
theorem AccIs.of {k c k' c' : Int} {ok : Bool} (h : AccIs (accL k c) k' c' ok) (hb : accB k c = true) : ok = true ∧ k' = k ∧ c' = c := by
  rcases h with ⟨rfl, h1, h2⟩ | ⟨_, _, _, h1⟩
  · exact ⟨rfl, accL_inj h1 hb h2⟩
  · exact absurd rfl (h1 k c hb)
/-! ### debts -/
theorem debtL_eq {d : Debt} (h : debtOk d = true) : debtL d = numL d.From ++ 62 :: (numL d.To ++ 32 :: numL d.Amt) := by
  unfold debtL
  rw [if_pos h]
  simp
theorem debt_nums {d : Debt} (h : debtOk d = true) : numB d.From = true ∧ numB d.To = true ∧ numB d.Amt = true := by
  have := debtOk_iff.1 h
  exact ⟨numB_iff.2 (by omega), numB_iff.2 (by omega), numB_iff.2 (by omega)⟩
theorem debt_parts {d : Debt} (h : debtOk d = true) : parts 32 (debtL d) = [numL d.From ++ 62 :: numL d.To, numL d.Amt] := by
  rw [debtL_eq h, show numL d.From ++ 62 :: (numL d.To ++ 32 :: numL d.Amt) = (numL d.From ++ 62 :: numL d.To) ++ 32 :: numL d.Amt by simp, parts_mid, parts_none (num_no (by simp))]
  simp only [List.mem_append, List.mem_cons, not_or]
  exact ⟨num_no (by simp), by decide, num_no (by simp)⟩
theorem debt_peers (d : Debt) : parts 62 (numL d.From ++ 62 :: numL d.To) = [numL d.From, numL d.To] := by
  rw [parts_mid _ (num_no (by simp)), parts_none (num_no (by simp))]
theorem debt_words {d : Debt} (h : debtOk d = true) : parts 32 (Lib.replace (debtL d) [62] [32] 1) = [numL d.From, numL d.To, numL d.Amt] := by
  rw [debtL_eq h, replace_mid (num_no (by simp)) (by decide), parts_mid _ (num_no (by simp)), parts_mid _ (num_no (by simp)), parts_none (num_no (by simp))]
/-! ### ledgers and postings -/
theorem foldl_flat {α : Type} (f : α → List UInt8) : ∀ (l : List α) (s : List UInt8), l.foldl (fun s x => s ++ f x) s = s ++ (l.map f).flatten
  | [], s => by simp
  | x :: l, s => by
    rw [List.foldl_cons, foldl_flat f l]
    simp
def rowC (x : Line) : List UInt8 := accL x.Kind x.Ch ++ 32 :: numL x.Amt
def itemC (x : Line) : List UInt8 := accL x.Kind x.Ch ++ 58 :: numL x.Amt
theorem rowL_eq (x : Line) : rowL x = rowC x ++ [10] := by simp [rowL, rowC]
theorem itemL_eq (x : Line) : itemL x = 32 :: itemC x := by simp [itemL, itemC]
theorem rowC_no (x : Line) : (10 : UInt8) ∉ rowC x := by
  unfold rowC
  simp only [List.mem_append, List.mem_cons, not_or]
  exact ⟨acc_no (by simp), by decide, num_no (by simp)⟩
theorem itemC_no (x : Line) : (32 : UInt8) ∉ itemC x := by
  unfold itemC
  simp only [List.mem_append, List.mem_cons, not_or]
  exact ⟨acc_no (by simp), by decide, num_no (by simp)⟩
theorem rowC_parts (x : Line) : parts 32 (rowC x) = [accL x.Kind x.Ch, numL x.Amt] := by
  unfold rowC
  rw [parts_mid _ (acc_no (by simp)), parts_none (num_no (by simp))]
theorem itemC_parts (x : Line) : parts 58 (itemC x) = [accL x.Kind x.Ch, numL x.Amt] := by
  unfold itemC
  rw [parts_mid _ (acc_no (by simp)), parts_none (num_no (by simp))]
theorem rowC_cut (x : Line) : Lib.cut (rowC x) [32] = (accL x.Kind x.Ch, numL x.Amt, true) := cut_mid (acc_no (by simp))
theorem itemC_cut (x : Line) : Lib.cut (itemC x) [58] = (accL x.Kind x.Ch, numL x.Amt, true) := cut_mid (acc_no (by simp))
theorem lines_parts {α : Type} (f : α → List UInt8) (hf : ∀ x, (10 : UInt8) ∉ f x) : ∀ l : List α, parts 10 (l.map fun x => f x ++ [10]).flatten = l.map f ++ [[]]
  | [] => rfl
  | x :: l => by
    rw [List.map_cons, List.flatten_cons, show f x ++ [10] ++ (l.map fun x => f x ++ [10]).flatten = f x ++ 10 :: (l.map fun x => f x ++ [10]).flatten by simp, parts_mid _ (hf x), lines_parts f hf l]
    rfl
theorem lines_parts_to {α : Type} (f : α → List UInt8) (hf : ∀ x, (10 : UInt8) ∉ f x) (t : List UInt8) : ∀ l : List α, parts 10 ((l.map fun x => f x ++ [10]).flatten ++ t) = l.map f ++ parts 10 t
  | [] => rfl
  | x :: l => by
    rw [List.map_cons, List.flatten_cons, show f x ++ [10] ++ (l.map fun x => f x ++ [10]).flatten ++ t = f x ++ 10 :: ((l.map fun x => f x ++ [10]).flatten ++ t) by simp, parts_mid _ (hf x), lines_parts_to f hf t l]
    rfl
theorem words_parts {α : Type} (f : α → List UInt8) (hf : ∀ x, (32 : UInt8) ∉ f x) : ∀ (l : List α) (y : List UInt8), (32 : UInt8) ∉ y → parts 32 (y ++ (l.map fun x => 32 :: f x).flatten) = y :: l.map f
  | [], y, hy => by simpa using parts_none hy
  | x :: l, y, hy => by
    rw [List.map_cons, List.flatten_cons, List.cons_append, parts_mid _ hy, words_parts f hf l (f x) (hf x)]
    rfl
def ledC (z : Int) : List UInt8 := [108, 101, 100, 103, 101, 114, 32] ++ numL z
theorem led_parts (z : Int) (l : List Line) : parts 10 (ledTo z l) = ledC z :: (l.map rowC ++ [[]]) := by
  unfold ledTo
  rw [foldl_flat, show ledHead z ++ (l.map rowL).flatten = ledC z ++ 10 :: (l.map fun x => rowC x ++ [10]).flatten by
    unfold ledHead ledC
    rw [show rowL = fun x => rowC x ++ [10] from funext rowL_eq]
    simp, parts_mid, lines_parts rowC rowC_no]
  unfold ledC
  simp only [List.mem_append, not_or]
  exact ⟨by decide, num_no (by simp)⟩
theorem ledC_parts (z : Int) : parts 32 (ledC z) = [[108, 101, 100, 103, 101, 114], numL z] := by
  unfold ledC
  rw [show ([108, 101, 100, 103, 101, 114, 32] : List UInt8) ++ numL z = [108, 101, 100, 103, 101, 114] ++ 32 :: numL z by simp, parts_mid _ (by decide), parts_none (num_no (by simp))]
theorem ledC_trim (z : Int) : Lib.trimPrefix (ledC z) [108, 101, 100, 103, 101, 114, 32] = numL z := by
  unfold ledC Lib.trimPrefix Lib.hasPrefix
  simp
theorem post_parts (z : Int) (l : List Line) : parts 32 (postTo z l) = [112, 111, 115, 116] :: numL z :: l.map itemC := by
  unfold postTo
  rw [foldl_flat, show postHead z ++ (l.map itemL).flatten = [112, 111, 115, 116] ++ 32 :: (numL z ++ (l.map fun x => 32 :: itemC x).flatten) by
    unfold postHead
    rw [show itemL = fun x => 32 :: itemC x from funext itemL_eq]
    simp, parts_mid _ (by decide), words_parts itemC itemC_no _ _ (num_no (by simp))]
theorem ledger_nums {z : Int} {l : List Line} (h : ledgerB z l = true) : numB z = true ∧ ∀ x ∈ l, accB x.Kind x.Ch = true ∧ numB x.Amt = true := by
  obtain ⟨h1, _, h3⟩ := ledgerB_iff.1 h
  refine ⟨numB_iff.2 (by omega), fun x hx => ?_⟩
  obtain ⟨k, hk, rfl⟩ := List.mem_iff_getElem.1 hx
  have := linesB_at h3 hk
  exact ⟨this.1, numB_iff.2 this.2.2⟩
theorem posting_nums {z : Int} {l : List Line} (h : postingB z l = true) : numB z = true ∧ ∀ x ∈ l, accB x.Kind x.Ch = true ∧ numB x.Amt = true := by
  obtain ⟨h1, _, _, h3⟩ := postingB_iff.1 h
  refine ⟨numB_iff.2 (by omega), fun x hx => ?_⟩
  obtain ⟨k, hk, rfl⟩ := List.mem_iff_getElem.1 hx
  have := linesB_at h3 hk
  exact ⟨this.1, numB_iff.2 this.2.2⟩
end Go.Proofs.YtgpledgjpjifcaaGreatDoor
