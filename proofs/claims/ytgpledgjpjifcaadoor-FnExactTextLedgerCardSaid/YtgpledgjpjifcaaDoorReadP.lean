/- Ledgers and postings read from a text: plain. -/
import Derived.Test.YtgpledgjpjifcaaDoorRows
import Derived.Test.YtgpledgjpjifcaaDoorTxtR
import Derived.Test.YtgpledgjpjifcaaDoorLinR
namespace Go.Proofs.YtgpledgjpjifcaaDoor
open Go

section
variable {B : Int → List Line → Bool} {F : Int → List Line → List UInt8} {s : List UInt8}
/-- what stands read so far, where the text is that of a valid (z', l') -/
def RInv (B : Int → List Line → Bool) (F : Int → List Line → List UInt8) (s : List UInt8) (h : Bool) (m : Nat) (z : Int) (L : List Line) : Prop :=
  ∀ z' l', B z' l' = true → F z' l' = s → (h = true → z = z') ∧ L = l'.take m
theorem RInv.start : RInv B F s false 0 0 [] := fun _ _ _ _ => ⟨by simp, by simp⟩
theorem RInv.head {h : Bool} {m : Nat} {z0 z : Int} {L : List Line} (r : RInv B F s h m z0 L) (hz : ∀ z' l', B z' l' = true → F z' l' = s → z = z') : RInv B F s true m z L :=
  fun z' l' h1 h2 => ⟨fun _ => hz z' l' h1 h2, (r z' l' h1 h2).2⟩
theorem RInv.next {h : Bool} {m : Nat} {z : Int} {L : List Line} {x : Line} (r : RInv B F s h m z L) (hx : ∀ z' l', B z' l' = true → F z' l' = s → ∃ hm : m < l'.length, x = l'[m]) : RInv B F s h (m + 1) z (L ++ [x]) :=
  fun z' l' h1 h2 => ⟨(r z' l' h1 h2).1, by
    obtain ⟨hm, rfl⟩ := hx z' l' h1 h2
    rw [(r z' l' h1 h2).2, List.take_succ_eq_append_getElem hm]⟩
theorem RInv.stay {h : Bool} {m : Nat} {z : Int} {L : List Line} (r : RInv B F s h m z L) (hx : ∀ z' l', B z' l' = true → F z' l' = s → l'.length ≤ m) : RInv B F s h (m + 1) z L :=
  fun z' l' h1 h2 => ⟨(r z' l' h1 h2).1, by
    have := hx z' l' h1 h2
    rw [(r z' l' h1 h2).2, List.take_of_length_le this, List.take_of_length_le (by omega)]⟩
theorem RInv.miss {m : Nat} {z : Int} {L : List Line} (r : RInv B F s true m z L) (hl : ∀ z' l', B z' l' = true → F z' l' = s → l'.length ≤ m) (h : F z L ≠ s) : LedIs B F s 0 [] false := by
  refine Or.inr ⟨rfl, rfl, rfl, fun z' l' h1 h2 => h ?_⟩
  obtain ⟨h3, h4⟩ := r z' l' h1 h2
  rw [h3 rfl, h4, List.take_of_length_le (hl z' l' h1 h2)]
  exact h2
theorem led_none (h : ∀ z' l', B z' l' = true → F z' l' = s → False) : LedIs B F s 0 [] false := Or.inr ⟨rfl, rfl, rfl, fun z' l' h1 h2 => h z' l' h1 h2⟩
end
theorem led_hit {s : List UInt8} {z : Int} {L : List Line} (hs : s ≠ []) (h : ledgerL z L = s) : LedIs ledgerB ledgerL s z L true := by
  refine Or.inl ⟨rfl, ?_, h⟩
  cases hb : ledgerB z L with
  | true => rfl
  | false =>
    exfalso
    refine hs ?_
    rw [← h]
    unfold ledgerL
    rw [hb]
    rfl
theorem post_hit {s : List UInt8} {z : Int} {L : List Line} (hs : s ≠ []) (h : postingL z L = s) : LedIs postingB postingL s z L true := by
  refine Or.inl ⟨rfl, ?_, h⟩
  cases hb : postingB z L with
  | true => rfl
  | false =>
    exfalso
    refine hs ?_
    rw [← h]
    unfold postingL
    rw [hb]
    rfl
theorem led_cut {z : Int} {l : List Line} (h : ledgerB z l = true) : parts 10 (ledgerL z l) = ledC z :: (l.map rowC ++ [[]]) := by
  unfold ledgerL
  rw [if_pos h, led_parts]
theorem led_lines {z : Int} {l : List Line} (h : ledgerB z l = true) : linesL (ledgerL z l) = ledC z :: l.map rowC := by
  unfold linesL
  rw [led_cut h, if_pos]
  · rw [← List.cons_append, List.dropLast_concat]
  · rw [← List.cons_append, List.getLast?_concat]
theorem post_cut {z : Int} {l : List Line} (h : postingB z l = true) : parts 32 (postingL z l) = [112, 111, 115, 116] :: numL z :: l.map itemC := by
  unfold postingL
  rw [if_pos h, post_parts]
theorem led_text_ne {z : Int} {l : List Line} (h : ledgerB z l = true) : ledgerL z l ≠ [] := fun e => by
  have := led_cut h
  rw [e] at this
  simp [parts] at this
theorem post_text_ne {z : Int} {l : List Line} (h : postingB z l = true) : postingL z l ≠ [] := fun e => by
  have := post_cut h
  rw [e] at this
  simp [parts] at this
/-- the lines of a ledger's text -/
theorem led_line0 {s x : List UInt8} (hx : (linesL s)[0]? = some x) : ∀ z' l', ledgerB z' l' = true → ledgerL z' l' = s → x = ledC z' := by
  rintro z' l' h rfl
  rw [led_lines h] at hx
  simpa using hx.symm
theorem led_line {s x : List UInt8} {m : Nat} (hx : (linesL s)[m + 1]? = some x) : ∀ z' l', ledgerB z' l' = true → ledgerL z' l' = s → ∃ hm : m < l'.length, x = rowC l'[m] := by
  rintro z' l' h rfl
  rw [led_lines h, List.getElem?_cons_succ, List.getElem?_map] at hx
  by_cases hm : m < l'.length
  · rw [List.getElem?_eq_getElem hm] at hx
    exact ⟨hm, by simpa using hx.symm⟩
  · rw [List.getElem?_eq_none (by omega)] at hx
    cases hx
theorem led_count {s : List UInt8} : ∀ z' l', ledgerB z' l' = true → ledgerL z' l' = s → (linesL s).length = l'.length + 1 := by
  rintro z' l' h rfl
  rw [led_lines h]
  simp
/-- the pieces of a ledger's text -/
theorem led_part0 {s x : List UInt8} (hx : (parts 10 s)[0]? = some x) : ∀ z' l', ledgerB z' l' = true → ledgerL z' l' = s → x = ledC z' := by
  rintro z' l' h rfl
  rw [led_cut h] at hx
  simpa using hx.symm
theorem led_part {s x : List UInt8} {m : Nat} (hx : (parts 10 s)[m + 1]? = some x) : ∀ z' l', ledgerB z' l' = true → ledgerL z' l' = s → (∃ hm : m < l'.length, x = rowC l'[m]) ∨ (l'.length ≤ m ∧ x = []) := by
  rintro z' l' h rfl
  rw [led_cut h, List.getElem?_cons_succ] at hx
  by_cases hm : m < l'.length
  · rw [List.getElem?_append_left (by simpa using hm), List.getElem?_map, List.getElem?_eq_getElem hm] at hx
    exact Or.inl ⟨hm, by simpa using hx.symm⟩
  · rw [List.getElem?_append_right (by simpa using hm), List.length_map] at hx
    refine Or.inr ⟨by omega, ?_⟩
    have : m - l'.length = 0 := by
      refine Classical.byContradiction fun h0 => ?_
      rw [List.getElem?_eq_none (by simp; omega)] at hx
      cases hx
    rw [this] at hx
    simpa using hx.symm
theorem led_pieces {s : List UInt8} : ∀ z' l', ledgerB z' l' = true → ledgerL z' l' = s → (parts 10 s).length = l'.length + 2 := by
  rintro z' l' h rfl
  rw [led_cut h]
  simp
theorem led_num {z' : Int} {l' : List Line} (h : ledgerB z' l' = true) : numOf (Lib.trimPrefix (ledC z') [108, 101, 100, 103, 101, 114, 32]) = z' := by
  rw [ledC_trim]
  exact (num_at (ledger_nums h).1).1
theorem led_row {z' : Int} {l' : List Line} (h : ledgerB z' l' = true) {m : Nat} (hm : m < l'.length) : accB l'[m].Kind l'[m].Ch = true ∧ numB l'[m].Amt = true := (ledger_nums h).2 _ (List.getElem_mem hm)
theorem led_short {z' : Int} {l' : List Line} (h : ledgerB z' l' = true) : l'.length ≤ 320 := (ledgerB_iff.1 h).2.1
/-- one line more, by the program's reader -/
theorem led_read {s t : List UInt8} {m : Nat} {x : Line} {ok : Bool} (ht : (linesL s)[m + 1]? = some t) (hl : LineIs 32 t x ok) : ∀ z' l', ledgerB z' l' = true → ledgerL z' l' = s → ∃ hm : m < l'.length, x = l'[m] ∧ ok = true := by
  intro z' l' h1 h2
  obtain ⟨hm, e⟩ := led_line ht z' l' h1 h2
  have hr := led_row h1 hm
  exact ⟨hm, hl l'[m] hr.1 hr.2 e⟩
/-! ### postings -/
theorem post_part1 {s x : List UInt8} (hx : (parts 32 s)[1]? = some x) : ∀ z' l', postingB z' l' = true → postingL z' l' = s → x = numL z' := by
  rintro z' l' h rfl
  rw [post_cut h] at hx
  simpa using hx.symm
theorem post_part {s x : List UInt8} {m : Nat} (hx : (parts 32 s)[m + 2]? = some x) : ∀ z' l', postingB z' l' = true → postingL z' l' = s → ∃ hm : m < l'.length, x = itemC l'[m] := by
  rintro z' l' h rfl
  rw [post_cut h, List.getElem?_cons_succ, List.getElem?_cons_succ, List.getElem?_map] at hx
  by_cases hm : m < l'.length
  · rw [List.getElem?_eq_getElem hm] at hx
    exact ⟨hm, by simpa using hx.symm⟩
  · rw [List.getElem?_eq_none (by omega)] at hx
    cases hx
theorem post_count {s : List UInt8} : ∀ z' l', postingB z' l' = true → postingL z' l' = s → (parts 32 s).length = l'.length + 2 := by
  rintro z' l' h rfl
  rw [post_cut h]
  simp
theorem post_short {z' : Int} {l' : List Line} (h : postingB z' l' = true) : l'.length ≤ 8 := (postingB_iff.1 h).2.2.1
theorem post_row {z' : Int} {l' : List Line} (h : postingB z' l' = true) {m : Nat} (hm : m < l'.length) : accB l'[m].Kind l'[m].Ch = true ∧ numB l'[m].Amt = true := (posting_nums h).2 _ (List.getElem_mem hm)
theorem post_read {s t : List UInt8} {m : Nat} {x : Line} {ok : Bool} (ht : (parts 32 s)[m + 2]? = some t) (hl : LineIs 58 t x ok) : ∀ z' l', postingB z' l' = true → postingL z' l' = s → ∃ hm : m < l'.length, x = l'[m] ∧ ok = true := by
  intro z' l' h1 h2
  obtain ⟨hm, e⟩ := post_part ht z' l' h1 h2
  have hr := post_row h1 hm
  exact ⟨hm, hl l'[m] hr.1 hr.2 e⟩
theorem post_num {z' : Int} {l' : List Line} (h : postingB z' l' = true) : numOf (numL z') = z' := (num_at (posting_nums h).1).1
end Go.Proofs.YtgpledgjpjifcaaDoor
