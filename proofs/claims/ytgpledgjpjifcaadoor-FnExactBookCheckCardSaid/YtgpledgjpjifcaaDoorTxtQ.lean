/- Texts of books, cut at their bytes: plain. -/
import Derived.Test.YtgpledgjpjifcaaDoorRows
import Derived.Test.YtgpledgjpjifcaaDoorTxtB
import Derived.Test.YtgpledgjpjifcaaDoorTxtP
namespace Go.Proofs.YtgpledgjpjifcaaDoor
open Go

theorem words_no {b : UInt8} (hb : b ≠ 32) : ∀ {ws : List (List UInt8)} {w : List UInt8}, b ∉ w → (∀ x ∈ ws, b ∉ x) → b ∉ wordsC w ws
  | [], w, h, _ => by simpa [wordsC] using h
  | x :: ws, w, h, hx => by
    rw [wordsC_cons]
    refine words_no hb ?_ (fun y hy => hx y (by simp [hy]))
    simp only [List.mem_append, List.mem_cons, not_or]
    exact ⟨h, hb, hx x (by simp)⟩
theorem words_cut : ∀ {ws : List (List UInt8)} {w : List UInt8}, (32 : UInt8) ∉ w → (∀ x ∈ ws, (32 : UInt8) ∉ x) → parts 32 (wordsC w ws) = w :: ws := by
  intro ws w h hx
  unfold wordsC
  induction ws generalizing w with
  | nil => simpa using parts_none h
  | cons x ws ih =>
    rw [List.map_cons, List.flatten_cons, List.cons_append, parts_mid _ h, ih (hx x (by simp)) (fun y hy => hx y (by simp [hy]))]
theorem nums_no {b : UInt8} (h : b = 10 ∨ b = 32 ∨ b = 58 ∨ b = 62) (ns : List Int) : ∀ x ∈ ns.map numL, b ∉ x := by
  intro x hx
  obtain ⟨n, _, rfl⟩ := List.mem_map.1 hx
  exact num_no h
theorem headC_cut (bt bn bw : Int) : parts 32 (headC bt bn bw) = [bookW, numL bt, numL bn, numL bw] := words_cut (by decide) (nums_no (by simp) _)
theorem chanC_cut (c : Chan) : parts 32 (chanC c) = [chanW, numL c.Id, numL c.Size, numL c.Local, numL c.Remote, numL c.Base, numL c.Ppm, numL c.Score] := words_cut (by decide) (nums_no (by simp) _)
theorem circC_cut (c : Circle) : parts 32 (circC c) = [circW, numL c.Key, numL c.From, numL c.To, numL c.Amt, numL c.Fee] := words_cut (by decide) (nums_no (by simp) _)
theorem htlc_words {b : UInt8} (h : b = 10 ∨ b = 32) (x : Htlc) : ∀ y ∈ [x.Key, x.In, x.Out, x.AmtIn, x.AmtOut].map numL ++ [keptW x.Kept, numL x.Age], b ∉ y := by
  have h4 : b = 10 ∨ b = 32 ∨ b = 58 ∨ b = 62 := by rcases h with h | h <;> simp [h]
  intro y hy
  rcases List.mem_append.1 hy with hy | hy
  · exact nums_no h4 _ y hy
  · rcases List.mem_cons.1 hy with rfl | hy
    · unfold keptW
      rcases h with rfl | rfl <;> split <;> decide
    · rcases List.mem_singleton.1 hy with rfl
      exact num_no h4
theorem htlcC_cut (h : Htlc) : parts 32 (htlcC h) = [htlcW, numL h.Key, numL h.In, numL h.Out, numL h.AmtIn, numL h.AmtOut, keptW h.Kept, numL h.Age] := words_cut (by decide) (htlc_words (by simp) h)
theorem headC_no (bt bn bw : Int) : (10 : UInt8) ∉ headC bt bn bw := words_no (by decide) (by decide) (nums_no (by simp) _)
theorem chanC_no (c : Chan) : (10 : UInt8) ∉ chanC c := words_no (by decide) (by decide) (nums_no (by simp) _)
theorem circC_no (c : Circle) : (10 : UInt8) ∉ circC c := words_no (by decide) (by decide) (nums_no (by simp) _)
theorem htlcC_no (h : Htlc) : (10 : UInt8) ∉ htlcC h := words_no (by decide) (by decide) (htlc_words (by simp) h)
theorem over_cut : parts 32 overW = [overW] := parts_none (by decide)
def bookRows (cs : List Chan) (hs : List Htlc) (os : List Circle) : List (List UInt8) := cs.map chanC ++ (hs.map htlcC ++ (os.map circC ++ [overW]))
theorem book_parts (bt bn bw : Int) (cs : List Chan) (hs : List Htlc) (os : List Circle) : parts 10 (bookTo bt bn bw cs hs os ++ (overW ++ [10])) = (headC bt bn bw :: bookRows cs hs os) ++ [[]] := by
  have e : bookTo bt bn bw cs hs os ++ (overW ++ [10]) = headC bt bn bw ++ 10 :: ((cs.map fun x => chanC x ++ [10]).flatten ++ ((hs.map fun x => htlcC x ++ [10]).flatten ++ ((os.map fun x => circC x ++ [10]).flatten ++ (overW ++ [10])))) := by
    unfold bookTo rows10
    rw [show row10 chanC = fun x => chanC x ++ [10] from rfl, show row10 htlcC = fun x => htlcC x ++ [10] from rfl, show row10 circC = fun x => circC x ++ [10] from rfl]
    simp
  rw [e, parts_mid _ (headC_no bt bn bw), lines_parts_to chanC chanC_no, lines_parts_to htlcC htlcC_no, lines_parts_to circC circC_no, show overW ++ [10] = overW ++ 10 :: [] from rfl, parts_mid _ (by decide)]
  simp [bookRows, parts]
theorem chanIx_mem {cs : List Chan} {ch : Int} (h : 0 ≤ chanIx cs ch) : ∃ c ∈ cs, c.Id = ch := by
  unfold chanIx at h
  split at h
  · rename_i i hi
    obtain ⟨hk, hp, _⟩ := List.findIdx?_eq_some_iff_getElem.1 hi
    refine ⟨cs[i], List.getElem_mem hk, ?_⟩
    simpa [notId] using hp
  · omega
structure BookNums (bt bn bw : Int) (cs : List Chan) (hs : List Htlc) (os : List Circle) : Prop where
  t : numB bt = true
  n : numB bn = true
  w : numB bw = true
  c : ∀ c ∈ cs, numB c.Id = true ∧ numB c.Size = true ∧ numB c.Local = true ∧ numB c.Remote = true ∧ numB c.Base = true ∧ numB c.Ppm = true ∧ numB c.Score = true
  h : ∀ h ∈ hs, numB h.Key = true ∧ numB h.In = true ∧ numB h.Out = true ∧ numB h.AmtIn = true ∧ numB h.AmtOut = true ∧ numB h.Age = true
  o : ∀ o ∈ os, numB o.Key = true ∧ numB o.From = true ∧ numB o.To = true ∧ numB o.Amt = true ∧ numB o.Fee = true
theorem book_nums {bt bn bw : Int} {cs : List Chan} {hs : List Htlc} {os : List Circle} (hb : bookB bt bn bw cs hs os = true) : BookNums bt bn bw cs hs os := by
  have f := bookB_facts hb
  have f1 := f.t
  have f2 := f.n
  have f3 := f.w
  have hch : ∀ c ∈ cs, (1 ≤ c.Id ∧ c.Id ≤ 99) ∧ (0 ≤ c.Local ∧ c.Local ≤ 1125899906842624) ∧ (0 ≤ c.Remote ∧ c.Remote ≤ 1125899906842624) ∧ (0 ≤ c.Base ∧ c.Base ≤ 1125899906842624) ∧ (0 ≤ c.Ppm ∧ c.Ppm ≤ 1000000) ∧ (-100 ≤ c.Score ∧ c.Score ≤ 100) ∧ (0 ≤ c.Size ∧ c.Size ≤ 1125899906842624) := by
    intro c hc
    obtain ⟨k, hk, rfl⟩ := List.mem_iff_getElem.1 hc
    have := f.ch k hk
    simp only [chB, Bool.and_eq_true, amtB_iff, inB_iff, isChanB_iff] at this
    omega
  have hid : ∀ ch, 0 ≤ chanIx cs ch → 1 ≤ ch ∧ ch ≤ 99 := by
    intro ch h
    obtain ⟨c, hc, rfl⟩ := chanIx_mem h
    exact (hch c hc).1
  have hp := f.parts
  simp only [partsB, Bool.and_eq_true] at hp
  have hkey : ∀ x ∈ keysOf hs os, 1 ≤ x ∧ x ≤ 1000000 := by
    intro x hx
    obtain ⟨k, hk, rfl⟩ := List.mem_iff_getElem.1 hx
    have := everyTo_iff.1 hp.2 k hk
    rw [keyAt_eq hk, Bool.and_eq_true, inB_iff] at this
    exact this.1
  refine ⟨numB_iff.2 (by omega), numB_iff.2 (by omega), numB_iff.2 (by omega), fun c hc => ?_, fun h hh => ?_, fun o ho => ?_⟩
  · have := hch c hc
    simp only [numB_iff]
    omega
  · have h1 := List.all_eq_true.1 hp.1.1 h hh
    simp only [htlcB, twoB, Bool.and_eq_true, amtB_iff, inB_iff, decide_eq_true_eq] at h1
    have h2 := hid _ h1.1.1.1.1.2
    have h3 := hid _ h1.1.1.1.2
    have h4 := hkey h.Key (by unfold keysOf; exact List.mem_append_left _ (List.mem_map_of_mem hh))
    simp only [numB_iff]
    omega
  · have h1 := List.all_eq_true.1 hp.1.2 o ho
    simp only [circB, twoB, Bool.and_eq_true, amtB_iff, inB_iff, decide_eq_true_eq] at h1
    have h2 := hid _ h1.1.1.1.2
    have h3 := hid _ h1.1.1.2
    have h4 := hkey o.Key (by unfold keysOf; exact List.mem_append_right _ (List.mem_map_of_mem ho))
    simp only [numB_iff]
    omega
end Go.Proofs.YtgpledgjpjifcaaDoor
