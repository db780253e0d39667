/- What a text says of a debt, a ledger, a posting, a book: at most one answer; plain. -/
import Derived.Test.YtgpledgjpjifcaaDoorRows
import Derived.Test.YtgpledgjpjifcaaDoorTxtP
namespace Go.Proofs.YtgpledgjpjifcaaDoor
open Go

theorem debtL_inj {d d' : Debt} (h : debtOk d = true) (h' : debtOk d' = true) (e : debtL d = debtL d') : d = d' := by
  obtain ⟨a1, a2, a3⟩ := debt_nums h
  obtain ⟨b1, b2, b3⟩ := debt_nums h'
  have hp := debt_parts h
  rw [e, debt_parts h'] at hp
  simp only [List.cons.injEq, and_true] at hp
  have hq := debt_peers d'
  rw [hp.1, debt_peers d] at hq
  simp only [List.cons.injEq, and_true] at hq
  have c1 := numL_inj a1 b1 hq.1
  have c2 := numL_inj a2 b2 hq.2
  have c3 := numL_inj b3 a3 hp.2
  cases d
  cases d'
  simp_all
/-- what a text says of a debt -/
def DebtIs (s : List UInt8) (d : Debt) (ok : Bool) : Prop :=
  (ok = true ∧ debtOk d = true ∧ debtL d = s) ∨ (ok = false ∧ d = ⟨0, 0, 0⟩ ∧ ∀ d', debtOk d' = true → debtL d' ≠ s)
theorem DebtIs.one {s : List UInt8} {d d' : Debt} {ok ok' : Bool} (h : DebtIs s d ok) (h' : DebtIs s d' ok') : d = d' ∧ ok = ok' := by
  rcases h with ⟨rfl, h1, h2⟩ | ⟨rfl, rfl, h1⟩ <;> rcases h' with ⟨rfl, h3, h4⟩ | ⟨rfl, rfl, h3⟩
  · exact ⟨debtL_inj h1 h3 (h2.trans h4.symm), rfl⟩
  · exact absurd h2 (h3 _ h1)
  · exact absurd h4 (h1 _ h3)
  · exact ⟨rfl, rfl⟩
theorem Line.ext' {x y : Line} (h1 : x.Kind = y.Kind) (h2 : x.Ch = y.Ch) (h3 : x.Amt = y.Amt) : x = y := by
  cases x
  cases y
  simp_all
theorem rowC_inj {x y : Line} (hx : accB x.Kind x.Ch = true ∧ numB x.Amt = true) (hy : accB y.Kind y.Ch = true ∧ numB y.Amt = true) (e : rowC x = rowC y) : x = y := by
  have h := rowC_parts x
  rw [e, rowC_parts y] at h
  simp only [List.cons.injEq, and_true] at h
  have h1 := accL_inj hy.1 hx.1 h.1
  exact Line.ext' h1.1.symm h1.2.symm (numL_inj hy.2 hx.2 h.2).symm
theorem itemC_inj {x y : Line} (hx : accB x.Kind x.Ch = true ∧ numB x.Amt = true) (hy : accB y.Kind y.Ch = true ∧ numB y.Amt = true) (e : itemC x = itemC y) : x = y := by
  have h := itemC_parts x
  rw [e, itemC_parts y] at h
  simp only [List.cons.injEq, and_true] at h
  have h1 := accL_inj hy.1 hx.1 h.1
  exact Line.ext' h1.1.symm h1.2.symm (numL_inj hy.2 hx.2 h.2).symm
theorem map_inj_on {α β : Type} {f : α → β} {P : α → Prop} (hf : ∀ x y, P x → P y → f x = f y → x = y) : ∀ {l l' : List α}, (∀ x ∈ l, P x) → (∀ x ∈ l', P x) → l.map f = l'.map f → l = l'
  | [], [], _, _, _ => rfl
  | [], _ :: _, _, _, e => by simp at e
  | _ :: _, [], _, _, e => by simp at e
  | x :: l, y :: l', h, h', e => by
    simp only [List.map_cons, List.cons.injEq] at e
    rw [hf x y (h x (by simp)) (h' y (by simp)) e.1, map_inj_on hf (fun z hz => h z (by simp [hz])) (fun z hz => h' z (by simp [hz])) e.2]
theorem ledgerL_inj {z z' : Int} {l l' : List Line} (h : ledgerB z l = true) (h' : ledgerB z' l' = true) (e : ledgerL z l = ledgerL z' l') : z = z' ∧ l = l' := by
  unfold ledgerL at e
  rw [if_pos h, if_pos h'] at e
  have hp := led_parts z l
  rw [e, led_parts z' l'] at hp
  simp only [List.cons.injEq] at hp
  have h1 := ledC_parts z'
  rw [hp.1, ledC_parts z] at h1
  simp only [List.cons.injEq, and_true, true_and] at h1
  obtain ⟨n1, n2⟩ := ledger_nums h
  obtain ⟨m1, m2⟩ := ledger_nums h'
  refine ⟨numL_inj n1 m1 h1, ?_⟩
  exact (map_inj_on (P := fun x : Line => accB x.Kind x.Ch = true ∧ numB x.Amt = true) (fun x y => rowC_inj) m2 n2 (List.append_cancel_right hp.2)).symm
theorem postingL_inj {z z' : Int} {l l' : List Line} (h : postingB z l = true) (h' : postingB z' l' = true) (e : postingL z l = postingL z' l') : z = z' ∧ l = l' := by
  unfold postingL at e
  rw [if_pos h, if_pos h'] at e
  have hp := post_parts z l
  rw [e, post_parts z' l'] at hp
  simp only [List.cons.injEq, true_and] at hp
  obtain ⟨n1, n2⟩ := posting_nums h
  obtain ⟨m1, m2⟩ := posting_nums h'
  exact ⟨(numL_inj m1 n1 hp.1).symm, (map_inj_on (P := fun x : Line => accB x.Kind x.Ch = true ∧ numB x.Amt = true) (fun x y => itemC_inj) m2 n2 hp.2).symm⟩
/-- what a text says of a ledger (a posting): F is the text -/
def LedIs (B : Int → List Line → Bool) (F : Int → List Line → List UInt8) (s : List UInt8) (z : Int) (l : List Line) (ok : Bool) : Prop :=
  (ok = true ∧ B z l = true ∧ F z l = s) ∨ (ok = false ∧ z = 0 ∧ l = [] ∧ ∀ z' l', B z' l' = true → F z' l' ≠ s)
theorem LedIs.one {B : Int → List Line → Bool} {F : Int → List Line → List UInt8} (inj : ∀ {z z' l l'}, B z l = true → B z' l' = true → F z l = F z' l' → z = z' ∧ l = l') {s : List UInt8} {z z' : Int} {l l' : List Line} {ok ok' : Bool}
    (h : LedIs B F s z l ok) (h' : LedIs B F s z' l' ok') : z = z' ∧ l = l' ∧ ok = ok' := by
  rcases h with ⟨rfl, h1, h2⟩ | ⟨rfl, rfl, rfl, h1⟩ <;> rcases h' with ⟨rfl, h3, h4⟩ | ⟨rfl, rfl, rfl, h3⟩
  · obtain ⟨a, b⟩ := inj h1 h3 (h2.trans h4.symm)
    exact ⟨a, b, rfl⟩
  · exact absurd h2 (h3 _ _ h1)
  · exact absurd h4 (h1 _ _ h3)
  · exact ⟨rfl, rfl, rfl⟩
end Go.Proofs.YtgpledgjpjifcaaDoor
