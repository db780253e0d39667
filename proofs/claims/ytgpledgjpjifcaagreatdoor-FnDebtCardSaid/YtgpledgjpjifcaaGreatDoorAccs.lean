/- Accounts and lines: the walks. -/
import Derived.Test.YtgpledgjpjifcaaGreatDoorRows
import Derived.Test.YtgpledgjpjifcaaGreatDoorLine
import Derived.Test.YtgpledgjpjifcaaGreatDoorSteady
import Derived.IntWalk
namespace Go.Proofs.YtgpledgjpjifcaaGreatDoor
open Go.RowKit

/-! ### Plain -/
def accB (k c : Int) : Bool := if inB k 6 8 = true then inB c 1 99 else inB k 1 5 && decide (c = 0)
def lessB (k c k' c' : Int) : Bool := decide (k < k') || (decide (k = k') && decide (c < c'))
def rangeB (n : Int) : Bool := inB n (-1125899906842624) 1125899906842624
def lineAt (l : List Line) (i : Nat) : Bool :=
  match l[i]? with
  | some x => accB x.Kind x.Ch && (!(x.Amt == 0)) && rangeB x.Amt && (decide (i = 0) || match l[i - 1]? with | some p => lessB p.Kind p.Ch x.Kind x.Ch | none => false)
  | none => true
def allTo (k : Nat) (p : Nat → Bool) : Bool := (List.range k).all p
theorem allTo_succ (k : Nat) (p : Nat → Bool) : allTo (k + 1) p = (allTo k p && p k) := by
  unfold allTo
  rw [List.range_succ, List.all_append]
  simp
theorem allTo_iff {k : Nat} {p : Nat → Bool} : allTo k p = true ↔ ∀ i, i < k → p i = true := by
  simp [allTo, List.all_eq_true]
theorem allTo_false {k i : Nat} {p : Nat → Bool} (hi : i < k) (h : p i = false) : allTo k p = false := by
  cases hu : allTo k p
  · rfl
  · rw [allTo_iff.1 hu i hi] at h
    cases h
def lineSum (l : List Line) : Int := l.foldl (fun s x => s + x.Amt) 0
theorem lineSum_succ (l : List Line) {k : Nat} (hk : k < l.length) : lineSum (l.take (k + 1)) = lineSum (l.take k) + l[k].Amt := foldl_take_succ l _ _ hk
def linesB (l : List Line) : Bool := allTo l.length (lineAt l) && decide (lineSum l = 0)
theorem linesB_bad {l : List Line} {k : Nat} (hk : k < l.length) (h : lineAt l k = false) : linesB l = false := by
  unfold linesB
  rw [allTo_false hk h]
  rfl
theorem lineAt_ok {l : List Line} {k : Nat} (hk : k < l.length) (h : lineAt l k = true) : accB l[k].Kind l[k].Ch = true ∧ (l[k].Amt == 0) = false ∧ (-1125899906842624 ≤ l[k].Amt ∧ l[k].Amt ≤ 1125899906842624) := by
  have e : l[k]? = some l[k] := List.getElem?_eq_getElem hk
  unfold lineAt at h
  rw [e] at h
  simp only [Bool.and_eq_true, Bool.not_eq_true'] at h
  exact ⟨h.1.1.1, h.1.1.2, inB_iff.1 h.1.2⟩
/-- What a line at its place is: with the one ahead of it. -/
theorem lineAt_first {l : List Line} (hk : 0 < l.length) : lineAt l 0 = (accB l[0].Kind l[0].Ch && !(l[0].Amt == 0) && rangeB l[0].Amt) := by
  have e : l[0]? = some l[0] := List.getElem?_eq_getElem hk
  unfold lineAt
  rw [e]
  simp
theorem lineAt_next {l : List Line} {j : Nat} (hk : j + 1 < l.length) (hj : j < l.length) : lineAt l (j + 1) = (accB l[j + 1].Kind l[j + 1].Ch && !(l[j + 1].Amt == 0) && rangeB l[j + 1].Amt && lessB l[j].Kind l[j].Ch l[j + 1].Kind l[j + 1].Ch) := by
  have e : l[j + 1]? = some l[j + 1] := List.getElem?_eq_getElem hk
  have e2 : l[j + 1 - 1]? = some l[j] := List.getElem?_eq_getElem hj
  unfold lineAt
  rw [e, e2]
  simp
theorem i_AccOk (k c : Int) (w : World) :
    Calls Tryz.prog 95 #[.agg #[.int .i64 k, .int .i64 c]] w fun e w' => e = .returned (.bool (accB k c)) ∧ Below w.heap.size w w' := by
  cases h1 : inB k 6 8
  · cases h2 : inB k 1 5
    all_goals
      cases h3 : (c == 0)
      all_goals
        have h4 : decide (c = 0) = (c == 0) := rfl
        have H4 := Lib.hid h4
        clear h4
        go_enter Tryz.func95, Tryz.ntmps95
        go_wp2_with (go_at_call 79; refine (i_in _ _ _ _).mono ?_; rintro e w' ⟨rfl, rfl⟩)
        go_ret
        exact ⟨ret_bool (by simp [accB, h1, h2, H4.out, h3]), by (first | ((repeat' first | (with_reducible (first | exact Below.refl _ _ | assumption | refine Below.setCell ?_ ?_ _ | refine Below.alloc ?_ ?_ _ | refine Below.drew ?_ | refine below_drewN ?_ _ | refine Below.trans ?_ (Below.mono (by assumption) ?_))) | omega | (simp; omega) | (simp; done)); done) | (repeat' first | exact Below.refl _ _ | assumption | refine Below.setCell ?_ (by first | omega | (simp; omega) | (simp; done)) _ | refine Below.alloc ?_ (by first | omega | (simp; omega) | (simp; done)) _ | refine Below.drew ?_ | refine below_drewN ?_ _ | refine Below.trans ?_ (Below.mono (by assumption) (by first | omega | (simp; omega) | (simp; done)))))⟩
  · go_enter Tryz.func95, Tryz.ntmps95
    go_wp2_with (go_at_call 79; refine (i_in _ _ _ _).mono ?_; rintro e w' ⟨rfl, rfl⟩)
    go_ret
    exact ⟨ret_bool (by simp [accB, h1]), by (first | ((repeat' first | (with_reducible (first | exact Below.refl _ _ | assumption | refine Below.setCell ?_ ?_ _ | refine Below.alloc ?_ ?_ _ | refine Below.drew ?_ | refine below_drewN ?_ _ | refine Below.trans ?_ (Below.mono (by assumption) ?_))) | omega | (simp; omega) | (simp; done)); done) | (repeat' first | exact Below.refl _ _ | assumption | refine Below.setCell ?_ (by first | omega | (simp; omega) | (simp; done)) _ | refine Below.alloc ?_ (by first | omega | (simp; omega) | (simp; done)) _ | refine Below.drew ?_ | refine below_drewN ?_ _ | refine Below.trans ?_ (Below.mono (by assumption) (by first | omega | (simp; omega) | (simp; done)))))⟩
theorem s_AccOk (k c : Int) (w : World) :
    Calls Tryz.prog 98 #[.agg #[.int .i64 k, .int .i64 c]] w fun e w' => e = .returned (.bool (accB k c)) ∧ Below w.heap.size w w' := by
  by_cases h1 : k < 1
  · go_enter Tryz.func98, Tryz.ntmps98
    go_wp2_with fail
    go_ret
    exact ⟨ret_bool (by unfold accB; rw [if_neg (by rw [inB_iff]; omega)]; simp [inB]; omega), by (first | ((repeat' first | (with_reducible (first | exact Below.refl _ _ | assumption | refine Below.setCell ?_ ?_ _ | refine Below.alloc ?_ ?_ _ | refine Below.drew ?_ | refine below_drewN ?_ _ | refine Below.trans ?_ (Below.mono (by assumption) ?_))) | omega | (simp; omega) | (simp; done)); done) | (repeat' first | exact Below.refl _ _ | assumption | refine Below.setCell ?_ (by first | omega | (simp; omega) | (simp; done)) _ | refine Below.alloc ?_ (by first | omega | (simp; omega) | (simp; done)) _ | refine Below.drew ?_ | refine below_drewN ?_ _ | refine Below.trans ?_ (Below.mono (by assumption) (by first | omega | (simp; omega) | (simp; done)))))⟩
  · by_cases h2 : 8 < k
    · have h1' : decide (k < 1) = false := decide_eq_false h1
      go_enter Tryz.func98, Tryz.ntmps98
      go_wp2_with fail
      go_ret
      exact ⟨ret_bool (by unfold accB; rw [if_neg (by rw [inB_iff]; omega)]; simp [inB]; omega), by (first | ((repeat' first | (with_reducible (first | exact Below.refl _ _ | assumption | refine Below.setCell ?_ ?_ _ | refine Below.alloc ?_ ?_ _ | refine Below.drew ?_ | refine below_drewN ?_ _ | refine Below.trans ?_ (Below.mono (by assumption) ?_))) | omega | (simp; omega) | (simp; done)); done) | (repeat' first | exact Below.refl _ _ | assumption | refine Below.setCell ?_ (by first | omega | (simp; omega) | (simp; done)) _ | refine Below.alloc ?_ (by first | omega | (simp; omega) | (simp; done)) _ | refine Below.drew ?_ | refine below_drewN ?_ _ | refine Below.trans ?_ (Below.mono (by assumption) (by first | omega | (simp; omega) | (simp; done)))))⟩
    · have h1' : decide (k < 1) = false := decide_eq_false h1
      have h2' : decide (8 < k) = false := decide_eq_false h2
      by_cases h3 : k < 6
      · have e : accB k c = (c == 0) := by
          unfold accB
          rw [if_neg (by rw [inB_iff]; omega), inB_iff.2 (by omega)]
          rfl
        have E := Lib.hid e
        clear e
        go_enter Tryz.func98, Tryz.ntmps98
        go_wp2_with fail
        go_ret
        exact ⟨ret_bool (by rw [E.out]), by (first | ((repeat' first | (with_reducible (first | exact Below.refl _ _ | assumption | refine Below.setCell ?_ ?_ _ | refine Below.alloc ?_ ?_ _ | refine Below.drew ?_ | refine below_drewN ?_ _ | refine Below.trans ?_ (Below.mono (by assumption) ?_))) | omega | (simp; omega) | (simp; done)); done) | (repeat' first | exact Below.refl _ _ | assumption | refine Below.setCell ?_ (by first | omega | (simp; omega) | (simp; done)) _ | refine Below.alloc ?_ (by first | omega | (simp; omega) | (simp; done)) _ | refine Below.drew ?_ | refine below_drewN ?_ _ | refine Below.trans ?_ (Below.mono (by assumption) (by first | omega | (simp; omega) | (simp; done)))))⟩
      · have h3' : decide (k < 6) = false := decide_eq_false h3
        have e : accB k c = inB c 1 99 := by
          unfold accB
          rw [if_pos (by rw [inB_iff]; omega)]
        have E := Lib.hid e
        clear e
        cases h4 : decide (1 ≤ c)
        · have HE := Lib.hid (show inB c 1 99 = false by rw [decide_eq_false_iff_not] at h4; simp [inB]; omega)
          go_enter Tryz.func98, Tryz.ntmps98
          go_wp2_with fail
          go_ret
          exact ⟨ret_bool (by rw [E.out, HE.out]), by (first | ((repeat' first | (with_reducible (first | exact Below.refl _ _ | assumption | refine Below.setCell ?_ ?_ _ | refine Below.alloc ?_ ?_ _ | refine Below.drew ?_ | refine below_drewN ?_ _ | refine Below.trans ?_ (Below.mono (by assumption) ?_))) | omega | (simp; omega) | (simp; done)); done) | (repeat' first | exact Below.refl _ _ | assumption | refine Below.setCell ?_ (by first | omega | (simp; omega) | (simp; done)) _ | refine Below.alloc ?_ (by first | omega | (simp; omega) | (simp; done)) _ | refine Below.drew ?_ | refine below_drewN ?_ _ | refine Below.trans ?_ (Below.mono (by assumption) (by first | omega | (simp; omega) | (simp; done)))))⟩
        · cases h5 : decide (c ≤ 99)
          · have HE := Lib.hid (show inB c 1 99 = false by rw [decide_eq_false_iff_not] at h5; simp [inB]; omega)
            go_enter Tryz.func98, Tryz.ntmps98
            go_wp2_with fail
            go_ret
            exact ⟨ret_bool (by rw [E.out, HE.out]), by (first | ((repeat' first | (with_reducible (first | exact Below.refl _ _ | assumption | refine Below.setCell ?_ ?_ _ | refine Below.alloc ?_ ?_ _ | refine Below.drew ?_ | refine below_drewN ?_ _ | refine Below.trans ?_ (Below.mono (by assumption) ?_))) | omega | (simp; omega) | (simp; done)); done) | (repeat' first | exact Below.refl _ _ | assumption | refine Below.setCell ?_ (by first | omega | (simp; omega) | (simp; done)) _ | refine Below.alloc ?_ (by first | omega | (simp; omega) | (simp; done)) _ | refine Below.drew ?_ | refine below_drewN ?_ _ | refine Below.trans ?_ (Below.mono (by assumption) (by first | omega | (simp; omega) | (simp; done)))))⟩
          · have HE := Lib.hid (show inB c 1 99 = true by rw [decide_eq_true_eq] at h4 h5; simp [inB]; omega)
            go_enter Tryz.func98, Tryz.ntmps98
            go_wp2_with fail
            go_ret
            exact ⟨ret_bool (by rw [E.out, HE.out]), by (first | ((repeat' first | (with_reducible (first | exact Below.refl _ _ | assumption | refine Below.setCell ?_ ?_ _ | refine Below.alloc ?_ ?_ _ | refine Below.drew ?_ | refine below_drewN ?_ _ | refine Below.trans ?_ (Below.mono (by assumption) ?_))) | omega | (simp; omega) | (simp; done)); done) | (repeat' first | exact Below.refl _ _ | assumption | refine Below.setCell ?_ (by first | omega | (simp; omega) | (simp; done)) _ | refine Below.alloc ?_ (by first | omega | (simp; omega) | (simp; done)) _ | refine Below.drew ?_ | refine below_drewN ?_ _ | refine Below.trans ?_ (Below.mono (by assumption) (by first | omega | (simp; omega) | (simp; done)))))⟩
set_option maxHeartbeats 1000000 in
theorem i_lessAcc (k c k' c' : Int) (w : World) :
    Calls Tryz.prog 130 #[.agg #[.int .i64 k, .int .i64 c], .agg #[.int .i64 k', .int .i64 c']] w fun e w' => e = .returned (.bool (lessB k c k' c')) ∧ Below w.heap.size w w' := by
  by_cases h1 : k < k'
  · have HE := Lib.hid (show lessB k c k' c' = true by simp [lessB, h1])
    go_enter Tryz.func130, Tryz.ntmps130
    go_wp2_with fail
    go_ret
    exact ⟨ret_bool (by rw [HE.out]), by (first | ((repeat' first | (with_reducible (first | exact Below.refl _ _ | assumption | refine Below.setCell ?_ ?_ _ | refine Below.alloc ?_ ?_ _ | refine Below.drew ?_ | refine below_drewN ?_ _ | refine Below.trans ?_ (Below.mono (by assumption) ?_))) | omega | (simp; omega) | (simp; done)); done) | (repeat' first | exact Below.refl _ _ | assumption | refine Below.setCell ?_ (by first | omega | (simp; omega) | (simp; done)) _ | refine Below.alloc ?_ (by first | omega | (simp; omega) | (simp; done)) _ | refine Below.drew ?_ | refine below_drewN ?_ _ | refine Below.trans ?_ (Below.mono (by assumption) (by first | omega | (simp; omega) | (simp; done)))))⟩
  · have h1' : decide (k < k') = false := decide_eq_false h1
    cases h2 : (k == k')
    · have HE := Lib.hid (show lessB k c k' c' = false by simp only [beq_eq_false_iff_ne] at h2; simp [lessB, h1, h2])
      go_enter Tryz.func130, Tryz.ntmps130
      go_wp2_with fail
      go_ret
      exact ⟨ret_bool (by rw [HE.out]), by (first | ((repeat' first | (with_reducible (first | exact Below.refl _ _ | assumption | refine Below.setCell ?_ ?_ _ | refine Below.alloc ?_ ?_ _ | refine Below.drew ?_ | refine below_drewN ?_ _ | refine Below.trans ?_ (Below.mono (by assumption) ?_))) | omega | (simp; omega) | (simp; done)); done) | (repeat' first | exact Below.refl _ _ | assumption | refine Below.setCell ?_ (by first | omega | (simp; omega) | (simp; done)) _ | refine Below.alloc ?_ (by first | omega | (simp; omega) | (simp; done)) _ | refine Below.drew ?_ | refine below_drewN ?_ _ | refine Below.trans ?_ (Below.mono (by assumption) (by first | omega | (simp; omega) | (simp; done)))))⟩
    · by_cases h3 : c < c'
      · have HE := Lib.hid (show lessB k c k' c' = true by simp only [beq_iff_eq] at h2; simp [lessB, h2, h3])
        go_enter Tryz.func130, Tryz.ntmps130
        go_wp2_with fail
        go_ret
        exact ⟨ret_bool (by rw [HE.out]), by (first | ((repeat' first | (with_reducible (first | exact Below.refl _ _ | assumption | refine Below.setCell ?_ ?_ _ | refine Below.alloc ?_ ?_ _ | refine Below.drew ?_ | refine below_drewN ?_ _ | refine Below.trans ?_ (Below.mono (by assumption) ?_))) | omega | (simp; omega) | (simp; done)); done) | (repeat' first | exact Below.refl _ _ | assumption | refine Below.setCell ?_ (by first | omega | (simp; omega) | (simp; done)) _ | refine Below.alloc ?_ (by first | omega | (simp; omega) | (simp; done)) _ | refine Below.drew ?_ | refine below_drewN ?_ _ | refine Below.trans ?_ (Below.mono (by assumption) (by first | omega | (simp; omega) | (simp; done)))))⟩
      · have HE := Lib.hid (show lessB k c k' c' = false by simp only [beq_iff_eq] at h2; simp [lessB, h2]; omega)
        have h3' : decide (c < c') = false := decide_eq_false h3
        go_enter Tryz.func130, Tryz.ntmps130
        go_wp2_with fail
        go_ret
        exact ⟨ret_bool (by rw [HE.out]), by (first | ((repeat' first | (with_reducible (first | exact Below.refl _ _ | assumption | refine Below.setCell ?_ ?_ _ | refine Below.alloc ?_ ?_ _ | refine Below.drew ?_ | refine below_drewN ?_ _ | refine Below.trans ?_ (Below.mono (by assumption) ?_))) | omega | (simp; omega) | (simp; done)); done) | (repeat' first | exact Below.refl _ _ | assumption | refine Below.setCell ?_ (by first | omega | (simp; omega) | (simp; done)) _ | refine Below.alloc ?_ (by first | omega | (simp; omega) | (simp; done)) _ | refine Below.drew ?_ | refine below_drewN ?_ _ | refine Below.trans ?_ (Below.mono (by assumption) (by first | omega | (simp; omega) | (simp; done)))))⟩
set_option maxHeartbeats 1000000 in
theorem s_l02Less (k c k' c' : Int) (w : World) :
    Calls Tryz.prog 131 #[.agg #[.int .i64 k, .int .i64 c], .agg #[.int .i64 k', .int .i64 c']] w fun e w' => e = .returned (.bool (lessB k c k' c')) ∧ Below w.heap.size w w' := by
  by_cases h1 : k < k'
  · have HE := Lib.hid (show lessB k c k' c' = true by simp [lessB, h1])
    go_enter Tryz.func131, Tryz.ntmps131
    go_wp2_with fail
    go_ret
    exact ⟨ret_bool (by rw [HE.out]), by (first | ((repeat' first | (with_reducible (first | exact Below.refl _ _ | assumption | refine Below.setCell ?_ ?_ _ | refine Below.alloc ?_ ?_ _ | refine Below.drew ?_ | refine below_drewN ?_ _ | refine Below.trans ?_ (Below.mono (by assumption) ?_))) | omega | (simp; omega) | (simp; done)); done) | (repeat' first | exact Below.refl _ _ | assumption | refine Below.setCell ?_ (by first | omega | (simp; omega) | (simp; done)) _ | refine Below.alloc ?_ (by first | omega | (simp; omega) | (simp; done)) _ | refine Below.drew ?_ | refine below_drewN ?_ _ | refine Below.trans ?_ (Below.mono (by assumption) (by first | omega | (simp; omega) | (simp; done)))))⟩
  · have h1' : decide (k < k') = false := decide_eq_false h1
    cases h2 : (k == k')
    · have HE := Lib.hid (show lessB k c k' c' = false by simp only [beq_eq_false_iff_ne] at h2; simp [lessB, h1, h2])
      go_enter Tryz.func131, Tryz.ntmps131
      go_wp2_with fail
      go_ret
      exact ⟨ret_bool (by rw [HE.out]), by (first | ((repeat' first | (with_reducible (first | exact Below.refl _ _ | assumption | refine Below.setCell ?_ ?_ _ | refine Below.alloc ?_ ?_ _ | refine Below.drew ?_ | refine below_drewN ?_ _ | refine Below.trans ?_ (Below.mono (by assumption) ?_))) | omega | (simp; omega) | (simp; done)); done) | (repeat' first | exact Below.refl _ _ | assumption | refine Below.setCell ?_ (by first | omega | (simp; omega) | (simp; done)) _ | refine Below.alloc ?_ (by first | omega | (simp; omega) | (simp; done)) _ | refine Below.drew ?_ | refine below_drewN ?_ _ | refine Below.trans ?_ (Below.mono (by assumption) (by first | omega | (simp; omega) | (simp; done)))))⟩
    · by_cases h3 : c < c'
      · have HE := Lib.hid (show lessB k c k' c' = true by simp only [beq_iff_eq] at h2; simp [lessB, h2, h3])
        go_enter Tryz.func131, Tryz.ntmps131
        go_wp2_with fail
        go_ret
        exact ⟨ret_bool (by rw [HE.out]), by (first | ((repeat' first | (with_reducible (first | exact Below.refl _ _ | assumption | refine Below.setCell ?_ ?_ _ | refine Below.alloc ?_ ?_ _ | refine Below.drew ?_ | refine below_drewN ?_ _ | refine Below.trans ?_ (Below.mono (by assumption) ?_))) | omega | (simp; omega) | (simp; done)); done) | (repeat' first | exact Below.refl _ _ | assumption | refine Below.setCell ?_ (by first | omega | (simp; omega) | (simp; done)) _ | refine Below.alloc ?_ (by first | omega | (simp; omega) | (simp; done)) _ | refine Below.drew ?_ | refine below_drewN ?_ _ | refine Below.trans ?_ (Below.mono (by assumption) (by first | omega | (simp; omega) | (simp; done)))))⟩
      · have HE := Lib.hid (show lessB k c k' c' = false by simp only [beq_iff_eq] at h2; simp [lessB, h2]; omega)
        have h3' : decide (c < c') = false := decide_eq_false h3
        go_enter Tryz.func131, Tryz.ntmps131
        go_wp2_with fail
        go_ret
        exact ⟨ret_bool (by rw [HE.out]), by (first | ((repeat' first | (with_reducible (first | exact Below.refl _ _ | assumption | refine Below.setCell ?_ ?_ _ | refine Below.alloc ?_ ?_ _ | refine Below.drew ?_ | refine below_drewN ?_ _ | refine Below.trans ?_ (Below.mono (by assumption) ?_))) | omega | (simp; omega) | (simp; done)); done) | (repeat' first | exact Below.refl _ _ | assumption | refine Below.setCell ?_ (by first | omega | (simp; omega) | (simp; done)) _ | refine Below.alloc ?_ (by first | omega | (simp; omega) | (simp; done)) _ | refine Below.drew ?_ | refine below_drewN ?_ _ | refine Below.trans ?_ (Below.mono (by assumption) (by first | omega | (simp; omega) | (simp; done)))))⟩
theorem s_l02Range (n : Int) (w : World) :
    Calls Tryz.prog 132 #[.int .i64 n] w fun e w' => e = .returned (.bool (rangeB n)) ∧ w = w' := by
  by_cases h1 : -1125899906842624 ≤ n <;> by_cases h2 : n ≤ 1125899906842624
  all_goals
    go_enter Tryz.func132, Tryz.ntmps132
    go_wp2
    all_goals go_ret
    all_goals exact ⟨by simp [rangeB, inB, h1, h2] <;> omega, rfl⟩
end Go.Proofs.YtgpledgjpjifcaaGreatDoor
