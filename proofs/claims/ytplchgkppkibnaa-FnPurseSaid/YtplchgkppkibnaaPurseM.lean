/- Purses: what may be spent: plain, and the walks of the program. -/
import Derived.Test.YtplchgkppkibnaaRows
import Derived.Test.YtplchgkppkibnaaPurseU
import Derived.Deep.RegionHeld3
namespace Go.Proofs.Ytplchgkppkibnaa
open Go.RowKit

def lastAt (l : List Coin) : Int := match l.getLast? with | some z => z.At | none => 0
theorem lastAt_nil : lastAt [] = 0 := rfl
theorem lastAt_get {l : List Coin} (h : 0 < l.length) : lastAt l = (l[l.length - 1]'(by omega)).At := by
  unfold lastAt
  rw [List.getLast?_eq_getElem?, List.getElem?_eq_getElem (by omega)]
def canAsk (l : List Coin) (at_ n : Int) : Bool := timeB at_ && decide (lastAt l ≤ at_) && inB n 1 1125899906842624
def mayB (c s at_ n : Int) (l : List Coin) : Bool := decide (counted s at_ l + n ≤ c)
def maySpend (c s at_ n : Int) (l : List Coin) : Bool := purseOk c s l && canAsk l at_ n && mayB c s at_ n l
theorem sorted_le {l : List Coin} (h : upTo l.length (coinAt l) = true) : ∀ (d i : Nat) (hi : i < l.length) (hj : i + d < l.length), l[i].At ≤ l[i + d].At
  | 0, i, hi, hj => by simp
  | d + 1, i, hi, hj => by
    have ih := sorted_le h d i hi (by omega)
    have hk := upTo_iff.1 h (i + (d + 1)) hj
    rcases coinAt_cases l hj with ⟨_, ho⟩ | ⟨_, _, ho⟩ | ⟨_, _, h0, _⟩ | ⟨_, _, _, _, _, _, ho⟩ | ⟨j, hj', e, _, _, h4, _⟩
    · rw [ho] at hk; cases hk
    · rw [ho] at hk; cases hk
    · omega
    · rw [ho] at hk; cases hk
    · have : j = i + d := by omega
      subst this
      omega
theorem counted_mono {s a b : Int} : ∀ {l : List Coin}, (∀ x ∈ l, 0 ≤ x.Amt) → (∀ x ∈ l, (x.At ≤ a ∧ a - x.At < s) → (x.At ≤ b ∧ b - x.At < s)) → ∀ m n : Int, m ≤ n → l.foldl (countedF s a) m ≤ l.foldl (countedF s b) n
  | [], _, _, m, n, h => h
  | x :: l, h0, h1, m, n, h => by
    simp only [List.foldl_cons]
    refine counted_mono (fun y hy => h0 y (by simp [hy])) (fun y hy => h1 y (by simp [hy])) _ _ ?_
    have e0 := h0 x (by simp)
    have e1 := h1 x (by simp)
    unfold countedF
    simp only [Bool.and_eq_true, decide_eq_true_eq]
    split
    · rename_i hh
      rw [if_pos (e1 hh)]
      omega
    · split <;> omega
theorem counted_le {c s at_ : Int} {l : List Coin} (h : purseOk c s l = true) (ha : lastAt l ≤ at_) : counted s at_ l ≤ c := by
  simp only [purseOk, Bool.and_eq_true, List.all_eq_true, decide_eq_true_eq] at h
  obtain ⟨hf, hall⟩ := h
  obtain ⟨hok, ⟨q1, q2⟩, q3, q4⟩ := purseForm_iff.1 hf
  by_cases hl : 0 < l.length
  · have hlast : l.length - 1 < l.length := by omega
    have hz := hall l[l.length - 1] (List.getElem_mem hlast)
    rw [lastAt_get hl] at ha
    refine Int.le_trans (counted_mono ?_ ?_ 0 0 (Int.le_refl 0)) hz
    · intro x hx
      obtain ⟨i, hi, rfl⟩ := List.mem_iff_getElem.1 hx
      have := (hok.at_ hi).2
      omega
    · intro x hx
      obtain ⟨i, hi, rfl⟩ := List.mem_iff_getElem.1 hx
      have hs := sorted_le hok.1 (l.length - 1 - i) i hi (by omega)
      have e : l[i + (l.length - 1 - i)]'(by omega) = l[l.length - 1] := by congr 1; omega
      rw [e] at hs
      omega
  · have : l = [] := List.eq_nil_of_length_eq_zero (by omega)
    subst this
    simpa [counted] using q1
theorem counted_amt {c s at_ : Int} {l : List Coin} (h : purseOk c s l = true) (ha : lastAt l ≤ at_) : amtB (counted s at_ l) = true := by
  have h1 := counted_le h ha
  simp only [purseOk, Bool.and_eq_true] at h
  obtain ⟨hok, ⟨q1, q2⟩, q3, q4⟩ := purseForm_iff.1 h.1
  have := (counted_all s at_ hok).1
  exact amtB_iff.2 ⟨this, by omega⟩
theorem i_lastCoin (c s : Int) (l : List Coin) (A : Option Addr) (cap : Nat) (w : World) (hl : l.length ≤ 1048576) (hr : Rd w w.heap.size 2 A (l.map Coin.cells)) :
    Calls Try.prog 76 #[.agg #[.int .i64 c, .int .i64 s, .slice A l.length cap]] w fun e w' => e = .returned (.int .i64 (lastAt l)) ∧ Below w.heap.size w w' := by
  by_cases h0 : 0 < l.length
  · obtain ⟨j, hj⟩ : ∃ j, l.length = j + 1 := ⟨l.length - 1, by omega⟩
    have hjl : j < l.length := by omega
    obtain ⟨b, off, rfl, hbB, c0, c1⟩ := Coin.rd hr hjl
    have HL := Lib.hid (lastAt_get h0)
    have HJ := Lib.hid hj
    have i1 : (0 : Int) ≤ (j : Int) := by omega
    have i2 : (j : Int) < (l.length : Int) := by omega
    have i3 : ((l.length : Int) == 0) = false := by rw [beq_eq_false_iff_ne]; omega
    have e1 : (l.length : Int) - 1 = (j : Int) := by omega
    clear hr hj
    go_enter Try.func76, Try.ntmps76
    go_wp2
    go_ret
    refine ⟨ret_int ?_, by (first | ((repeat' first | (with_reducible (first | exact Below.refl _ _ | assumption | refine Below.setCell ?_ ?_ _ | refine Below.alloc ?_ ?_ _ | refine Below.drew ?_ | refine below_drewN ?_ _ | refine Below.trans ?_ (Below.mono (by assumption) ?_))) | omega | (simp; omega) | (simp; done)); done) | (repeat' first | exact Below.refl _ _ | assumption | refine Below.setCell ?_ (by first | omega | (simp; omega) | (simp; done)) _ | refine Below.alloc ?_ (by first | omega | (simp; omega) | (simp; done)) _ | refine Below.drew ?_ | refine below_drewN ?_ _ | refine Below.trans ?_ (Below.mono (by assumption) (by first | omega | (simp; omega) | (simp; done)))))⟩
    have e2 := HJ.out
    rw [HL.out]
    congr 1
    congr 1
    omega
  · have hn : l = [] := List.eq_nil_of_length_eq_zero (by omega)
    subst hn
    clear hr
    go_enter Try.func76, Try.ntmps76
    go_wp2
    go_ret
    exact ⟨rfl, by (first | ((repeat' first | (with_reducible (first | exact Below.refl _ _ | assumption | refine Below.setCell ?_ ?_ _ | refine Below.alloc ?_ ?_ _ | refine Below.drew ?_ | refine below_drewN ?_ _ | refine Below.trans ?_ (Below.mono (by assumption) ?_))) | omega | (simp; omega) | (simp; done)); done) | (repeat' first | exact Below.refl _ _ | assumption | refine Below.setCell ?_ (by first | omega | (simp; omega) | (simp; done)) _ | refine Below.alloc ?_ (by first | omega | (simp; omega) | (simp; done)) _ | refine Below.drew ?_ | refine below_drewN ?_ _ | refine Below.trans ?_ (Below.mono (by assumption) (by first | omega | (simp; omega) | (simp; done)))))⟩
set_option maxHeartbeats 1000000 in
theorem i_canAsk (c s at_ n : Int) (l : List Coin) (A : Option Addr) (cap : Nat) (w : World) (hl : l.length ≤ 1048576) (hr : Rd w w.heap.size 2 A (l.map Coin.cells)) :
    Calls Try.prog 79 #[.agg #[.int .i64 c, .int .i64 s, .slice A l.length cap], .int .i64 at_, .int .i64 n] w fun e w' => e = .returned (.bool (canAsk l at_ n)) ∧ Below w.heap.size w w' := by
  have HR := Lib.hid hr
  clear hr
  cases h1 : timeB at_
  · go_enter Try.func79, Try.ntmps79
    go_wp2_with (first | (go_at_call 59; refine (i_isTime _ _).mono ?_; rintro e w' ⟨rfl, rfl⟩) | (go_at_call 57; refine (i_in _ _ _ _).mono ?_; rintro e w' ⟨rfl, rfl⟩))
    go_ret
    exact ⟨ret_bool (by simp [canAsk, h1]), by (first | ((repeat' first | (with_reducible (first | exact Below.refl _ _ | assumption | refine Below.setCell ?_ ?_ _ | refine Below.alloc ?_ ?_ _ | refine Below.drew ?_ | refine below_drewN ?_ _ | refine Below.trans ?_ (Below.mono (by assumption) ?_))) | omega | (simp; omega) | (simp; done)); done) | (repeat' first | exact Below.refl _ _ | assumption | refine Below.setCell ?_ (by first | omega | (simp; omega) | (simp; done)) _ | refine Below.alloc ?_ (by first | omega | (simp; omega) | (simp; done)) _ | refine Below.drew ?_ | refine below_drewN ?_ _ | refine Below.trans ?_ (Below.mono (by assumption) (by first | omega | (simp; omega) | (simp; done)))))⟩
  · by_cases h2 : lastAt l ≤ at_
    all_goals
      go_enter Try.func79, Try.ntmps79
      go_wp2_with (go_at_call 59; refine (i_isTime _ _).mono ?_; rintro e w' ⟨rfl, rfl⟩)
      refine (i_lastCoin c s l A cap _ hl ((HR.out.below (by (first | ((repeat' first | (with_reducible (first | exact Below.refl _ _ | assumption | refine Below.setCell ?_ ?_ _ | refine Below.alloc ?_ ?_ _ | refine Below.drew ?_ | refine below_drewN ?_ _ | refine Below.trans ?_ (Below.mono (by assumption) ?_))) | omega | (simp; omega) | (simp; done)); done) | (repeat' first | exact Below.refl _ _ | assumption | refine Below.setCell ?_ (by first | omega | (simp; omega) | (simp; done)) _ | refine Below.alloc ?_ (by first | omega | (simp; omega) | (simp; done)) _ | refine Below.drew ?_ | refine below_drewN ?_ _ | refine Below.trans ?_ (Below.mono (by assumption) (by first | omega | (simp; omega) | (simp; done))))))).more (by simp))).mono ?_
      rintro e w1 ⟨rfl, hb1⟩
      have z1 := hb1.size
      try simp at z1
      go_wp2_with (go_at_call 57; refine (i_in _ _ _ _).mono ?_; rintro e w' ⟨rfl, rfl⟩)
      go_ret
      exact ⟨ret_bool (by simp [canAsk, h1]; first | done | omega | (intro _; omega)), by (first | ((repeat' first | (with_reducible (first | exact Below.refl _ _ | assumption | refine Below.setCell ?_ ?_ _ | refine Below.alloc ?_ ?_ _ | refine Below.drew ?_ | refine below_drewN ?_ _ | refine Below.trans ?_ (Below.mono (by assumption) ?_))) | omega | (simp; omega) | (simp; done)); done) | (repeat' first | exact Below.refl _ _ | assumption | refine Below.setCell ?_ (by first | omega | (simp; omega) | (simp; done)) _ | refine Below.alloc ?_ (by first | omega | (simp; omega) | (simp; done)) _ | refine Below.drew ?_ | refine below_drewN ?_ _ | refine Below.trans ?_ (Below.mono (by assumption) (by first | omega | (simp; omega) | (simp; done)))))⟩
set_option maxHeartbeats 2000000 in
theorem i_maySpend (c s at_ n : Int) (l : List Coin) (A : Option Addr) (cap : Nat) (w : World) (hok : CoinsOk l) (ha : at_ ≤ 9223372036854775807) (hn : -1125899906842624 ≤ n ∧ n ≤ 1125899906842624) (hr : Rd w w.heap.size 2 A (l.map Coin.cells)) :
    Calls Try.prog 77 #[.agg #[.int .i64 c, .int .i64 s, .slice A l.length cap], .int .i64 at_, .int .i64 n] w fun e w' => e = .returned (.bool (mayB c s at_ n l)) ∧ Below w.heap.size w w' := by
  have HR := Lib.hid hr
  have HOK := Lib.hid hok
  have HA := Lib.hid ha
  obtain ⟨g1, g2⟩ := counted_all s at_ hok
  obtain ⟨n1, n2⟩ := hn
  clear hr hok ha
  cases hD : decide (counted s at_ l + n ≤ c)
  all_goals
    have e1 : IntKind.i64.wrap (counted s at_ l + n) = counted s at_ l + n := IntWalk.i64_in _ ⟨by omega, by omega⟩
    go_enter Try.func77, Try.ntmps77
    go_wp2_with fail
    go_region_held3 (fun w' => w'.cell? ⟨w.heap.size, 0, none⟩ = some (.int .i64 c) ∧ w'.cell? ⟨w.heap.size, 1, none⟩ = some (.int .i64 s) ∧ w'.cell? ⟨w.heap.size, 2, none⟩ = some (.slice A l.length cap)) (first | exact ⟨p0, p1, p2⟩ | (simp [go_sem]; done))
      (first | (go_at_call 81; clear e1; refine (i_counted c s at_ l _ cap _ HOK.out HA.out ((HR.out.below (by (first | ((repeat' first | (with_reducible (first | exact Below.refl _ _ | assumption | refine Below.setCell ?_ ?_ _ | refine Below.alloc ?_ ?_ _ | refine Below.drew ?_ | refine below_drewN ?_ _ | refine Below.trans ?_ (Below.mono (by assumption) ?_))) | omega | (simp; omega) | (simp; done)); done) | (repeat' first | exact Below.refl _ _ | assumption | refine Below.setCell ?_ (by first | omega | (simp; omega) | (simp; done)) _ | refine Below.alloc ?_ (by first | omega | (simp; omega) | (simp; done)) _ | refine Below.drew ?_ | refine below_drewN ?_ _ | refine Below.trans ?_ (Below.mono (by assumption) (by first | omega | (simp; omega) | (simp; done))))))).more (by simp))).mono ?_; rintro e w2 ⟨rfl, hb2⟩; have z2 := hb2.size; (try simp at z2); obtain ⟨ph, p0, p1, p2, pf, pz⟩ := own3 (g := w.heap.size) hb2 (by first | omega | (simp; omega) | (simp; done)) (by (first | ((repeat' first | (with_reducible (first | assumption | (refine heap_at ?_; (first | rfl | (simp; done))) | refine heap_drew ?_ | refine heap_drewN ?_ | refine heap_past ?_ ?_ | refine heap_far ?_ ?_)) | (simp; done) | (simp; omega)); done) | (repeat' first | assumption | (refine heap_at ?_; (simp; done)) | refine heap_drew ?_ | refine heap_drewN ?_ | (refine heap_past ?_ ?_ <;> try (simp; done)) | (refine heap_far ?_ ?_ <;> try (simp; done)))))))
    go_wp2_with fail
    go_ret
    exact ⟨ret_bool (by rw [IntWalk.i64_in (counted s at_ l + n) ⟨by omega, by omega⟩, mayB]), by (first | ((repeat' first | (with_reducible (first | exact Below.refl _ _ | assumption | refine Below.setCell ?_ ?_ _ | refine Below.alloc ?_ ?_ _ | refine Below.drew ?_ | refine below_drewN ?_ _ | refine Below.trans ?_ (Below.mono (by assumption) ?_))) | omega | (simp; omega) | (simp; done)); done) | (repeat' first | exact Below.refl _ _ | assumption | refine Below.setCell ?_ (by first | omega | (simp; omega) | (simp; done)) _ | refine Below.alloc ?_ (by first | omega | (simp; omega) | (simp; done)) _ | refine Below.drew ?_ | refine below_drewN ?_ _ | refine Below.trans ?_ (Below.mono (by assumption) (by first | omega | (simp; omega) | (simp; done)))))⟩
set_option maxHeartbeats 2000000 in
theorem i_MaySpend (c s at_ n : Int) (l : List Coin) (A : Option Addr) (cap : Nat) (w : World) (hl : l.length ≤ 1048576) (ha : at_ ≤ 9223372036854775807) (hr : Rd w w.heap.size 2 A (l.map Coin.cells)) :
    Calls Try.prog 37 #[.agg #[.int .i64 c, .int .i64 s, .slice A l.length cap], .int .i64 at_, .int .i64 n] w fun e w' => e = .returned (.bool (maySpend c s at_ n l)) ∧ Below w.heap.size w w' := by
  have HR := Lib.hid hr
  have HA := Lib.hid ha
  clear hr ha
  cases h1 : purseOk c s l
  · go_enter Try.func37, Try.ntmps37
    go_wp2_with fail
    refine (i_PurseOk c s l A cap _ hl ((HR.out.below (by (first | ((repeat' first | (with_reducible (first | exact Below.refl _ _ | assumption | refine Below.setCell ?_ ?_ _ | refine Below.alloc ?_ ?_ _ | refine Below.drew ?_ | refine below_drewN ?_ _ | refine Below.trans ?_ (Below.mono (by assumption) ?_))) | omega | (simp; omega) | (simp; done)); done) | (repeat' first | exact Below.refl _ _ | assumption | refine Below.setCell ?_ (by first | omega | (simp; omega) | (simp; done)) _ | refine Below.alloc ?_ (by first | omega | (simp; omega) | (simp; done)) _ | refine Below.drew ?_ | refine below_drewN ?_ _ | refine Below.trans ?_ (Below.mono (by assumption) (by first | omega | (simp; omega) | (simp; done))))))).more (by simp))).mono ?_
    rintro e w1 ⟨rfl, hb1⟩
    have z1 := hb1.size
    try simp at z1
    rw [h1]
    go_wp2_with fail
    go_ret
    exact ⟨ret_bool (by simp [maySpend, h1]), by (first | ((repeat' first | (with_reducible (first | exact Below.refl _ _ | assumption | refine Below.setCell ?_ ?_ _ | refine Below.alloc ?_ ?_ _ | refine Below.drew ?_ | refine below_drewN ?_ _ | refine Below.trans ?_ (Below.mono (by assumption) ?_))) | omega | (simp; omega) | (simp; done)); done) | (repeat' first | exact Below.refl _ _ | assumption | refine Below.setCell ?_ (by first | omega | (simp; omega) | (simp; done)) _ | refine Below.alloc ?_ (by first | omega | (simp; omega) | (simp; done)) _ | refine Below.drew ?_ | refine below_drewN ?_ _ | refine Below.trans ?_ (Below.mono (by assumption) (by first | omega | (simp; omega) | (simp; done)))))⟩
  · cases h2 : canAsk l at_ n
    · go_enter Try.func37, Try.ntmps37
      go_wp2_with fail
      refine (i_PurseOk c s l A cap _ hl ((HR.out.below (by (first | ((repeat' first | (with_reducible (first | exact Below.refl _ _ | assumption | refine Below.setCell ?_ ?_ _ | refine Below.alloc ?_ ?_ _ | refine Below.drew ?_ | refine below_drewN ?_ _ | refine Below.trans ?_ (Below.mono (by assumption) ?_))) | omega | (simp; omega) | (simp; done)); done) | (repeat' first | exact Below.refl _ _ | assumption | refine Below.setCell ?_ (by first | omega | (simp; omega) | (simp; done)) _ | refine Below.alloc ?_ (by first | omega | (simp; omega) | (simp; done)) _ | refine Below.drew ?_ | refine below_drewN ?_ _ | refine Below.trans ?_ (Below.mono (by assumption) (by first | omega | (simp; omega) | (simp; done))))))).more (by simp))).mono ?_
      rintro e w1 ⟨rfl, hb1⟩
      have z1 := hb1.size
      try simp at z1
      rw [h1]
      obtain ⟨kh, k0, k1, k2, kf, kz⟩ := own3 (g := w.heap.size) hb1 (by first | omega | (simp; omega) | (simp; done)) (by (first | ((repeat' first | (with_reducible (first | assumption | (refine heap_at ?_; (first | rfl | (simp; done))) | refine heap_drew ?_ | refine heap_drewN ?_ | refine heap_past ?_ ?_ | refine heap_far ?_ ?_)) | (simp; done) | (simp; omega)); done) | (repeat' first | assumption | (refine heap_at ?_; (simp; done)) | refine heap_drew ?_ | refine heap_drewN ?_ | (refine heap_past ?_ ?_ <;> try (simp; done)) | (refine heap_far ?_ ?_ <;> try (simp; done)))))
      go_wp2_with fail
      refine (i_canAsk c s at_ n l A cap _ hl ((HR.out.below (by (first | ((repeat' first | (with_reducible (first | exact Below.refl _ _ | assumption | refine Below.setCell ?_ ?_ _ | refine Below.alloc ?_ ?_ _ | refine Below.drew ?_ | refine below_drewN ?_ _ | refine Below.trans ?_ (Below.mono (by assumption) ?_))) | omega | (simp; omega) | (simp; done)); done) | (repeat' first | exact Below.refl _ _ | assumption | refine Below.setCell ?_ (by first | omega | (simp; omega) | (simp; done)) _ | refine Below.alloc ?_ (by first | omega | (simp; omega) | (simp; done)) _ | refine Below.drew ?_ | refine below_drewN ?_ _ | refine Below.trans ?_ (Below.mono (by assumption) (by first | omega | (simp; omega) | (simp; done))))))).more (by omega))).mono ?_
      rintro e w2 ⟨rfl, hb2⟩
      have z2 := hb2.size
      try simp at z2
      rw [h2]
      go_wp2_with fail
      go_ret
      exact ⟨ret_bool (by simp [maySpend, h1, h2]), by (first | ((repeat' first | (with_reducible (first | exact Below.refl _ _ | assumption | refine Below.setCell ?_ ?_ _ | refine Below.alloc ?_ ?_ _ | refine Below.drew ?_ | refine below_drewN ?_ _ | refine Below.trans ?_ (Below.mono (by assumption) ?_))) | omega | (simp; omega) | (simp; done)); done) | (repeat' first | exact Below.refl _ _ | assumption | refine Below.setCell ?_ (by first | omega | (simp; omega) | (simp; done)) _ | refine Below.alloc ?_ (by first | omega | (simp; omega) | (simp; done)) _ | refine Below.drew ?_ | refine below_drewN ?_ _ | refine Below.trans ?_ (Below.mono (by assumption) (by first | omega | (simp; omega) | (simp; done)))))⟩
    · have hok : CoinsOk l := by
        simp only [purseOk, Bool.and_eq_true] at h1
        exact (purseForm_iff.1 h1.1).1
      have hn : 1 ≤ n ∧ n ≤ 1125899906842624 := by
        simp only [canAsk, Bool.and_eq_true] at h2
        exact inB_iff.1 h2.2
      obtain ⟨n1, n2⟩ := hn
      have HOK := Lib.hid hok
      clear hok
      go_enter Try.func37, Try.ntmps37
      go_wp2_with fail
      refine (i_PurseOk c s l A cap _ hl ((HR.out.below (by (first | ((repeat' first | (with_reducible (first | exact Below.refl _ _ | assumption | refine Below.setCell ?_ ?_ _ | refine Below.alloc ?_ ?_ _ | refine Below.drew ?_ | refine below_drewN ?_ _ | refine Below.trans ?_ (Below.mono (by assumption) ?_))) | omega | (simp; omega) | (simp; done)); done) | (repeat' first | exact Below.refl _ _ | assumption | refine Below.setCell ?_ (by first | omega | (simp; omega) | (simp; done)) _ | refine Below.alloc ?_ (by first | omega | (simp; omega) | (simp; done)) _ | refine Below.drew ?_ | refine below_drewN ?_ _ | refine Below.trans ?_ (Below.mono (by assumption) (by first | omega | (simp; omega) | (simp; done))))))).more (by simp))).mono ?_
      rintro e w1 ⟨rfl, hb1⟩
      have z1 := hb1.size
      try simp at z1
      rw [h1]
      obtain ⟨kh, k0, k1, k2, kf, kz⟩ := own3 (g := w.heap.size) hb1 (by first | omega | (simp; omega) | (simp; done)) (by (first | ((repeat' first | (with_reducible (first | assumption | (refine heap_at ?_; (first | rfl | (simp; done))) | refine heap_drew ?_ | refine heap_drewN ?_ | refine heap_past ?_ ?_ | refine heap_far ?_ ?_)) | (simp; done) | (simp; omega)); done) | (repeat' first | assumption | (refine heap_at ?_; (simp; done)) | refine heap_drew ?_ | refine heap_drewN ?_ | (refine heap_past ?_ ?_ <;> try (simp; done)) | (refine heap_far ?_ ?_ <;> try (simp; done)))))
      go_wp2_with fail
      refine (i_canAsk c s at_ n l A cap _ hl ((HR.out.below (by (first | ((repeat' first | (with_reducible (first | exact Below.refl _ _ | assumption | refine Below.setCell ?_ ?_ _ | refine Below.alloc ?_ ?_ _ | refine Below.drew ?_ | refine below_drewN ?_ _ | refine Below.trans ?_ (Below.mono (by assumption) ?_))) | omega | (simp; omega) | (simp; done)); done) | (repeat' first | exact Below.refl _ _ | assumption | refine Below.setCell ?_ (by first | omega | (simp; omega) | (simp; done)) _ | refine Below.alloc ?_ (by first | omega | (simp; omega) | (simp; done)) _ | refine Below.drew ?_ | refine below_drewN ?_ _ | refine Below.trans ?_ (Below.mono (by assumption) (by first | omega | (simp; omega) | (simp; done))))))).more (by omega))).mono ?_
      rintro e w2 ⟨rfl, hb2⟩
      have z2 := hb2.size
      try simp at z2
      rw [h2]
      obtain ⟨jh, j0, j1, j2, jf, jz⟩ := own3 (g := w.heap.size) hb2 (by first | omega | (simp; omega) | (simp; done)) (by (first | ((repeat' first | (with_reducible (first | assumption | (refine heap_at ?_; (first | rfl | (simp; done))) | refine heap_drew ?_ | refine heap_drewN ?_ | refine heap_past ?_ ?_ | refine heap_far ?_ ?_)) | (simp; done) | (simp; omega)); done) | (repeat' first | assumption | (refine heap_at ?_; (simp; done)) | refine heap_drew ?_ | refine heap_drewN ?_ | (refine heap_past ?_ ?_ <;> try (simp; done)) | (refine heap_far ?_ ?_ <;> try (simp; done)))))
      go_wp2_with fail
      refine (i_maySpend c s at_ n l A cap _ HOK.out HA.out ⟨by omega, by omega⟩ ((HR.out.below (by (first | ((repeat' first | (with_reducible (first | exact Below.refl _ _ | assumption | refine Below.setCell ?_ ?_ _ | refine Below.alloc ?_ ?_ _ | refine Below.drew ?_ | refine below_drewN ?_ _ | refine Below.trans ?_ (Below.mono (by assumption) ?_))) | omega | (simp; omega) | (simp; done)); done) | (repeat' first | exact Below.refl _ _ | assumption | refine Below.setCell ?_ (by first | omega | (simp; omega) | (simp; done)) _ | refine Below.alloc ?_ (by first | omega | (simp; omega) | (simp; done)) _ | refine Below.drew ?_ | refine below_drewN ?_ _ | refine Below.trans ?_ (Below.mono (by assumption) (by first | omega | (simp; omega) | (simp; done))))))).more (by omega))).mono ?_
      rintro e w3 ⟨rfl, hb3⟩
      have z3 := hb3.size
      try simp at z3
      go_wp2_with fail
      go_ret
      exact ⟨ret_bool (by simp [maySpend, h1, h2]), by (first | ((repeat' first | (with_reducible (first | exact Below.refl _ _ | assumption | refine Below.setCell ?_ ?_ _ | refine Below.alloc ?_ ?_ _ | refine Below.drew ?_ | refine below_drewN ?_ _ | refine Below.trans ?_ (Below.mono (by assumption) ?_))) | omega | (simp; omega) | (simp; done)); done) | (repeat' first | exact Below.refl _ _ | assumption | refine Below.setCell ?_ (by first | omega | (simp; omega) | (simp; done)) _ | refine Below.alloc ?_ (by first | omega | (simp; omega) | (simp; done)) _ | refine Below.drew ?_ | refine below_drewN ?_ _ | refine Below.trans ?_ (Below.mono (by assumption) (by first | omega | (simp; omega) | (simp; done)))))⟩
end Go.Proofs.Ytplchgkppkibnaa
