/- Purses: when: the walk of the reference. -/
import Derived.Test.YtplchgkppkibnaaRows
import Derived.Test.YtplchgkppkibnaaPurseW
namespace Go.Proofs.Ytplchgkppkibnaa
open Go.RowKit

def startS (at_ : Int) (l : List Coin) : Int :=
  if 0 < l.length ∧ (if at_ < 0 then 0 else at_) < lastAt l then lastAt l else if at_ < 0 then 0 else at_
def bestF (c s n S : Int) (l : List Coin) (r t : Int) : Int := if (decide (S < t) && maySpend c s t n l && (decide (r < 0) || decide (t < r))) = true then t else r
def bestL (c s n S : Int) (l : List Coin) (m : List Coin) : Int := m.foldl (fun r x => bestF c s n S l r (wrap64 (x.At + s))) (-1)
theorem bestL_succ (c s n S : Int) (l : List Coin) {k : Nat} (hk : k < l.length) : bestL c s n S l (l.take (k + 1)) = bestF c s n S l (bestL c s n S l (l.take k)) (wrap64 (l[k].At + s)) := foldl_take_succ l _ _ hk
theorem bestF_cases (c s n S : Int) (l : List Coin) (r t : Int) : (t ≤ S ∧ bestF c s n S l r t = r) ∨ (S < t ∧ maySpend c s t n l = false ∧ bestF c s n S l r t = r) ∨
    (S < t ∧ maySpend c s t n l = true ∧ r < 0 ∧ bestF c s n S l r t = t) ∨ (S < t ∧ maySpend c s t n l = true ∧ 0 ≤ r ∧ t < r ∧ bestF c s n S l r t = t) ∨
    (S < t ∧ maySpend c s t n l = true ∧ 0 ≤ r ∧ r ≤ t ∧ bestF c s n S l r t = r) := by
  by_cases h1 : S < t
  · cases h2 : maySpend c s t n l
    · exact .inr (.inl ⟨h1, rfl, by simp [bestF, h2]⟩)
    · by_cases h3 : r < 0
      · exact .inr (.inr (.inl ⟨h1, rfl, h3, by simp [bestF, h1, h2, h3]⟩))
      · by_cases h4 : t < r
        · exact .inr (.inr (.inr (.inl ⟨h1, rfl, by omega, h4, by simp [bestF, h1, h2, h4]⟩)))
        · exact .inr (.inr (.inr (.inr ⟨h1, rfl, by omega, by omega, by simp [bestF, h3, h4]⟩)))
  · exact .inl ⟨by omega, by simp [bestF, h1]⟩
def purseSpec (c s at_ n : Int) (l : List Coin) : Int :=
  if maySpend c s (startS at_ l) n l = true then startS at_ l else bestL c s n (startS at_ l) l l
theorem bestL_none {c s n S : Int} {l : List Coin} (h : ∀ t, S < t → maySpend c s t n l = false) : ∀ m : List Coin, bestL c s n S l m = -1 := by
  intro m
  unfold bestL
  induction m with
  | nil => rfl
  | cons x m ih =>
    rw [List.foldl_cons]
    have e : bestF c s n S l (-1) (wrap64 (x.At + s)) = -1 := by
      unfold bestF
      by_cases h1 : S < wrap64 (x.At + s)
      · rw [h _ h1]; simp
      · simp [h1]
    rw [e]
    exact ih
theorem maySpend_ask {c s t n : Int} {l : List Coin} (h : purseOk c s l = true) (hn : inB n 1 1125899906842624 = true) (hl : lastAt l ≤ t) : maySpend c s t n l = (timeB t && mayB c s t n l) := by
  unfold maySpend canAsk
  rw [h, hn]
  simp [hl]
theorem bestL_first {c s n S : Int} {l : List Coin} (h : purseOk c s l = true) (hn : inB n 1 1125899906842624 = true) (hS : lastAt l ≤ S) (hS0 : 0 ≤ S) (k : Nat) (hk : k ≤ l.length) :
    bestL c s n S l (l.take k) = firstEnd c s n S l k ∧ (∀ x, (l.take k).find? (endOk c s n S l) = some x → 0 ≤ x.At + s ∧ ∃ i, ∃ hi : i < l.length, i < k ∧ l[i] = x) := by
  have hf : purseForm c s l = true := by
    simp only [purseOk, Bool.and_eq_true] at h
    exact h.1
  obtain ⟨hok, ⟨q1, q2⟩, q3, q4⟩ := purseForm_iff.1 hf
  induction k with
  | zero => exact ⟨rfl, fun x hx => by simp at hx⟩
  | succ k ih =>
    have hlt : k < l.length := by omega
    obtain ⟨ih1, ih2⟩ := ih (by omega)
    obtain ⟨⟨m1, m2⟩, m3, m4⟩ := hok.at_ hlt
    have ew : wrap64 (l[k].At + s) = l[k].At + s := IntWalk.wrap64_in _ ⟨by omega, by omega⟩
    rw [bestL_succ _ _ _ _ _ hlt, ih1, ew]
    unfold firstEnd
    cases hfd : (l.take k).find? (endOk c s n S l) with
    | none =>
      rw [find_take_succ hlt hfd]
      have e : (decide (S < l[k].At + s) && maySpend c s (l[k].At + s) n l) = endOk c s n S l l[k] := by
        unfold endOk
        by_cases h1 : S < l[k].At + s
        · rw [maySpend_ask h hn (by omega)]
          have e2 : timeB (l[k].At + s) = decide (l[k].At + s ≤ 1000000000) := by
            unfold timeB inB
            by_cases h2 : l[k].At + s ≤ 1000000000 <;> simp [h2] <;> omega
          rw [e2]
          simp [Bool.and_assoc]
        · simp [h1]
      have e3 : bestF c s n S l (-1) (l[k].At + s) = if endOk c s n S l l[k] = true then l[k].At + s else -1 := by
        unfold bestF
        rw [e]
        simp
      simp only [e3]
      cases ho : endOk c s n S l l[k]
      · exact ⟨by simp, fun x hx => by simp at hx⟩
      · refine ⟨by simp, fun x hx => ?_⟩
        simp only [if_true, Option.some.injEq] at hx
        subst hx
        exact ⟨by omega, k, hlt, by omega, rfl⟩
    | some x =>
      rw [find_take_stay hfd (Nat.le_succ k)]
      obtain ⟨x0, i, hi, hik, hix⟩ := ih2 x hfd
      have hs := sorted_le hok.1 (k - i) i hi (by omega)
      have e : l[i + (k - i)]'(by omega) = l[k] := by congr 1; omega
      rw [e, hix] at hs
      refine ⟨?_, fun y hy => ?_⟩
      · simp only [bestF]
        rw [if_neg]
        simp
        intro _ _
        omega
      · simp only [Option.some.injEq] at hy
        subst hy
        exact ⟨x0, i, hi, by omega, hix⟩
theorem purseSpec_eq (c s at_ n : Int) (l : List Coin) : purseSpec c s at_ n l = purseWhen c s at_ n l := by
  unfold purseSpec purseWhen
  cases h1 : purseOk c s l
  · have hf : ∀ t, maySpend c s t n l = false := fun t => by simp [maySpend, h1]
    rw [hf, bestL_none (fun t _ => hf t)]
    simp
  · cases h2 : inB n 1 1125899906842624
    · have hf : ∀ t, maySpend c s t n l = false := fun t => by simp [maySpend, canAsk, h2]
      rw [hf, bestL_none (fun t _ => hf t)]
      simp
    · have hf : purseForm c s l = true := by
        simp only [purseOk, Bool.and_eq_true] at h1
        exact h1.1
      obtain ⟨l1, l2⟩ := lastAt_bd (purseForm_iff.1 hf).1
      have hst : startS at_ l = max at_ (lastAt l) := by
        unfold startS
        by_cases hl : 0 < l.length
        · by_cases h0 : at_ < 0 <;> simp only [h0, if_true, if_false, hl, true_and] <;> split <;> omega
        · have : l = [] := List.eq_nil_of_length_eq_zero (by omega)
          subst this
          simp only [List.length_nil, Nat.lt_irrefl, false_and, if_false, lastAt_nil]
          split <;> omega
      rw [hst]
      by_cases h3 : at_ ≤ 1000000000
      · have hmx : 0 ≤ max at_ (lastAt l) ∧ max at_ (lastAt l) ≤ 1000000000 ∧ lastAt l ≤ max at_ (lastAt l) := by omega
        rw [if_pos (c := (true && true && decide (at_ ≤ 1000000000)) = true) (by simp [h3]), maySpend_ask h1 h2 hmx.2.2, show timeB (max at_ (lastAt l)) = true from timeB_iff.2 ⟨hmx.1, hmx.2.1⟩, Bool.true_and]
        have hb := (bestL_first h1 h2 hmx.2.2 hmx.1 l.length (Nat.le_refl _)).1
        rw [List.take_length] at hb
        rw [hb]
      · have hbad : ∀ t, max at_ (lastAt l) ≤ t → maySpend c s t n l = false := fun t ht => by
          have : timeB t = false := by
            cases hh : timeB t
            · rfl
            · have := timeB_iff.1 hh; omega
          simp [maySpend, canAsk, this]
        rw [hbad _ (Int.le_refl _), bestL_none (fun t ht => hbad t (by omega))]
        simp [h3]
set_option maxHeartbeats 8000000 in
theorem s_PurseWhen (c s at_ n : Int) (l : List Coin) (A : Option Addr) (cap : Nat) (w : World) (hl : l.length ≤ 1048576) (hr : Rd w w.heap.size 2 A (l.map Coin.cells)) :
    Calls Try.prog 35 #[.agg #[.int .i64 c, .int .i64 s, .slice A l.length cap], .int .i64 at_, .int .i64 n] w fun e w' => e = .returned (.int .i64 (purseWhen c s at_ n l)) ∧ Below w.heap.size w w' := by
  have HR := Lib.hid hr
  clear hr
  by_cases h0 : 0 < l.length
  · obtain ⟨j, hj⟩ : ∃ j, l.length = j + 1 := ⟨l.length - 1, by omega⟩
    have hjl : j < l.length := by omega
    have hlast : lastAt l = l[j].At := by rw [lastAt_get h0]; congr 1; congr 1; omega
    obtain ⟨b0, off0, rfl, hbB, cj0, cj1⟩ := Coin.rd HR.out hjl
    have i1 : (0 : Int) ≤ (j : Int) := by omega
    have i2 : (j : Int) < (l.length : Int) := by omega
    have i3 : (0 : Int) < (l.length : Int) := by omega
    have e1 : (l.length : Int) - 1 = (j : Int) := by omega
    have HL := Lib.hid hlast
    clear hj hlast
    by_cases ha : at_ < 0
    · by_cases hg : 0 < l[j].At
      · skip
        have hst : startS at_ l = l[j].At := by unfold startS; rw [HL.out]; rw [if_pos ⟨h0, by rw [if_pos ha]; exact hg⟩]
        have HST := Lib.hid hst
        clear hst
        go_enter Try.func35, Try.ntmps35
        go_wp2_with fail
        refine (s_MaySpend c s (l[j].At) n l _ cap _ hl ((HR.out.below (by (first | ((repeat' first | (with_reducible (first | exact Below.refl _ _ | assumption | refine Below.setCell ?_ ?_ _ | refine Below.alloc ?_ ?_ _ | refine Below.drew ?_ | refine below_drewN ?_ _ | refine Below.trans ?_ (Below.mono (by assumption) ?_))) | omega | (simp; omega) | (simp; done)); done) | (repeat' first | exact Below.refl _ _ | assumption | refine Below.setCell ?_ (by first | omega | (simp; omega) | (simp; done)) _ | refine Below.alloc ?_ (by first | omega | (simp; omega) | (simp; done)) _ | refine Below.drew ?_ | refine below_drewN ?_ _ | refine Below.trans ?_ (Below.mono (by assumption) (by first | omega | (simp; omega) | (simp; done))))))).more (by simp))).mono ?_
        rintro e w1 ⟨rfl, hb1⟩
        have z1 := hb1.size
        try simp at z1
        cases h4 : maySpend c s (l[j].At) n l
        all_goals
          obtain ⟨kh, k0, k1, k2, kf, kz⟩ := own3 (g := w.heap.size) hb1 (by first | omega | (simp; omega) | (simp; done)) (by (first | ((repeat' first | (with_reducible (first | assumption | (refine heap_at ?_; (first | rfl | (simp; done))) | refine heap_drew ?_ | refine heap_drewN ?_ | refine heap_past ?_ ?_ | refine heap_far ?_ ?_)) | (simp; done) | (simp; omega)); done) | (repeat' first | assumption | (refine heap_at ?_; (simp; done)) | refine heap_drew ?_ | refine heap_drewN ?_ | (refine heap_past ?_ ?_ <;> try (simp; done)) | (refine heap_far ?_ ?_ <;> try (simp; done)))))
          go_wp2_with fail
        · have KH := Lib.hid kh
          clear kh k0 k1 k2 kf kz
          go_loopw [9, 47] (fun r i wr => ∃ k : Nat, k ≤ l.length ∧ i = .int .i64 k ∧ r = .int .i64 (bestL c s n (l[j].At) l (l.take k)) ∧ wr.heap[w.heap.size]? = some (.cells #[.int .i64 c, .int .i64 s, .slice (some ⟨b0, off0, none⟩) l.length cap] 59 (0, 0)) ∧ Below w.heap.size w wr) (fun _ i _ => l.length - (intOf i).toNat)
          case atStart => exact ⟨0, Nat.zero_le _, rfl, rfl, KH.out, by (first | ((repeat' first | (with_reducible (first | exact Below.refl _ _ | assumption | refine Below.setCell ?_ ?_ _ | refine Below.alloc ?_ ?_ _ | refine Below.drew ?_ | refine below_drewN ?_ _ | refine Below.trans ?_ (Below.mono (by assumption) ?_))) | omega | (simp; omega) | (simp; done)); done) | (repeat' first | exact Below.refl _ _ | assumption | refine Below.setCell ?_ (by first | omega | (simp; omega) | (simp; done)) _ | refine Below.alloc ?_ (by first | omega | (simp; omega) | (simp; done)) _ | refine Below.drew ?_ | refine below_drewN ?_ _ | refine Below.trans ?_ (Below.mono (by assumption) (by first | omega | (simp; omega) | (simp; done)))))⟩
          case round =>
            obtain ⟨k, hk, rfl, rfl, hcells, hbw⟩ := hrel
            have hbz := hbw.size
            obtain ⟨kh, k0, k1, k2, kf, kz⟩ := own3 (Below.refl wr.heap.size wr) (Array.getElem?_eq_some_iff.1 hcells).1 hcells
            have KH := Lib.hid kh
            clear hcells
            by_cases hlt : k < l.length
            · obtain ⟨b, off, hA, hbB', c0, c1⟩ := Coin.rd (HR.out.below hbw) hlt
              simp only [Option.some.injEq, Addr.mk.injEq, and_true] at hA
              obtain ⟨rfl, rfl⟩ := hA
              have hbr : b0 < wr.heap.size := by omega
              obtain ⟨t, ht⟩ : ∃ t, wrap64 (l[k].At + s) = t := ⟨_, rfl⟩
              obtain ⟨r, hr⟩ : ∃ r, bestL c s n (l[j].At) l (l.take k) = r := ⟨_, rfl⟩
              have HS := Lib.hid (bestL_succ c s n (l[j].At) l hlt)
              have HT := Lib.hid ht
              have HRR := Lib.hid hr
              rw [hr]
              clear hr
              rcases bestF_cases c s n (l[j].At) l r t with ⟨t1, to⟩ | ⟨t1, t2, to⟩ | ⟨t1, t2, t3, to⟩ | ⟨t1, t2, t3, t4, to⟩ | ⟨t1, t2, t3, t4, to⟩
              · have TO := Lib.hid to
                clear to
                go_wp2_with fail
                go_roundw
                case rel => exact ⟨k + 1, by omega, by go_num, by rw [HS.out, HRR.out, HT.out, TO.out], heap_past kz KH.out, by (first | ((repeat' first | (with_reducible (first | exact Below.refl _ _ | assumption | refine Below.setCell ?_ ?_ _ | refine Below.alloc ?_ ?_ _ | refine Below.drew ?_ | refine below_drewN ?_ _ | refine Below.trans ?_ (Below.mono (by assumption) ?_))) | omega | (simp; omega) | (simp; done)); done) | (repeat' first | exact Below.refl _ _ | assumption | refine Below.setCell ?_ (by first | omega | (simp; omega) | (simp; done)) _ | refine Below.alloc ?_ (by first | omega | (simp; omega) | (simp; done)) _ | refine Below.drew ?_ | refine below_drewN ?_ _ | refine Below.trans ?_ (Below.mono (by assumption) (by first | omega | (simp; omega) | (simp; done)))))⟩
                case measure => simp [intOf]; omega
              all_goals
                have TO := Lib.hid to
                clear to
                go_wp2_with fail
                refine (s_MaySpend c s t n l _ cap _ hl ((HR.out.below (by (first | ((repeat' first | (with_reducible (first | exact Below.refl _ _ | assumption | refine Below.setCell ?_ ?_ _ | refine Below.alloc ?_ ?_ _ | refine Below.drew ?_ | refine below_drewN ?_ _ | refine Below.trans ?_ (Below.mono (by assumption) ?_))) | omega | (simp; omega) | (simp; done)); done) | (repeat' first | exact Below.refl _ _ | assumption | refine Below.setCell ?_ (by first | omega | (simp; omega) | (simp; done)) _ | refine Below.alloc ?_ (by first | omega | (simp; omega) | (simp; done)) _ | refine Below.drew ?_ | refine below_drewN ?_ _ | refine Below.trans ?_ (Below.mono (by assumption) (by first | omega | (simp; omega) | (simp; done))))))).more (by simp; omega))).mono ?_
                rintro e w4 ⟨rfl, hb4⟩
                have z4 := hb4.size
                try simp at z4
                rw [t2]
                obtain ⟨ph, p0, p1, p2, pf, pz⟩ := own3 (g := w.heap.size) hb4 (by first | omega | (simp; omega) | (simp; done)) (by (first | ((repeat' first | (with_reducible (first | assumption | (refine heap_at ?_; (first | rfl | (simp; done))) | refine heap_drew ?_ | refine heap_drewN ?_ | refine heap_past ?_ ?_ | refine heap_far ?_ ?_)) | (simp; done) | (simp; omega)); done) | (repeat' first | assumption | (refine heap_at ?_; (simp; done)) | refine heap_drew ?_ | refine heap_drewN ?_ | (refine heap_past ?_ ?_ <;> try (simp; done)) | (refine heap_far ?_ ?_ <;> try (simp; done)))))
                go_wp2_with fail
                go_roundw
                case rel => exact ⟨k + 1, by omega, by go_num, by rw [HS.out, HRR.out, HT.out, TO.out], ph, by (first | ((repeat' first | (with_reducible (first | exact Below.refl _ _ | assumption | refine Below.setCell ?_ ?_ _ | refine Below.alloc ?_ ?_ _ | refine Below.drew ?_ | refine below_drewN ?_ _ | refine Below.trans ?_ (Below.mono (by assumption) ?_))) | omega | (simp; omega) | (simp; done)); done) | (repeat' first | exact Below.refl _ _ | assumption | refine Below.setCell ?_ (by first | omega | (simp; omega) | (simp; done)) _ | refine Below.alloc ?_ (by first | omega | (simp; omega) | (simp; done)) _ | refine Below.drew ?_ | refine below_drewN ?_ _ | refine Below.trans ?_ (Below.mono (by assumption) (by first | omega | (simp; omega) | (simp; done)))))⟩
                case measure => simp [intOf]; omega
            · obtain rfl : k = l.length := by omega
              go_wp2
              go_ret
              exact ⟨ret_int (by rw [← purseSpec_eq, purseSpec, HST.out, h4]; simp [List.take_length]), by (first | ((repeat' first | (with_reducible (first | exact Below.refl _ _ | assumption | refine Below.setCell ?_ ?_ _ | refine Below.alloc ?_ ?_ _ | refine Below.drew ?_ | refine below_drewN ?_ _ | refine Below.trans ?_ (Below.mono (by assumption) ?_))) | omega | (simp; omega) | (simp; done)); done) | (repeat' first | exact Below.refl _ _ | assumption | refine Below.setCell ?_ (by first | omega | (simp; omega) | (simp; done)) _ | refine Below.alloc ?_ (by first | omega | (simp; omega) | (simp; done)) _ | refine Below.drew ?_ | refine below_drewN ?_ _ | refine Below.trans ?_ (Below.mono (by assumption) (by first | omega | (simp; omega) | (simp; done)))))⟩
        · go_ret
          exact ⟨ret_int (by rw [← purseSpec_eq, purseSpec, HST.out, h4]; simp), by (first | ((repeat' first | (with_reducible (first | exact Below.refl _ _ | assumption | refine Below.setCell ?_ ?_ _ | refine Below.alloc ?_ ?_ _ | refine Below.drew ?_ | refine below_drewN ?_ _ | refine Below.trans ?_ (Below.mono (by assumption) ?_))) | omega | (simp; omega) | (simp; done)); done) | (repeat' first | exact Below.refl _ _ | assumption | refine Below.setCell ?_ (by first | omega | (simp; omega) | (simp; done)) _ | refine Below.alloc ?_ (by first | omega | (simp; omega) | (simp; done)) _ | refine Below.drew ?_ | refine below_drewN ?_ _ | refine Below.trans ?_ (Below.mono (by assumption) (by first | omega | (simp; omega) | (simp; done)))))⟩
      · skip
        have hst : startS at_ l = 0 := by unfold startS; rw [HL.out]; rw [if_neg (by rw [if_pos ha]; omega), if_pos ha]
        have HST := Lib.hid hst
        clear hst
        go_enter Try.func35, Try.ntmps35
        go_wp2_with fail
        refine (s_MaySpend c s (0) n l _ cap _ hl ((HR.out.below (by (first | ((repeat' first | (with_reducible (first | exact Below.refl _ _ | assumption | refine Below.setCell ?_ ?_ _ | refine Below.alloc ?_ ?_ _ | refine Below.drew ?_ | refine below_drewN ?_ _ | refine Below.trans ?_ (Below.mono (by assumption) ?_))) | omega | (simp; omega) | (simp; done)); done) | (repeat' first | exact Below.refl _ _ | assumption | refine Below.setCell ?_ (by first | omega | (simp; omega) | (simp; done)) _ | refine Below.alloc ?_ (by first | omega | (simp; omega) | (simp; done)) _ | refine Below.drew ?_ | refine below_drewN ?_ _ | refine Below.trans ?_ (Below.mono (by assumption) (by first | omega | (simp; omega) | (simp; done))))))).more (by simp))).mono ?_
        rintro e w1 ⟨rfl, hb1⟩
        have z1 := hb1.size
        try simp at z1
        cases h4 : maySpend c s (0) n l
        all_goals
          obtain ⟨kh, k0, k1, k2, kf, kz⟩ := own3 (g := w.heap.size) hb1 (by first | omega | (simp; omega) | (simp; done)) (by (first | ((repeat' first | (with_reducible (first | assumption | (refine heap_at ?_; (first | rfl | (simp; done))) | refine heap_drew ?_ | refine heap_drewN ?_ | refine heap_past ?_ ?_ | refine heap_far ?_ ?_)) | (simp; done) | (simp; omega)); done) | (repeat' first | assumption | (refine heap_at ?_; (simp; done)) | refine heap_drew ?_ | refine heap_drewN ?_ | (refine heap_past ?_ ?_ <;> try (simp; done)) | (refine heap_far ?_ ?_ <;> try (simp; done)))))
          go_wp2_with fail
        · have KH := Lib.hid kh
          clear kh k0 k1 k2 kf kz
          go_loopw [9, 47] (fun r i wr => ∃ k : Nat, k ≤ l.length ∧ i = .int .i64 k ∧ r = .int .i64 (bestL c s n (0) l (l.take k)) ∧ wr.heap[w.heap.size]? = some (.cells #[.int .i64 c, .int .i64 s, .slice (some ⟨b0, off0, none⟩) l.length cap] 59 (0, 0)) ∧ Below w.heap.size w wr) (fun _ i _ => l.length - (intOf i).toNat)
          case atStart => exact ⟨0, Nat.zero_le _, rfl, rfl, KH.out, by (first | ((repeat' first | (with_reducible (first | exact Below.refl _ _ | assumption | refine Below.setCell ?_ ?_ _ | refine Below.alloc ?_ ?_ _ | refine Below.drew ?_ | refine below_drewN ?_ _ | refine Below.trans ?_ (Below.mono (by assumption) ?_))) | omega | (simp; omega) | (simp; done)); done) | (repeat' first | exact Below.refl _ _ | assumption | refine Below.setCell ?_ (by first | omega | (simp; omega) | (simp; done)) _ | refine Below.alloc ?_ (by first | omega | (simp; omega) | (simp; done)) _ | refine Below.drew ?_ | refine below_drewN ?_ _ | refine Below.trans ?_ (Below.mono (by assumption) (by first | omega | (simp; omega) | (simp; done)))))⟩
          case round =>
            obtain ⟨k, hk, rfl, rfl, hcells, hbw⟩ := hrel
            have hbz := hbw.size
            obtain ⟨kh, k0, k1, k2, kf, kz⟩ := own3 (Below.refl wr.heap.size wr) (Array.getElem?_eq_some_iff.1 hcells).1 hcells
            have KH := Lib.hid kh
            clear hcells
            by_cases hlt : k < l.length
            · obtain ⟨b, off, hA, hbB', c0, c1⟩ := Coin.rd (HR.out.below hbw) hlt
              simp only [Option.some.injEq, Addr.mk.injEq, and_true] at hA
              obtain ⟨rfl, rfl⟩ := hA
              have hbr : b0 < wr.heap.size := by omega
              obtain ⟨t, ht⟩ : ∃ t, wrap64 (l[k].At + s) = t := ⟨_, rfl⟩
              obtain ⟨r, hr⟩ : ∃ r, bestL c s n (0) l (l.take k) = r := ⟨_, rfl⟩
              have HS := Lib.hid (bestL_succ c s n (0) l hlt)
              have HT := Lib.hid ht
              have HRR := Lib.hid hr
              rw [hr]
              clear hr
              rcases bestF_cases c s n (0) l r t with ⟨t1, to⟩ | ⟨t1, t2, to⟩ | ⟨t1, t2, t3, to⟩ | ⟨t1, t2, t3, t4, to⟩ | ⟨t1, t2, t3, t4, to⟩
              · have TO := Lib.hid to
                clear to
                go_wp2_with fail
                go_roundw
                case rel => exact ⟨k + 1, by omega, by go_num, by rw [HS.out, HRR.out, HT.out, TO.out], heap_past kz KH.out, by (first | ((repeat' first | (with_reducible (first | exact Below.refl _ _ | assumption | refine Below.setCell ?_ ?_ _ | refine Below.alloc ?_ ?_ _ | refine Below.drew ?_ | refine below_drewN ?_ _ | refine Below.trans ?_ (Below.mono (by assumption) ?_))) | omega | (simp; omega) | (simp; done)); done) | (repeat' first | exact Below.refl _ _ | assumption | refine Below.setCell ?_ (by first | omega | (simp; omega) | (simp; done)) _ | refine Below.alloc ?_ (by first | omega | (simp; omega) | (simp; done)) _ | refine Below.drew ?_ | refine below_drewN ?_ _ | refine Below.trans ?_ (Below.mono (by assumption) (by first | omega | (simp; omega) | (simp; done)))))⟩
                case measure => simp [intOf]; omega
              all_goals
                have TO := Lib.hid to
                clear to
                go_wp2_with fail
                refine (s_MaySpend c s t n l _ cap _ hl ((HR.out.below (by (first | ((repeat' first | (with_reducible (first | exact Below.refl _ _ | assumption | refine Below.setCell ?_ ?_ _ | refine Below.alloc ?_ ?_ _ | refine Below.drew ?_ | refine below_drewN ?_ _ | refine Below.trans ?_ (Below.mono (by assumption) ?_))) | omega | (simp; omega) | (simp; done)); done) | (repeat' first | exact Below.refl _ _ | assumption | refine Below.setCell ?_ (by first | omega | (simp; omega) | (simp; done)) _ | refine Below.alloc ?_ (by first | omega | (simp; omega) | (simp; done)) _ | refine Below.drew ?_ | refine below_drewN ?_ _ | refine Below.trans ?_ (Below.mono (by assumption) (by first | omega | (simp; omega) | (simp; done))))))).more (by simp; omega))).mono ?_
                rintro e w4 ⟨rfl, hb4⟩
                have z4 := hb4.size
                try simp at z4
                rw [t2]
                obtain ⟨ph, p0, p1, p2, pf, pz⟩ := own3 (g := w.heap.size) hb4 (by first | omega | (simp; omega) | (simp; done)) (by (first | ((repeat' first | (with_reducible (first | assumption | (refine heap_at ?_; (first | rfl | (simp; done))) | refine heap_drew ?_ | refine heap_drewN ?_ | refine heap_past ?_ ?_ | refine heap_far ?_ ?_)) | (simp; done) | (simp; omega)); done) | (repeat' first | assumption | (refine heap_at ?_; (simp; done)) | refine heap_drew ?_ | refine heap_drewN ?_ | (refine heap_past ?_ ?_ <;> try (simp; done)) | (refine heap_far ?_ ?_ <;> try (simp; done)))))
                go_wp2_with fail
                go_roundw
                case rel => exact ⟨k + 1, by omega, by go_num, by rw [HS.out, HRR.out, HT.out, TO.out], ph, by (first | ((repeat' first | (with_reducible (first | exact Below.refl _ _ | assumption | refine Below.setCell ?_ ?_ _ | refine Below.alloc ?_ ?_ _ | refine Below.drew ?_ | refine below_drewN ?_ _ | refine Below.trans ?_ (Below.mono (by assumption) ?_))) | omega | (simp; omega) | (simp; done)); done) | (repeat' first | exact Below.refl _ _ | assumption | refine Below.setCell ?_ (by first | omega | (simp; omega) | (simp; done)) _ | refine Below.alloc ?_ (by first | omega | (simp; omega) | (simp; done)) _ | refine Below.drew ?_ | refine below_drewN ?_ _ | refine Below.trans ?_ (Below.mono (by assumption) (by first | omega | (simp; omega) | (simp; done)))))⟩
                case measure => simp [intOf]; omega
            · obtain rfl : k = l.length := by omega
              go_wp2
              go_ret
              exact ⟨ret_int (by rw [← purseSpec_eq, purseSpec, HST.out, h4]; simp [List.take_length]), by (first | ((repeat' first | (with_reducible (first | exact Below.refl _ _ | assumption | refine Below.setCell ?_ ?_ _ | refine Below.alloc ?_ ?_ _ | refine Below.drew ?_ | refine below_drewN ?_ _ | refine Below.trans ?_ (Below.mono (by assumption) ?_))) | omega | (simp; omega) | (simp; done)); done) | (repeat' first | exact Below.refl _ _ | assumption | refine Below.setCell ?_ (by first | omega | (simp; omega) | (simp; done)) _ | refine Below.alloc ?_ (by first | omega | (simp; omega) | (simp; done)) _ | refine Below.drew ?_ | refine below_drewN ?_ _ | refine Below.trans ?_ (Below.mono (by assumption) (by first | omega | (simp; omega) | (simp; done)))))⟩
        · go_ret
          exact ⟨ret_int (by rw [← purseSpec_eq, purseSpec, HST.out, h4]; simp), by (first | ((repeat' first | (with_reducible (first | exact Below.refl _ _ | assumption | refine Below.setCell ?_ ?_ _ | refine Below.alloc ?_ ?_ _ | refine Below.drew ?_ | refine below_drewN ?_ _ | refine Below.trans ?_ (Below.mono (by assumption) ?_))) | omega | (simp; omega) | (simp; done)); done) | (repeat' first | exact Below.refl _ _ | assumption | refine Below.setCell ?_ (by first | omega | (simp; omega) | (simp; done)) _ | refine Below.alloc ?_ (by first | omega | (simp; omega) | (simp; done)) _ | refine Below.drew ?_ | refine below_drewN ?_ _ | refine Below.trans ?_ (Below.mono (by assumption) (by first | omega | (simp; omega) | (simp; done)))))⟩
    · by_cases hg : at_ < l[j].At
      · skip
        have hst : startS at_ l = l[j].At := by unfold startS; rw [HL.out]; rw [if_pos ⟨h0, by rw [if_neg ha]; exact hg⟩]
        have HST := Lib.hid hst
        clear hst
        go_enter Try.func35, Try.ntmps35
        go_wp2_with fail
        refine (s_MaySpend c s (l[j].At) n l _ cap _ hl ((HR.out.below (by (first | ((repeat' first | (with_reducible (first | exact Below.refl _ _ | assumption | refine Below.setCell ?_ ?_ _ | refine Below.alloc ?_ ?_ _ | refine Below.drew ?_ | refine below_drewN ?_ _ | refine Below.trans ?_ (Below.mono (by assumption) ?_))) | omega | (simp; omega) | (simp; done)); done) | (repeat' first | exact Below.refl _ _ | assumption | refine Below.setCell ?_ (by first | omega | (simp; omega) | (simp; done)) _ | refine Below.alloc ?_ (by first | omega | (simp; omega) | (simp; done)) _ | refine Below.drew ?_ | refine below_drewN ?_ _ | refine Below.trans ?_ (Below.mono (by assumption) (by first | omega | (simp; omega) | (simp; done))))))).more (by simp))).mono ?_
        rintro e w1 ⟨rfl, hb1⟩
        have z1 := hb1.size
        try simp at z1
        cases h4 : maySpend c s (l[j].At) n l
        all_goals
          obtain ⟨kh, k0, k1, k2, kf, kz⟩ := own3 (g := w.heap.size) hb1 (by first | omega | (simp; omega) | (simp; done)) (by (first | ((repeat' first | (with_reducible (first | assumption | (refine heap_at ?_; (first | rfl | (simp; done))) | refine heap_drew ?_ | refine heap_drewN ?_ | refine heap_past ?_ ?_ | refine heap_far ?_ ?_)) | (simp; done) | (simp; omega)); done) | (repeat' first | assumption | (refine heap_at ?_; (simp; done)) | refine heap_drew ?_ | refine heap_drewN ?_ | (refine heap_past ?_ ?_ <;> try (simp; done)) | (refine heap_far ?_ ?_ <;> try (simp; done)))))
          go_wp2_with fail
        · have KH := Lib.hid kh
          clear kh k0 k1 k2 kf kz
          go_loopw [9, 47] (fun r i wr => ∃ k : Nat, k ≤ l.length ∧ i = .int .i64 k ∧ r = .int .i64 (bestL c s n (l[j].At) l (l.take k)) ∧ wr.heap[w.heap.size]? = some (.cells #[.int .i64 c, .int .i64 s, .slice (some ⟨b0, off0, none⟩) l.length cap] 59 (0, 0)) ∧ Below w.heap.size w wr) (fun _ i _ => l.length - (intOf i).toNat)
          case atStart => exact ⟨0, Nat.zero_le _, rfl, rfl, KH.out, by (first | ((repeat' first | (with_reducible (first | exact Below.refl _ _ | assumption | refine Below.setCell ?_ ?_ _ | refine Below.alloc ?_ ?_ _ | refine Below.drew ?_ | refine below_drewN ?_ _ | refine Below.trans ?_ (Below.mono (by assumption) ?_))) | omega | (simp; omega) | (simp; done)); done) | (repeat' first | exact Below.refl _ _ | assumption | refine Below.setCell ?_ (by first | omega | (simp; omega) | (simp; done)) _ | refine Below.alloc ?_ (by first | omega | (simp; omega) | (simp; done)) _ | refine Below.drew ?_ | refine below_drewN ?_ _ | refine Below.trans ?_ (Below.mono (by assumption) (by first | omega | (simp; omega) | (simp; done)))))⟩
          case round =>
            obtain ⟨k, hk, rfl, rfl, hcells, hbw⟩ := hrel
            have hbz := hbw.size
            obtain ⟨kh, k0, k1, k2, kf, kz⟩ := own3 (Below.refl wr.heap.size wr) (Array.getElem?_eq_some_iff.1 hcells).1 hcells
            have KH := Lib.hid kh
            clear hcells
            by_cases hlt : k < l.length
            · obtain ⟨b, off, hA, hbB', c0, c1⟩ := Coin.rd (HR.out.below hbw) hlt
              simp only [Option.some.injEq, Addr.mk.injEq, and_true] at hA
              obtain ⟨rfl, rfl⟩ := hA
              have hbr : b0 < wr.heap.size := by omega
              obtain ⟨t, ht⟩ : ∃ t, wrap64 (l[k].At + s) = t := ⟨_, rfl⟩
              obtain ⟨r, hr⟩ : ∃ r, bestL c s n (l[j].At) l (l.take k) = r := ⟨_, rfl⟩
              have HS := Lib.hid (bestL_succ c s n (l[j].At) l hlt)
              have HT := Lib.hid ht
              have HRR := Lib.hid hr
              rw [hr]
              clear hr
              rcases bestF_cases c s n (l[j].At) l r t with ⟨t1, to⟩ | ⟨t1, t2, to⟩ | ⟨t1, t2, t3, to⟩ | ⟨t1, t2, t3, t4, to⟩ | ⟨t1, t2, t3, t4, to⟩
              · have TO := Lib.hid to
                clear to
                go_wp2_with fail
                go_roundw
                case rel => exact ⟨k + 1, by omega, by go_num, by rw [HS.out, HRR.out, HT.out, TO.out], heap_past kz KH.out, by (first | ((repeat' first | (with_reducible (first | exact Below.refl _ _ | assumption | refine Below.setCell ?_ ?_ _ | refine Below.alloc ?_ ?_ _ | refine Below.drew ?_ | refine below_drewN ?_ _ | refine Below.trans ?_ (Below.mono (by assumption) ?_))) | omega | (simp; omega) | (simp; done)); done) | (repeat' first | exact Below.refl _ _ | assumption | refine Below.setCell ?_ (by first | omega | (simp; omega) | (simp; done)) _ | refine Below.alloc ?_ (by first | omega | (simp; omega) | (simp; done)) _ | refine Below.drew ?_ | refine below_drewN ?_ _ | refine Below.trans ?_ (Below.mono (by assumption) (by first | omega | (simp; omega) | (simp; done)))))⟩
                case measure => simp [intOf]; omega
              all_goals
                have TO := Lib.hid to
                clear to
                go_wp2_with fail
                refine (s_MaySpend c s t n l _ cap _ hl ((HR.out.below (by (first | ((repeat' first | (with_reducible (first | exact Below.refl _ _ | assumption | refine Below.setCell ?_ ?_ _ | refine Below.alloc ?_ ?_ _ | refine Below.drew ?_ | refine below_drewN ?_ _ | refine Below.trans ?_ (Below.mono (by assumption) ?_))) | omega | (simp; omega) | (simp; done)); done) | (repeat' first | exact Below.refl _ _ | assumption | refine Below.setCell ?_ (by first | omega | (simp; omega) | (simp; done)) _ | refine Below.alloc ?_ (by first | omega | (simp; omega) | (simp; done)) _ | refine Below.drew ?_ | refine below_drewN ?_ _ | refine Below.trans ?_ (Below.mono (by assumption) (by first | omega | (simp; omega) | (simp; done))))))).more (by simp; omega))).mono ?_
                rintro e w4 ⟨rfl, hb4⟩
                have z4 := hb4.size
                try simp at z4
                rw [t2]
                obtain ⟨ph, p0, p1, p2, pf, pz⟩ := own3 (g := w.heap.size) hb4 (by first | omega | (simp; omega) | (simp; done)) (by (first | ((repeat' first | (with_reducible (first | assumption | (refine heap_at ?_; (first | rfl | (simp; done))) | refine heap_drew ?_ | refine heap_drewN ?_ | refine heap_past ?_ ?_ | refine heap_far ?_ ?_)) | (simp; done) | (simp; omega)); done) | (repeat' first | assumption | (refine heap_at ?_; (simp; done)) | refine heap_drew ?_ | refine heap_drewN ?_ | (refine heap_past ?_ ?_ <;> try (simp; done)) | (refine heap_far ?_ ?_ <;> try (simp; done)))))
                go_wp2_with fail
                go_roundw
                case rel => exact ⟨k + 1, by omega, by go_num, by rw [HS.out, HRR.out, HT.out, TO.out], ph, by (first | ((repeat' first | (with_reducible (first | exact Below.refl _ _ | assumption | refine Below.setCell ?_ ?_ _ | refine Below.alloc ?_ ?_ _ | refine Below.drew ?_ | refine below_drewN ?_ _ | refine Below.trans ?_ (Below.mono (by assumption) ?_))) | omega | (simp; omega) | (simp; done)); done) | (repeat' first | exact Below.refl _ _ | assumption | refine Below.setCell ?_ (by first | omega | (simp; omega) | (simp; done)) _ | refine Below.alloc ?_ (by first | omega | (simp; omega) | (simp; done)) _ | refine Below.drew ?_ | refine below_drewN ?_ _ | refine Below.trans ?_ (Below.mono (by assumption) (by first | omega | (simp; omega) | (simp; done)))))⟩
                case measure => simp [intOf]; omega
            · obtain rfl : k = l.length := by omega
              go_wp2
              go_ret
              exact ⟨ret_int (by rw [← purseSpec_eq, purseSpec, HST.out, h4]; simp [List.take_length]), by (first | ((repeat' first | (with_reducible (first | exact Below.refl _ _ | assumption | refine Below.setCell ?_ ?_ _ | refine Below.alloc ?_ ?_ _ | refine Below.drew ?_ | refine below_drewN ?_ _ | refine Below.trans ?_ (Below.mono (by assumption) ?_))) | omega | (simp; omega) | (simp; done)); done) | (repeat' first | exact Below.refl _ _ | assumption | refine Below.setCell ?_ (by first | omega | (simp; omega) | (simp; done)) _ | refine Below.alloc ?_ (by first | omega | (simp; omega) | (simp; done)) _ | refine Below.drew ?_ | refine below_drewN ?_ _ | refine Below.trans ?_ (Below.mono (by assumption) (by first | omega | (simp; omega) | (simp; done)))))⟩
        · go_ret
          exact ⟨ret_int (by rw [← purseSpec_eq, purseSpec, HST.out, h4]; simp), by (first | ((repeat' first | (with_reducible (first | exact Below.refl _ _ | assumption | refine Below.setCell ?_ ?_ _ | refine Below.alloc ?_ ?_ _ | refine Below.drew ?_ | refine below_drewN ?_ _ | refine Below.trans ?_ (Below.mono (by assumption) ?_))) | omega | (simp; omega) | (simp; done)); done) | (repeat' first | exact Below.refl _ _ | assumption | refine Below.setCell ?_ (by first | omega | (simp; omega) | (simp; done)) _ | refine Below.alloc ?_ (by first | omega | (simp; omega) | (simp; done)) _ | refine Below.drew ?_ | refine below_drewN ?_ _ | refine Below.trans ?_ (Below.mono (by assumption) (by first | omega | (simp; omega) | (simp; done)))))⟩
      · skip
        have hst : startS at_ l = at_ := by unfold startS; rw [HL.out]; rw [if_neg (by rw [if_neg ha]; omega), if_neg ha]
        have HST := Lib.hid hst
        clear hst
        go_enter Try.func35, Try.ntmps35
        go_wp2_with fail
        refine (s_MaySpend c s (at_) n l _ cap _ hl ((HR.out.below (by (first | ((repeat' first | (with_reducible (first | exact Below.refl _ _ | assumption | refine Below.setCell ?_ ?_ _ | refine Below.alloc ?_ ?_ _ | refine Below.drew ?_ | refine below_drewN ?_ _ | refine Below.trans ?_ (Below.mono (by assumption) ?_))) | omega | (simp; omega) | (simp; done)); done) | (repeat' first | exact Below.refl _ _ | assumption | refine Below.setCell ?_ (by first | omega | (simp; omega) | (simp; done)) _ | refine Below.alloc ?_ (by first | omega | (simp; omega) | (simp; done)) _ | refine Below.drew ?_ | refine below_drewN ?_ _ | refine Below.trans ?_ (Below.mono (by assumption) (by first | omega | (simp; omega) | (simp; done))))))).more (by simp))).mono ?_
        rintro e w1 ⟨rfl, hb1⟩
        have z1 := hb1.size
        try simp at z1
        cases h4 : maySpend c s (at_) n l
        all_goals
          obtain ⟨kh, k0, k1, k2, kf, kz⟩ := own3 (g := w.heap.size) hb1 (by first | omega | (simp; omega) | (simp; done)) (by (first | ((repeat' first | (with_reducible (first | assumption | (refine heap_at ?_; (first | rfl | (simp; done))) | refine heap_drew ?_ | refine heap_drewN ?_ | refine heap_past ?_ ?_ | refine heap_far ?_ ?_)) | (simp; done) | (simp; omega)); done) | (repeat' first | assumption | (refine heap_at ?_; (simp; done)) | refine heap_drew ?_ | refine heap_drewN ?_ | (refine heap_past ?_ ?_ <;> try (simp; done)) | (refine heap_far ?_ ?_ <;> try (simp; done)))))
          go_wp2_with fail
        · have KH := Lib.hid kh
          clear kh k0 k1 k2 kf kz
          go_loopw [9, 47] (fun r i wr => ∃ k : Nat, k ≤ l.length ∧ i = .int .i64 k ∧ r = .int .i64 (bestL c s n (at_) l (l.take k)) ∧ wr.heap[w.heap.size]? = some (.cells #[.int .i64 c, .int .i64 s, .slice (some ⟨b0, off0, none⟩) l.length cap] 59 (0, 0)) ∧ Below w.heap.size w wr) (fun _ i _ => l.length - (intOf i).toNat)
          case atStart => exact ⟨0, Nat.zero_le _, rfl, rfl, KH.out, by (first | ((repeat' first | (with_reducible (first | exact Below.refl _ _ | assumption | refine Below.setCell ?_ ?_ _ | refine Below.alloc ?_ ?_ _ | refine Below.drew ?_ | refine below_drewN ?_ _ | refine Below.trans ?_ (Below.mono (by assumption) ?_))) | omega | (simp; omega) | (simp; done)); done) | (repeat' first | exact Below.refl _ _ | assumption | refine Below.setCell ?_ (by first | omega | (simp; omega) | (simp; done)) _ | refine Below.alloc ?_ (by first | omega | (simp; omega) | (simp; done)) _ | refine Below.drew ?_ | refine below_drewN ?_ _ | refine Below.trans ?_ (Below.mono (by assumption) (by first | omega | (simp; omega) | (simp; done)))))⟩
          case round =>
            obtain ⟨k, hk, rfl, rfl, hcells, hbw⟩ := hrel
            have hbz := hbw.size
            obtain ⟨kh, k0, k1, k2, kf, kz⟩ := own3 (Below.refl wr.heap.size wr) (Array.getElem?_eq_some_iff.1 hcells).1 hcells
            have KH := Lib.hid kh
            clear hcells
            by_cases hlt : k < l.length
            · obtain ⟨b, off, hA, hbB', c0, c1⟩ := Coin.rd (HR.out.below hbw) hlt
              simp only [Option.some.injEq, Addr.mk.injEq, and_true] at hA
              obtain ⟨rfl, rfl⟩ := hA
              have hbr : b0 < wr.heap.size := by omega
              obtain ⟨t, ht⟩ : ∃ t, wrap64 (l[k].At + s) = t := ⟨_, rfl⟩
              obtain ⟨r, hr⟩ : ∃ r, bestL c s n (at_) l (l.take k) = r := ⟨_, rfl⟩
              have HS := Lib.hid (bestL_succ c s n (at_) l hlt)
              have HT := Lib.hid ht
              have HRR := Lib.hid hr
              rw [hr]
              clear hr
              rcases bestF_cases c s n (at_) l r t with ⟨t1, to⟩ | ⟨t1, t2, to⟩ | ⟨t1, t2, t3, to⟩ | ⟨t1, t2, t3, t4, to⟩ | ⟨t1, t2, t3, t4, to⟩
              · have TO := Lib.hid to
                clear to
                go_wp2_with fail
                go_roundw
                case rel => exact ⟨k + 1, by omega, by go_num, by rw [HS.out, HRR.out, HT.out, TO.out], heap_past kz KH.out, by (first | ((repeat' first | (with_reducible (first | exact Below.refl _ _ | assumption | refine Below.setCell ?_ ?_ _ | refine Below.alloc ?_ ?_ _ | refine Below.drew ?_ | refine below_drewN ?_ _ | refine Below.trans ?_ (Below.mono (by assumption) ?_))) | omega | (simp; omega) | (simp; done)); done) | (repeat' first | exact Below.refl _ _ | assumption | refine Below.setCell ?_ (by first | omega | (simp; omega) | (simp; done)) _ | refine Below.alloc ?_ (by first | omega | (simp; omega) | (simp; done)) _ | refine Below.drew ?_ | refine below_drewN ?_ _ | refine Below.trans ?_ (Below.mono (by assumption) (by first | omega | (simp; omega) | (simp; done)))))⟩
                case measure => simp [intOf]; omega
              all_goals
                have TO := Lib.hid to
                clear to
                go_wp2_with fail
                refine (s_MaySpend c s t n l _ cap _ hl ((HR.out.below (by (first | ((repeat' first | (with_reducible (first | exact Below.refl _ _ | assumption | refine Below.setCell ?_ ?_ _ | refine Below.alloc ?_ ?_ _ | refine Below.drew ?_ | refine below_drewN ?_ _ | refine Below.trans ?_ (Below.mono (by assumption) ?_))) | omega | (simp; omega) | (simp; done)); done) | (repeat' first | exact Below.refl _ _ | assumption | refine Below.setCell ?_ (by first | omega | (simp; omega) | (simp; done)) _ | refine Below.alloc ?_ (by first | omega | (simp; omega) | (simp; done)) _ | refine Below.drew ?_ | refine below_drewN ?_ _ | refine Below.trans ?_ (Below.mono (by assumption) (by first | omega | (simp; omega) | (simp; done))))))).more (by simp; omega))).mono ?_
                rintro e w4 ⟨rfl, hb4⟩
                have z4 := hb4.size
                try simp at z4
                rw [t2]
                obtain ⟨ph, p0, p1, p2, pf, pz⟩ := own3 (g := w.heap.size) hb4 (by first | omega | (simp; omega) | (simp; done)) (by (first | ((repeat' first | (with_reducible (first | assumption | (refine heap_at ?_; (first | rfl | (simp; done))) | refine heap_drew ?_ | refine heap_drewN ?_ | refine heap_past ?_ ?_ | refine heap_far ?_ ?_)) | (simp; done) | (simp; omega)); done) | (repeat' first | assumption | (refine heap_at ?_; (simp; done)) | refine heap_drew ?_ | refine heap_drewN ?_ | (refine heap_past ?_ ?_ <;> try (simp; done)) | (refine heap_far ?_ ?_ <;> try (simp; done)))))
                go_wp2_with fail
                go_roundw
                case rel => exact ⟨k + 1, by omega, by go_num, by rw [HS.out, HRR.out, HT.out, TO.out], ph, by (first | ((repeat' first | (with_reducible (first | exact Below.refl _ _ | assumption | refine Below.setCell ?_ ?_ _ | refine Below.alloc ?_ ?_ _ | refine Below.drew ?_ | refine below_drewN ?_ _ | refine Below.trans ?_ (Below.mono (by assumption) ?_))) | omega | (simp; omega) | (simp; done)); done) | (repeat' first | exact Below.refl _ _ | assumption | refine Below.setCell ?_ (by first | omega | (simp; omega) | (simp; done)) _ | refine Below.alloc ?_ (by first | omega | (simp; omega) | (simp; done)) _ | refine Below.drew ?_ | refine below_drewN ?_ _ | refine Below.trans ?_ (Below.mono (by assumption) (by first | omega | (simp; omega) | (simp; done)))))⟩
                case measure => simp [intOf]; omega
            · obtain rfl : k = l.length := by omega
              go_wp2
              go_ret
              exact ⟨ret_int (by rw [← purseSpec_eq, purseSpec, HST.out, h4]; simp [List.take_length]), by (first | ((repeat' first | (with_reducible (first | exact Below.refl _ _ | assumption | refine Below.setCell ?_ ?_ _ | refine Below.alloc ?_ ?_ _ | refine Below.drew ?_ | refine below_drewN ?_ _ | refine Below.trans ?_ (Below.mono (by assumption) ?_))) | omega | (simp; omega) | (simp; done)); done) | (repeat' first | exact Below.refl _ _ | assumption | refine Below.setCell ?_ (by first | omega | (simp; omega) | (simp; done)) _ | refine Below.alloc ?_ (by first | omega | (simp; omega) | (simp; done)) _ | refine Below.drew ?_ | refine below_drewN ?_ _ | refine Below.trans ?_ (Below.mono (by assumption) (by first | omega | (simp; omega) | (simp; done)))))⟩
        · go_ret
          exact ⟨ret_int (by rw [← purseSpec_eq, purseSpec, HST.out, h4]; simp), by (first | ((repeat' first | (with_reducible (first | exact Below.refl _ _ | assumption | refine Below.setCell ?_ ?_ _ | refine Below.alloc ?_ ?_ _ | refine Below.drew ?_ | refine below_drewN ?_ _ | refine Below.trans ?_ (Below.mono (by assumption) ?_))) | omega | (simp; omega) | (simp; done)); done) | (repeat' first | exact Below.refl _ _ | assumption | refine Below.setCell ?_ (by first | omega | (simp; omega) | (simp; done)) _ | refine Below.alloc ?_ (by first | omega | (simp; omega) | (simp; done)) _ | refine Below.drew ?_ | refine below_drewN ?_ _ | refine Below.trans ?_ (Below.mono (by assumption) (by first | omega | (simp; omega) | (simp; done)))))⟩
  · have hn : l = [] := List.eq_nil_of_length_eq_zero (by omega)
    subst hn
    by_cases ha : at_ < 0
    · skip
      have hst : startS at_ [] = 0 := by unfold startS; rw [if_neg (by simp), if_pos ha]
      have HST := Lib.hid hst
      clear hst
      go_enter Try.func35, Try.ntmps35
      go_wp2_with fail
      refine (s_MaySpend c s (0) n [] _ cap _ hl ((HR.out.below (by (first | ((repeat' first | (with_reducible (first | exact Below.refl _ _ | assumption | refine Below.setCell ?_ ?_ _ | refine Below.alloc ?_ ?_ _ | refine Below.drew ?_ | refine below_drewN ?_ _ | refine Below.trans ?_ (Below.mono (by assumption) ?_))) | omega | (simp; omega) | (simp; done)); done) | (repeat' first | exact Below.refl _ _ | assumption | refine Below.setCell ?_ (by first | omega | (simp; omega) | (simp; done)) _ | refine Below.alloc ?_ (by first | omega | (simp; omega) | (simp; done)) _ | refine Below.drew ?_ | refine below_drewN ?_ _ | refine Below.trans ?_ (Below.mono (by assumption) (by first | omega | (simp; omega) | (simp; done))))))).more (by simp))).mono ?_
      rintro e w1 ⟨rfl, hb1⟩
      have z1 := hb1.size
      try simp at z1
      cases h4 : maySpend c s (0) n []
      all_goals
        obtain ⟨kh, k0, k1, k2, kf, kz⟩ := own3 (g := w.heap.size) hb1 (by first | omega | (simp; omega) | (simp; done)) (by (first | ((repeat' first | (with_reducible (first | assumption | (refine heap_at ?_; (first | rfl | (simp; done))) | refine heap_drew ?_ | refine heap_drewN ?_ | refine heap_past ?_ ?_ | refine heap_far ?_ ?_)) | (simp; done) | (simp; omega)); done) | (repeat' first | assumption | (refine heap_at ?_; (simp; done)) | refine heap_drew ?_ | refine heap_drewN ?_ | (refine heap_past ?_ ?_ <;> try (simp; done)) | (refine heap_far ?_ ?_ <;> try (simp; done)))))
        go_wp2_with fail
      · go_loopw [9, 47] (fun r i wr => i = .int .i64 0 ∧ r = .int .i64 (-1) ∧ Below w.heap.size w wr) (fun _ i _ => 0)
        case atStart => exact ⟨rfl, rfl, by (first | ((repeat' first | (with_reducible (first | exact Below.refl _ _ | assumption | refine Below.setCell ?_ ?_ _ | refine Below.alloc ?_ ?_ _ | refine Below.drew ?_ | refine below_drewN ?_ _ | refine Below.trans ?_ (Below.mono (by assumption) ?_))) | omega | (simp; omega) | (simp; done)); done) | (repeat' first | exact Below.refl _ _ | assumption | refine Below.setCell ?_ (by first | omega | (simp; omega) | (simp; done)) _ | refine Below.alloc ?_ (by first | omega | (simp; omega) | (simp; done)) _ | refine Below.drew ?_ | refine below_drewN ?_ _ | refine Below.trans ?_ (Below.mono (by assumption) (by first | omega | (simp; omega) | (simp; done)))))⟩
        case round =>
          obtain ⟨rfl, rfl, hbw⟩ := hrel
          go_wp2
          go_ret
          exact ⟨ret_int (by rw [← purseSpec_eq, purseSpec, HST.out, h4]; rfl), by (first | ((repeat' first | (with_reducible (first | exact Below.refl _ _ | assumption | refine Below.setCell ?_ ?_ _ | refine Below.alloc ?_ ?_ _ | refine Below.drew ?_ | refine below_drewN ?_ _ | refine Below.trans ?_ (Below.mono (by assumption) ?_))) | omega | (simp; omega) | (simp; done)); done) | (repeat' first | exact Below.refl _ _ | assumption | refine Below.setCell ?_ (by first | omega | (simp; omega) | (simp; done)) _ | refine Below.alloc ?_ (by first | omega | (simp; omega) | (simp; done)) _ | refine Below.drew ?_ | refine below_drewN ?_ _ | refine Below.trans ?_ (Below.mono (by assumption) (by first | omega | (simp; omega) | (simp; done)))))⟩
      · go_ret
        exact ⟨ret_int (by rw [← purseSpec_eq, purseSpec, HST.out, h4]; rfl), by (first | ((repeat' first | (with_reducible (first | exact Below.refl _ _ | assumption | refine Below.setCell ?_ ?_ _ | refine Below.alloc ?_ ?_ _ | refine Below.drew ?_ | refine below_drewN ?_ _ | refine Below.trans ?_ (Below.mono (by assumption) ?_))) | omega | (simp; omega) | (simp; done)); done) | (repeat' first | exact Below.refl _ _ | assumption | refine Below.setCell ?_ (by first | omega | (simp; omega) | (simp; done)) _ | refine Below.alloc ?_ (by first | omega | (simp; omega) | (simp; done)) _ | refine Below.drew ?_ | refine below_drewN ?_ _ | refine Below.trans ?_ (Below.mono (by assumption) (by first | omega | (simp; omega) | (simp; done)))))⟩
    · skip
      have hst : startS at_ [] = at_ := by unfold startS; rw [if_neg (by simp), if_neg ha]
      have HST := Lib.hid hst
      clear hst
      go_enter Try.func35, Try.ntmps35
      go_wp2_with fail
      refine (s_MaySpend c s (at_) n [] _ cap _ hl ((HR.out.below (by (first | ((repeat' first | (with_reducible (first | exact Below.refl _ _ | assumption | refine Below.setCell ?_ ?_ _ | refine Below.alloc ?_ ?_ _ | refine Below.drew ?_ | refine below_drewN ?_ _ | refine Below.trans ?_ (Below.mono (by assumption) ?_))) | omega | (simp; omega) | (simp; done)); done) | (repeat' first | exact Below.refl _ _ | assumption | refine Below.setCell ?_ (by first | omega | (simp; omega) | (simp; done)) _ | refine Below.alloc ?_ (by first | omega | (simp; omega) | (simp; done)) _ | refine Below.drew ?_ | refine below_drewN ?_ _ | refine Below.trans ?_ (Below.mono (by assumption) (by first | omega | (simp; omega) | (simp; done))))))).more (by simp))).mono ?_
      rintro e w1 ⟨rfl, hb1⟩
      have z1 := hb1.size
      try simp at z1
      cases h4 : maySpend c s (at_) n []
      all_goals
        obtain ⟨kh, k0, k1, k2, kf, kz⟩ := own3 (g := w.heap.size) hb1 (by first | omega | (simp; omega) | (simp; done)) (by (first | ((repeat' first | (with_reducible (first | assumption | (refine heap_at ?_; (first | rfl | (simp; done))) | refine heap_drew ?_ | refine heap_drewN ?_ | refine heap_past ?_ ?_ | refine heap_far ?_ ?_)) | (simp; done) | (simp; omega)); done) | (repeat' first | assumption | (refine heap_at ?_; (simp; done)) | refine heap_drew ?_ | refine heap_drewN ?_ | (refine heap_past ?_ ?_ <;> try (simp; done)) | (refine heap_far ?_ ?_ <;> try (simp; done)))))
        go_wp2_with fail
      · go_loopw [9, 47] (fun r i wr => i = .int .i64 0 ∧ r = .int .i64 (-1) ∧ Below w.heap.size w wr) (fun _ i _ => 0)
        case atStart => exact ⟨rfl, rfl, by (first | ((repeat' first | (with_reducible (first | exact Below.refl _ _ | assumption | refine Below.setCell ?_ ?_ _ | refine Below.alloc ?_ ?_ _ | refine Below.drew ?_ | refine below_drewN ?_ _ | refine Below.trans ?_ (Below.mono (by assumption) ?_))) | omega | (simp; omega) | (simp; done)); done) | (repeat' first | exact Below.refl _ _ | assumption | refine Below.setCell ?_ (by first | omega | (simp; omega) | (simp; done)) _ | refine Below.alloc ?_ (by first | omega | (simp; omega) | (simp; done)) _ | refine Below.drew ?_ | refine below_drewN ?_ _ | refine Below.trans ?_ (Below.mono (by assumption) (by first | omega | (simp; omega) | (simp; done)))))⟩
        case round =>
          obtain ⟨rfl, rfl, hbw⟩ := hrel
          go_wp2
          go_ret
          exact ⟨ret_int (by rw [← purseSpec_eq, purseSpec, HST.out, h4]; rfl), by (first | ((repeat' first | (with_reducible (first | exact Below.refl _ _ | assumption | refine Below.setCell ?_ ?_ _ | refine Below.alloc ?_ ?_ _ | refine Below.drew ?_ | refine below_drewN ?_ _ | refine Below.trans ?_ (Below.mono (by assumption) ?_))) | omega | (simp; omega) | (simp; done)); done) | (repeat' first | exact Below.refl _ _ | assumption | refine Below.setCell ?_ (by first | omega | (simp; omega) | (simp; done)) _ | refine Below.alloc ?_ (by first | omega | (simp; omega) | (simp; done)) _ | refine Below.drew ?_ | refine below_drewN ?_ _ | refine Below.trans ?_ (Below.mono (by assumption) (by first | omega | (simp; omega) | (simp; done)))))⟩
      · go_ret
        exact ⟨ret_int (by rw [← purseSpec_eq, purseSpec, HST.out, h4]; rfl), by (first | ((repeat' first | (with_reducible (first | exact Below.refl _ _ | assumption | refine Below.setCell ?_ ?_ _ | refine Below.alloc ?_ ?_ _ | refine Below.drew ?_ | refine below_drewN ?_ _ | refine Below.trans ?_ (Below.mono (by assumption) ?_))) | omega | (simp; omega) | (simp; done)); done) | (repeat' first | exact Below.refl _ _ | assumption | refine Below.setCell ?_ (by first | omega | (simp; omega) | (simp; done)) _ | refine Below.alloc ?_ (by first | omega | (simp; omega) | (simp; done)) _ | refine Below.drew ?_ | refine below_drewN ?_ _ | refine Below.trans ?_ (Below.mono (by assumption) (by first | omega | (simp; omega) | (simp; done)))))⟩
end Go.Proofs.Ytplchgkppkibnaa
