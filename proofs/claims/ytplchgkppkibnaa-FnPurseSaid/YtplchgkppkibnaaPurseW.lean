/- Purses: when: plain, and the walk of the program. -/
import Derived.Test.YtplchgkppkibnaaRows
import Derived.Test.YtplchgkppkibnaaPurseMs
namespace Go.Proofs.Ytplchgkppkibnaa
open Go.RowKit

/-- The end of a coin serves. -/
def endOk (c s n first : Int) (l : List Coin) (x : Coin) : Bool := decide (first < x.At + s) && decide (x.At + s ≤ 1000000000) && mayB c s (x.At + s) n l
/-- The first coin's end that serves, of the first k; -1 where there is none. -/
def firstEnd (c s n first : Int) (l : List Coin) (k : Nat) : Int :=
  match (l.take k).find? (endOk c s n first l) with
  | some x => x.At + s
  | none => -1
def purseWhen (c s at_ n : Int) (l : List Coin) : Int :=
  if purseOk c s l && inB n 1 1125899906842624 && decide (at_ ≤ 1000000000) then
    if mayB c s (max at_ (lastAt l)) n l then max at_ (lastAt l) else firstEnd c s n (max at_ (lastAt l)) l l.length
  else -1
theorem find_take_succ {l : List Coin} {p : Coin → Bool} {k : Nat} (hk : k < l.length) (hn : (l.take k).find? p = none) : (l.take (k + 1)).find? p = if p l[k] = true then some l[k] else none := by
  rw [List.take_succ_eq_append_getElem hk, List.find?_append, hn]
  cases h : p l[k] <;> simp [h]
theorem find_take_stay {l : List Coin} {p : Coin → Bool} {x : Coin} {k m : Nat} (h : (l.take k).find? p = some x) (hkm : k ≤ m) : (l.take m).find? p = some x := by
  have e : l.take m = l.take k ++ (l.drop k).take (m - k) := by rw [← List.take_add]; congr 1; omega
  rw [e, List.find?_append, h]
  rfl
theorem lastAt_bd {l : List Coin} (h : CoinsOk l) : 0 ≤ lastAt l ∧ lastAt l ≤ 1000000000 := by
  by_cases hl : 0 < l.length
  · rw [lastAt_get hl]
    exact (h.at_ _).1
  · have : l = [] := List.eq_nil_of_length_eq_zero (by omega)
    subst this
    simp [lastAt_nil]
set_option maxHeartbeats 4000000 in
theorem i_PurseWhen (c s at_ n : Int) (l : List Coin) (A : Option Addr) (cap : Nat) (w : World) (hl : l.length ≤ 1048576) (ha : -9223372036854775808 ≤ at_ ∧ at_ ≤ 9223372036854775807) (hr : Rd w w.heap.size 2 A (l.map Coin.cells)) :
    Calls Try.prog 34 #[.agg #[.int .i64 c, .int .i64 s, .slice A l.length cap], .int .i64 at_, .int .i64 n] w fun e w' => e = .returned (.int .i64 (purseWhen c s at_ n l)) ∧ Below w.heap.size w w' := by
  have HR := Lib.hid hr
  clear hr
  cases h1 : purseOk c s l
  · clear ha
    go_enter Try.func34, Try.ntmps34
    go_wp2_with fail
    refine (i_PurseOk c s l A cap _ hl ((HR.out.below (by (first | ((repeat' first | (with_reducible (first | exact Below.refl _ _ | assumption | refine Below.setCell ?_ ?_ _ | refine Below.alloc ?_ ?_ _ | refine Below.drew ?_ | refine below_drewN ?_ _ | refine Below.trans ?_ (Below.mono (by assumption) ?_))) | omega | (simp; omega) | (simp; done)); done) | (repeat' first | exact Below.refl _ _ | assumption | refine Below.setCell ?_ (by first | omega | (simp; omega) | (simp; done)) _ | refine Below.alloc ?_ (by first | omega | (simp; omega) | (simp; done)) _ | refine Below.drew ?_ | refine below_drewN ?_ _ | refine Below.trans ?_ (Below.mono (by assumption) (by first | omega | (simp; omega) | (simp; done))))))).more (by simp))).mono ?_
    rintro e w1 ⟨rfl, hb1⟩
    have z1 := hb1.size
    try simp at z1
    rw [h1]
    go_wp2_with fail
    go_ret
    exact ⟨ret_int (by simp [purseWhen, h1]), by (first | ((repeat' first | (with_reducible (first | exact Below.refl _ _ | assumption | refine Below.setCell ?_ ?_ _ | refine Below.alloc ?_ ?_ _ | refine Below.drew ?_ | refine below_drewN ?_ _ | refine Below.trans ?_ (Below.mono (by assumption) ?_))) | omega | (simp; omega) | (simp; done)); done) | (repeat' first | exact Below.refl _ _ | assumption | refine Below.setCell ?_ (by first | omega | (simp; omega) | (simp; done)) _ | refine Below.alloc ?_ (by first | omega | (simp; omega) | (simp; done)) _ | refine Below.drew ?_ | refine below_drewN ?_ _ | refine Below.trans ?_ (Below.mono (by assumption) (by first | omega | (simp; omega) | (simp; done)))))⟩
  · cases h2 : inB n 1 1125899906842624
    · clear ha
      go_enter Try.func34, Try.ntmps34
      go_wp2_with fail
      refine (i_PurseOk c s l A cap _ hl ((HR.out.below (by (first | ((repeat' first | (with_reducible (first | exact Below.refl _ _ | assumption | refine Below.setCell ?_ ?_ _ | refine Below.alloc ?_ ?_ _ | refine Below.drew ?_ | refine below_drewN ?_ _ | refine Below.trans ?_ (Below.mono (by assumption) ?_))) | omega | (simp; omega) | (simp; done)); done) | (repeat' first | exact Below.refl _ _ | assumption | refine Below.setCell ?_ (by first | omega | (simp; omega) | (simp; done)) _ | refine Below.alloc ?_ (by first | omega | (simp; omega) | (simp; done)) _ | refine Below.drew ?_ | refine below_drewN ?_ _ | refine Below.trans ?_ (Below.mono (by assumption) (by first | omega | (simp; omega) | (simp; done))))))).more (by simp))).mono ?_
      rintro e w1 ⟨rfl, hb1⟩
      have z1 := hb1.size
      try simp at z1
      rw [h1]
      go_wp2_with (go_at_call 57; refine (i_in _ _ _ _).mono ?_; rintro e w' ⟨rfl, rfl⟩)
      go_ret
      exact ⟨ret_int (by simp [purseWhen, h1, h2]), by (first | ((repeat' first | (with_reducible (first | exact Below.refl _ _ | assumption | refine Below.setCell ?_ ?_ _ | refine Below.alloc ?_ ?_ _ | refine Below.drew ?_ | refine below_drewN ?_ _ | refine Below.trans ?_ (Below.mono (by assumption) ?_))) | omega | (simp; omega) | (simp; done)); done) | (repeat' first | exact Below.refl _ _ | assumption | refine Below.setCell ?_ (by first | omega | (simp; omega) | (simp; done)) _ | refine Below.alloc ?_ (by first | omega | (simp; omega) | (simp; done)) _ | refine Below.drew ?_ | refine below_drewN ?_ _ | refine Below.trans ?_ (Below.mono (by assumption) (by first | omega | (simp; omega) | (simp; done)))))⟩
    · by_cases h3 : at_ ≤ 1000000000
      · have hf : purseForm c s l = true := by
          simp only [purseOk, Bool.and_eq_true] at h1
          exact h1.1
        obtain ⟨hok, ⟨q1, q2⟩, q3, q4⟩ := purseForm_iff.1 hf
        obtain ⟨n1, n2⟩ := inB_iff.1 h2
        obtain ⟨l1, l2⟩ := lastAt_bd hok
        have HOK := Lib.hid hok
        have H1 := Lib.hid h1
        have HA := Lib.hid ha
        clear hok hf ha
        by_cases hx : at_ < lastAt l
        · have F1 : 0 ≤ lastAt l ∧ lastAt l ≤ 1000000000 := ⟨by omega, by omega⟩
          obtain ⟨f1, f2⟩ := F1
          have hmx : max at_ (lastAt l) = lastAt l := by omega
          have HM := Lib.hid hmx
          clear hmx
          cases h4 : mayB c s (lastAt l) n l
          all_goals
            go_enter Try.func34, Try.ntmps34
            go_wp2_with fail
            refine (i_PurseOk c s l A cap _ hl ((HR.out.below (by (first | ((repeat' first | (with_reducible (first | exact Below.refl _ _ | assumption | refine Below.setCell ?_ ?_ _ | refine Below.alloc ?_ ?_ _ | refine Below.drew ?_ | refine below_drewN ?_ _ | refine Below.trans ?_ (Below.mono (by assumption) ?_))) | omega | (simp; omega) | (simp; done)); done) | (repeat' first | exact Below.refl _ _ | assumption | refine Below.setCell ?_ (by first | omega | (simp; omega) | (simp; done)) _ | refine Below.alloc ?_ (by first | omega | (simp; omega) | (simp; done)) _ | refine Below.drew ?_ | refine below_drewN ?_ _ | refine Below.trans ?_ (Below.mono (by assumption) (by first | omega | (simp; omega) | (simp; done))))))).more (by simp))).mono ?_
            rintro e w1 ⟨rfl, hb1⟩
            have z1 := hb1.size
            try simp at z1
            rw [H1.out]
            obtain ⟨kh, k0, k1, k2, kf, kz⟩ := own3 (g := w.heap.size) hb1 (by first | omega | (simp; omega) | (simp; done)) (by (first | ((repeat' first | (with_reducible (first | assumption | (refine heap_at ?_; (first | rfl | (simp; done))) | refine heap_drew ?_ | refine heap_drewN ?_ | refine heap_past ?_ ?_ | refine heap_far ?_ ?_)) | (simp; done) | (simp; omega)); done) | (repeat' first | assumption | (refine heap_at ?_; (simp; done)) | refine heap_drew ?_ | refine heap_drewN ?_ | (refine heap_past ?_ ?_ <;> try (simp; done)) | (refine heap_far ?_ ?_ <;> try (simp; done)))))
            go_wp2_with (go_at_call 57; refine (i_in _ _ _ _).mono ?_; rintro e w' ⟨rfl, rfl⟩)
            refine (i_lastCoin c s l A cap _ hl ((HR.out.below (by (first | ((repeat' first | (with_reducible (first | exact Below.refl _ _ | assumption | refine Below.setCell ?_ ?_ _ | refine Below.alloc ?_ ?_ _ | refine Below.drew ?_ | refine below_drewN ?_ _ | refine Below.trans ?_ (Below.mono (by assumption) ?_))) | omega | (simp; omega) | (simp; done)); done) | (repeat' first | exact Below.refl _ _ | assumption | refine Below.setCell ?_ (by first | omega | (simp; omega) | (simp; done)) _ | refine Below.alloc ?_ (by first | omega | (simp; omega) | (simp; done)) _ | refine Below.drew ?_ | refine below_drewN ?_ _ | refine Below.trans ?_ (Below.mono (by assumption) (by first | omega | (simp; omega) | (simp; done))))))).more (by omega))).mono ?_
            rintro e w2 ⟨rfl, hb2⟩
            have z2 := hb2.size
            try simp at z2
            obtain ⟨jh, j0, j1, j2, jf, jz⟩ := own3 (g := w.heap.size) hb2 (by first | omega | (simp; omega) | (simp; done)) (by (first | ((repeat' first | (with_reducible (first | assumption | (refine heap_at ?_; (first | rfl | (simp; done))) | refine heap_drew ?_ | refine heap_drewN ?_ | refine heap_past ?_ ?_ | refine heap_far ?_ ?_)) | (simp; done) | (simp; omega)); done) | (repeat' first | assumption | (refine heap_at ?_; (simp; done)) | refine heap_drew ?_ | refine heap_drewN ?_ | (refine heap_past ?_ ?_ <;> try (simp; done)) | (refine heap_far ?_ ?_ <;> try (simp; done)))))
            clear kh k0 k1 k2 kf kz
            go_wp2_with fail
            refine (i_maySpend c s (lastAt l) n l A cap _ HOK.out (by omega) ⟨by omega, by omega⟩ ((HR.out.below (by (first | ((repeat' first | (with_reducible (first | exact Below.refl _ _ | assumption | refine Below.setCell ?_ ?_ _ | refine Below.alloc ?_ ?_ _ | refine Below.drew ?_ | refine below_drewN ?_ _ | refine Below.trans ?_ (Below.mono (by assumption) ?_))) | omega | (simp; omega) | (simp; done)); done) | (repeat' first | exact Below.refl _ _ | assumption | refine Below.setCell ?_ (by first | omega | (simp; omega) | (simp; done)) _ | refine Below.alloc ?_ (by first | omega | (simp; omega) | (simp; done)) _ | refine Below.drew ?_ | refine below_drewN ?_ _ | refine Below.trans ?_ (Below.mono (by assumption) (by first | omega | (simp; omega) | (simp; done))))))).more (by omega))).mono ?_
            rintro e w3 ⟨rfl, hb3⟩
            have z3 := hb3.size
            try simp at z3
            rw [h4]
            obtain ⟨mh, m0, m1, m2, mf, mz⟩ := own3 (g := w.heap.size) hb3 (by first | omega | (simp; omega) | (simp; done)) (by (first | ((repeat' first | (with_reducible (first | assumption | (refine heap_at ?_; (first | rfl | (simp; done))) | refine heap_drew ?_ | refine heap_drewN ?_ | refine heap_past ?_ ?_ | refine heap_far ?_ ?_)) | (simp; done) | (simp; omega)); done) | (repeat' first | assumption | (refine heap_at ?_; (simp; done)) | refine heap_drew ?_ | refine heap_drewN ?_ | (refine heap_past ?_ ?_ <;> try (simp; done)) | (refine heap_far ?_ ?_ <;> try (simp; done)))))
            clear jh j0 j1 j2 jf jz
            go_wp2_with fail
          · have MH := Lib.hid mh
            clear mh m0 m1 m2 mf mz
            go_loopw [35] (fun i wr => ∃ k : Nat, k ≤ l.length ∧ i = .int .i64 k ∧ (l.take k).find? (endOk c s n (lastAt l) l) = none ∧ wr.heap[w.heap.size]? = some (.cells #[.int .i64 c, .int .i64 s, .slice A l.length cap] 59 (0, 0)) ∧ Below w.heap.size w wr) (fun i _ => l.length - (intOf i).toNat)
            case atStart => exact ⟨0, Nat.zero_le _, rfl, rfl, MH.out, by (first | ((repeat' first | (with_reducible (first | exact Below.refl _ _ | assumption | refine Below.setCell ?_ ?_ _ | refine Below.alloc ?_ ?_ _ | refine Below.drew ?_ | refine below_drewN ?_ _ | refine Below.trans ?_ (Below.mono (by assumption) ?_))) | omega | (simp; omega) | (simp; done)); done) | (repeat' first | exact Below.refl _ _ | assumption | refine Below.setCell ?_ (by first | omega | (simp; omega) | (simp; done)) _ | refine Below.alloc ?_ (by first | omega | (simp; omega) | (simp; done)) _ | refine Below.drew ?_ | refine below_drewN ?_ _ | refine Below.trans ?_ (Below.mono (by assumption) (by first | omega | (simp; omega) | (simp; done)))))⟩
            case round =>
              obtain ⟨k, hk, rfl, hnone, hcells, hbw⟩ := hrel
              have hbz := hbw.size
              obtain ⟨kh, k0, k1, k2, kf, kz⟩ := own3 (Below.refl wr.heap.size wr) (Array.getElem?_eq_some_iff.1 hcells).1 hcells
              have KH := Lib.hid kh
              have HN := Lib.hid hnone
              clear hcells hnone kh
              by_cases hlt : k < l.length
              · obtain ⟨b, off, rfl, hbB, c0, c1⟩ := Coin.rd (HR.out.below hbw) hlt
                have hbr : b < wr.heap.size := by omega
                obtain ⟨⟨m1, m2⟩, m3, m4⟩ := HOK.out.at_ hlt
                have hcase : (l[k].At + s ≤ lastAt l ∧ endOk c s n (lastAt l) l l[k] = false) ∨ (lastAt l < l[k].At + s ∧ 1000000000 < l[k].At + s ∧ endOk c s n (lastAt l) l l[k] = false) ∨
                    (lastAt l < l[k].At + s ∧ l[k].At + s ≤ 1000000000 ∧ mayB c s (l[k].At + s) n l = false ∧ endOk c s n (lastAt l) l l[k] = false) ∨
                    (lastAt l < l[k].At + s ∧ l[k].At + s ≤ 1000000000 ∧ mayB c s (l[k].At + s) n l = true ∧ endOk c s n (lastAt l) l l[k] = true) := by
                  unfold endOk
                  cases mayB c s (l[k].At + s) n l <;> simp <;> omega
                rcases hcase with ⟨t1, to⟩ | ⟨t1, t2, to⟩ | ⟨t1, t2, t3, to⟩ | ⟨t1, t2, t3, to⟩
                · have TO := Lib.hid to
                  clear to
                  go_wp2_with fail
                  go_roundw
                  case rel => exact ⟨k + 1, by omega, by go_num, by rw [find_take_succ hlt HN.out, TO.out]; rfl, heap_past kz KH.out, by (first | ((repeat' first | (with_reducible (first | exact Below.refl _ _ | assumption | refine Below.setCell ?_ ?_ _ | refine Below.alloc ?_ ?_ _ | refine Below.drew ?_ | refine below_drewN ?_ _ | refine Below.trans ?_ (Below.mono (by assumption) ?_))) | omega | (simp; omega) | (simp; done)); done) | (repeat' first | exact Below.refl _ _ | assumption | refine Below.setCell ?_ (by first | omega | (simp; omega) | (simp; done)) _ | refine Below.alloc ?_ (by first | omega | (simp; omega) | (simp; done)) _ | refine Below.drew ?_ | refine below_drewN ?_ _ | refine Below.trans ?_ (Below.mono (by assumption) (by first | omega | (simp; omega) | (simp; done)))))⟩
                  case measure => simp [intOf]; omega
                · have TO := Lib.hid to
                  clear to
                  go_wp2_with fail
                  go_roundw
                  case rel => exact ⟨k + 1, by omega, by go_num, by rw [find_take_succ hlt HN.out, TO.out]; rfl, heap_past kz KH.out, by (first | ((repeat' first | (with_reducible (first | exact Below.refl _ _ | assumption | refine Below.setCell ?_ ?_ _ | refine Below.alloc ?_ ?_ _ | refine Below.drew ?_ | refine below_drewN ?_ _ | refine Below.trans ?_ (Below.mono (by assumption) ?_))) | omega | (simp; omega) | (simp; done)); done) | (repeat' first | exact Below.refl _ _ | assumption | refine Below.setCell ?_ (by first | omega | (simp; omega) | (simp; done)) _ | refine Below.alloc ?_ (by first | omega | (simp; omega) | (simp; done)) _ | refine Below.drew ?_ | refine below_drewN ?_ _ | refine Below.trans ?_ (Below.mono (by assumption) (by first | omega | (simp; omega) | (simp; done)))))⟩
                  case measure => simp [intOf]; omega
                · have TO := Lib.hid to
                  clear to
                  have kh := KH.out
                  go_wp2_with fail
                  refine (i_maySpend c s (l[k].At + s) n l _ cap _ HOK.out (by omega) ⟨by omega, by omega⟩ ((HR.out.below (by (first | ((repeat' first | (with_reducible (first | exact Below.refl _ _ | assumption | refine Below.setCell ?_ ?_ _ | refine Below.alloc ?_ ?_ _ | refine Below.drew ?_ | refine below_drewN ?_ _ | refine Below.trans ?_ (Below.mono (by assumption) ?_))) | omega | (simp; omega) | (simp; done)); done) | (repeat' first | exact Below.refl _ _ | assumption | refine Below.setCell ?_ (by first | omega | (simp; omega) | (simp; done)) _ | refine Below.alloc ?_ (by first | omega | (simp; omega) | (simp; done)) _ | refine Below.drew ?_ | refine below_drewN ?_ _ | refine Below.trans ?_ (Below.mono (by assumption) (by first | omega | (simp; omega) | (simp; done))))))).more (by simp; omega))).mono ?_
                  rintro e w4 ⟨rfl, hb4⟩
                  have z4 := hb4.size
                  try simp at z4
                  rw [t3]
                  obtain ⟨ph, p0, p1, p2, pf, pz⟩ := own3 (g := w.heap.size) hb4 (by first | omega | (simp; omega) | (simp; done)) (by (first | ((repeat' first | (with_reducible (first | assumption | (refine heap_at ?_; (first | rfl | (simp; done))) | refine heap_drew ?_ | refine heap_drewN ?_ | refine heap_past ?_ ?_ | refine heap_far ?_ ?_)) | (simp; done) | (simp; omega)); done) | (repeat' first | assumption | (refine heap_at ?_; (simp; done)) | refine heap_drew ?_ | refine heap_drewN ?_ | (refine heap_past ?_ ?_ <;> try (simp; done)) | (refine heap_far ?_ ?_ <;> try (simp; done)))))
                  go_wp2_with fail
                  go_roundw
                  case rel => exact ⟨k + 1, by omega, by go_num, by rw [find_take_succ hlt HN.out, TO.out]; rfl, ph, by (first | ((repeat' first | (with_reducible (first | exact Below.refl _ _ | assumption | refine Below.setCell ?_ ?_ _ | refine Below.alloc ?_ ?_ _ | refine Below.drew ?_ | refine below_drewN ?_ _ | refine Below.trans ?_ (Below.mono (by assumption) ?_))) | omega | (simp; omega) | (simp; done)); done) | (repeat' first | exact Below.refl _ _ | assumption | refine Below.setCell ?_ (by first | omega | (simp; omega) | (simp; done)) _ | refine Below.alloc ?_ (by first | omega | (simp; omega) | (simp; done)) _ | refine Below.drew ?_ | refine below_drewN ?_ _ | refine Below.trans ?_ (Below.mono (by assumption) (by first | omega | (simp; omega) | (simp; done)))))⟩
                  case measure => simp [intOf]; omega
                · have TO := Lib.hid to
                  clear to
                  have kh := KH.out
                  go_wp2_with fail
                  refine (i_maySpend c s (l[k].At + s) n l _ cap _ HOK.out (by omega) ⟨by omega, by omega⟩ ((HR.out.below (by (first | ((repeat' first | (with_reducible (first | exact Below.refl _ _ | assumption | refine Below.setCell ?_ ?_ _ | refine Below.alloc ?_ ?_ _ | refine Below.drew ?_ | refine below_drewN ?_ _ | refine Below.trans ?_ (Below.mono (by assumption) ?_))) | omega | (simp; omega) | (simp; done)); done) | (repeat' first | exact Below.refl _ _ | assumption | refine Below.setCell ?_ (by first | omega | (simp; omega) | (simp; done)) _ | refine Below.alloc ?_ (by first | omega | (simp; omega) | (simp; done)) _ | refine Below.drew ?_ | refine below_drewN ?_ _ | refine Below.trans ?_ (Below.mono (by assumption) (by first | omega | (simp; omega) | (simp; done))))))).more (by simp; omega))).mono ?_
                  rintro e w4 ⟨rfl, hb4⟩
                  have z4 := hb4.size
                  try simp at z4
                  rw [t3]
                  go_wp2_with fail
                  go_ret
                  refine ⟨ret_int ?_, by (first | ((repeat' first | (with_reducible (first | exact Below.refl _ _ | assumption | refine Below.setCell ?_ ?_ _ | refine Below.alloc ?_ ?_ _ | refine Below.drew ?_ | refine below_drewN ?_ _ | refine Below.trans ?_ (Below.mono (by assumption) ?_))) | omega | (simp; omega) | (simp; done)); done) | (repeat' first | exact Below.refl _ _ | assumption | refine Below.setCell ?_ (by first | omega | (simp; omega) | (simp; done)) _ | refine Below.alloc ?_ (by first | omega | (simp; omega) | (simp; done)) _ | refine Below.drew ?_ | refine below_drewN ?_ _ | refine Below.trans ?_ (Below.mono (by assumption) (by first | omega | (simp; omega) | (simp; done)))))⟩
                  have hfind := find_take_succ hlt HN.out
                  rw [TO.out, if_pos rfl] at hfind
                  have hst := find_take_stay hfind (m := l.length) (by omega)
                  unfold purseWhen
                  rw [if_pos (by simp [H1.out, h2, h3]), HM.out, if_neg (by simp [h4])]
                  unfold firstEnd
                  rw [hst]
              · obtain rfl : k = l.length := by omega
                go_wp2
                go_ret
                exact ⟨ret_int (by unfold purseWhen; rw [if_pos (by simp [H1.out, h2, h3]), HM.out, if_neg (by simp [h4])]; unfold firstEnd; rw [HN.out]), by (first | ((repeat' first | (with_reducible (first | exact Below.refl _ _ | assumption | refine Below.setCell ?_ ?_ _ | refine Below.alloc ?_ ?_ _ | refine Below.drew ?_ | refine below_drewN ?_ _ | refine Below.trans ?_ (Below.mono (by assumption) ?_))) | omega | (simp; omega) | (simp; done)); done) | (repeat' first | exact Below.refl _ _ | assumption | refine Below.setCell ?_ (by first | omega | (simp; omega) | (simp; done)) _ | refine Below.alloc ?_ (by first | omega | (simp; omega) | (simp; done)) _ | refine Below.drew ?_ | refine below_drewN ?_ _ | refine Below.trans ?_ (Below.mono (by assumption) (by first | omega | (simp; omega) | (simp; done)))))⟩
          · go_ret
            exact ⟨ret_int (by unfold purseWhen; rw [if_pos (by simp [H1.out, h2, h3]), HM.out, if_pos h4]), by (first | ((repeat' first | (with_reducible (first | exact Below.refl _ _ | assumption | refine Below.setCell ?_ ?_ _ | refine Below.alloc ?_ ?_ _ | refine Below.drew ?_ | refine below_drewN ?_ _ | refine Below.trans ?_ (Below.mono (by assumption) ?_))) | omega | (simp; omega) | (simp; done)); done) | (repeat' first | exact Below.refl _ _ | assumption | refine Below.setCell ?_ (by first | omega | (simp; omega) | (simp; done)) _ | refine Below.alloc ?_ (by first | omega | (simp; omega) | (simp; done)) _ | refine Below.drew ?_ | refine below_drewN ?_ _ | refine Below.trans ?_ (Below.mono (by assumption) (by first | omega | (simp; omega) | (simp; done)))))⟩
        · have F1 : 0 ≤ at_ ∧ at_ ≤ 1000000000 := ⟨by omega, by omega⟩
          obtain ⟨f1, f2⟩ := F1
          have hmx : max at_ (lastAt l) = at_ := by omega
          have HM := Lib.hid hmx
          clear hmx
          cases h4 : mayB c s (at_) n l
          all_goals
            go_enter Try.func34, Try.ntmps34
            go_wp2_with fail
            refine (i_PurseOk c s l A cap _ hl ((HR.out.below (by (first | ((repeat' first | (with_reducible (first | exact Below.refl _ _ | assumption | refine Below.setCell ?_ ?_ _ | refine Below.alloc ?_ ?_ _ | refine Below.drew ?_ | refine below_drewN ?_ _ | refine Below.trans ?_ (Below.mono (by assumption) ?_))) | omega | (simp; omega) | (simp; done)); done) | (repeat' first | exact Below.refl _ _ | assumption | refine Below.setCell ?_ (by first | omega | (simp; omega) | (simp; done)) _ | refine Below.alloc ?_ (by first | omega | (simp; omega) | (simp; done)) _ | refine Below.drew ?_ | refine below_drewN ?_ _ | refine Below.trans ?_ (Below.mono (by assumption) (by first | omega | (simp; omega) | (simp; done))))))).more (by simp))).mono ?_
            rintro e w1 ⟨rfl, hb1⟩
            have z1 := hb1.size
            try simp at z1
            rw [H1.out]
            obtain ⟨kh, k0, k1, k2, kf, kz⟩ := own3 (g := w.heap.size) hb1 (by first | omega | (simp; omega) | (simp; done)) (by (first | ((repeat' first | (with_reducible (first | assumption | (refine heap_at ?_; (first | rfl | (simp; done))) | refine heap_drew ?_ | refine heap_drewN ?_ | refine heap_past ?_ ?_ | refine heap_far ?_ ?_)) | (simp; done) | (simp; omega)); done) | (repeat' first | assumption | (refine heap_at ?_; (simp; done)) | refine heap_drew ?_ | refine heap_drewN ?_ | (refine heap_past ?_ ?_ <;> try (simp; done)) | (refine heap_far ?_ ?_ <;> try (simp; done)))))
            go_wp2_with (go_at_call 57; refine (i_in _ _ _ _).mono ?_; rintro e w' ⟨rfl, rfl⟩)
            refine (i_lastCoin c s l A cap _ hl ((HR.out.below (by (first | ((repeat' first | (with_reducible (first | exact Below.refl _ _ | assumption | refine Below.setCell ?_ ?_ _ | refine Below.alloc ?_ ?_ _ | refine Below.drew ?_ | refine below_drewN ?_ _ | refine Below.trans ?_ (Below.mono (by assumption) ?_))) | omega | (simp; omega) | (simp; done)); done) | (repeat' first | exact Below.refl _ _ | assumption | refine Below.setCell ?_ (by first | omega | (simp; omega) | (simp; done)) _ | refine Below.alloc ?_ (by first | omega | (simp; omega) | (simp; done)) _ | refine Below.drew ?_ | refine below_drewN ?_ _ | refine Below.trans ?_ (Below.mono (by assumption) (by first | omega | (simp; omega) | (simp; done))))))).more (by omega))).mono ?_
            rintro e w2 ⟨rfl, hb2⟩
            have z2 := hb2.size
            try simp at z2
            obtain ⟨jh, j0, j1, j2, jf, jz⟩ := own3 (g := w.heap.size) hb2 (by first | omega | (simp; omega) | (simp; done)) (by (first | ((repeat' first | (with_reducible (first | assumption | (refine heap_at ?_; (first | rfl | (simp; done))) | refine heap_drew ?_ | refine heap_drewN ?_ | refine heap_past ?_ ?_ | refine heap_far ?_ ?_)) | (simp; done) | (simp; omega)); done) | (repeat' first | assumption | (refine heap_at ?_; (simp; done)) | refine heap_drew ?_ | refine heap_drewN ?_ | (refine heap_past ?_ ?_ <;> try (simp; done)) | (refine heap_far ?_ ?_ <;> try (simp; done)))))
            clear kh k0 k1 k2 kf kz
            go_wp2_with fail
            refine (i_maySpend c s (at_) n l A cap _ HOK.out (by omega) ⟨by omega, by omega⟩ ((HR.out.below (by (first | ((repeat' first | (with_reducible (first | exact Below.refl _ _ | assumption | refine Below.setCell ?_ ?_ _ | refine Below.alloc ?_ ?_ _ | refine Below.drew ?_ | refine below_drewN ?_ _ | refine Below.trans ?_ (Below.mono (by assumption) ?_))) | omega | (simp; omega) | (simp; done)); done) | (repeat' first | exact Below.refl _ _ | assumption | refine Below.setCell ?_ (by first | omega | (simp; omega) | (simp; done)) _ | refine Below.alloc ?_ (by first | omega | (simp; omega) | (simp; done)) _ | refine Below.drew ?_ | refine below_drewN ?_ _ | refine Below.trans ?_ (Below.mono (by assumption) (by first | omega | (simp; omega) | (simp; done))))))).more (by omega))).mono ?_
            rintro e w3 ⟨rfl, hb3⟩
            have z3 := hb3.size
            try simp at z3
            rw [h4]
            obtain ⟨mh, m0, m1, m2, mf, mz⟩ := own3 (g := w.heap.size) hb3 (by first | omega | (simp; omega) | (simp; done)) (by (first | ((repeat' first | (with_reducible (first | assumption | (refine heap_at ?_; (first | rfl | (simp; done))) | refine heap_drew ?_ | refine heap_drewN ?_ | refine heap_past ?_ ?_ | refine heap_far ?_ ?_)) | (simp; done) | (simp; omega)); done) | (repeat' first | assumption | (refine heap_at ?_; (simp; done)) | refine heap_drew ?_ | refine heap_drewN ?_ | (refine heap_past ?_ ?_ <;> try (simp; done)) | (refine heap_far ?_ ?_ <;> try (simp; done)))))
            clear jh j0 j1 j2 jf jz
            go_wp2_with fail
          · have MH := Lib.hid mh
            clear mh m0 m1 m2 mf mz
            go_loopw [35] (fun i wr => ∃ k : Nat, k ≤ l.length ∧ i = .int .i64 k ∧ (l.take k).find? (endOk c s n (at_) l) = none ∧ wr.heap[w.heap.size]? = some (.cells #[.int .i64 c, .int .i64 s, .slice A l.length cap] 59 (0, 0)) ∧ Below w.heap.size w wr) (fun i _ => l.length - (intOf i).toNat)
            case atStart => exact ⟨0, Nat.zero_le _, rfl, rfl, MH.out, by (first | ((repeat' first | (with_reducible (first | exact Below.refl _ _ | assumption | refine Below.setCell ?_ ?_ _ | refine Below.alloc ?_ ?_ _ | refine Below.drew ?_ | refine below_drewN ?_ _ | refine Below.trans ?_ (Below.mono (by assumption) ?_))) | omega | (simp; omega) | (simp; done)); done) | (repeat' first | exact Below.refl _ _ | assumption | refine Below.setCell ?_ (by first | omega | (simp; omega) | (simp; done)) _ | refine Below.alloc ?_ (by first | omega | (simp; omega) | (simp; done)) _ | refine Below.drew ?_ | refine below_drewN ?_ _ | refine Below.trans ?_ (Below.mono (by assumption) (by first | omega | (simp; omega) | (simp; done)))))⟩
            case round =>
              obtain ⟨k, hk, rfl, hnone, hcells, hbw⟩ := hrel
              have hbz := hbw.size
              obtain ⟨kh, k0, k1, k2, kf, kz⟩ := own3 (Below.refl wr.heap.size wr) (Array.getElem?_eq_some_iff.1 hcells).1 hcells
              have KH := Lib.hid kh
              have HN := Lib.hid hnone
              clear hcells hnone kh
              by_cases hlt : k < l.length
              · obtain ⟨b, off, rfl, hbB, c0, c1⟩ := Coin.rd (HR.out.below hbw) hlt
                have hbr : b < wr.heap.size := by omega
                obtain ⟨⟨m1, m2⟩, m3, m4⟩ := HOK.out.at_ hlt
                have hcase : (l[k].At + s ≤ at_ ∧ endOk c s n (at_) l l[k] = false) ∨ (at_ < l[k].At + s ∧ 1000000000 < l[k].At + s ∧ endOk c s n (at_) l l[k] = false) ∨
                    (at_ < l[k].At + s ∧ l[k].At + s ≤ 1000000000 ∧ mayB c s (l[k].At + s) n l = false ∧ endOk c s n (at_) l l[k] = false) ∨
                    (at_ < l[k].At + s ∧ l[k].At + s ≤ 1000000000 ∧ mayB c s (l[k].At + s) n l = true ∧ endOk c s n (at_) l l[k] = true) := by
                  unfold endOk
                  cases mayB c s (l[k].At + s) n l <;> simp <;> omega
                rcases hcase with ⟨t1, to⟩ | ⟨t1, t2, to⟩ | ⟨t1, t2, t3, to⟩ | ⟨t1, t2, t3, to⟩
                · have TO := Lib.hid to
                  clear to
                  go_wp2_with fail
                  go_roundw
                  case rel => exact ⟨k + 1, by omega, by go_num, by rw [find_take_succ hlt HN.out, TO.out]; rfl, heap_past kz KH.out, by (first | ((repeat' first | (with_reducible (first | exact Below.refl _ _ | assumption | refine Below.setCell ?_ ?_ _ | refine Below.alloc ?_ ?_ _ | refine Below.drew ?_ | refine below_drewN ?_ _ | refine Below.trans ?_ (Below.mono (by assumption) ?_))) | omega | (simp; omega) | (simp; done)); done) | (repeat' first | exact Below.refl _ _ | assumption | refine Below.setCell ?_ (by first | omega | (simp; omega) | (simp; done)) _ | refine Below.alloc ?_ (by first | omega | (simp; omega) | (simp; done)) _ | refine Below.drew ?_ | refine below_drewN ?_ _ | refine Below.trans ?_ (Below.mono (by assumption) (by first | omega | (simp; omega) | (simp; done)))))⟩
                  case measure => simp [intOf]; omega
                · have TO := Lib.hid to
                  clear to
                  go_wp2_with fail
                  go_roundw
                  case rel => exact ⟨k + 1, by omega, by go_num, by rw [find_take_succ hlt HN.out, TO.out]; rfl, heap_past kz KH.out, by (first | ((repeat' first | (with_reducible (first | exact Below.refl _ _ | assumption | refine Below.setCell ?_ ?_ _ | refine Below.alloc ?_ ?_ _ | refine Below.drew ?_ | refine below_drewN ?_ _ | refine Below.trans ?_ (Below.mono (by assumption) ?_))) | omega | (simp; omega) | (simp; done)); done) | (repeat' first | exact Below.refl _ _ | assumption | refine Below.setCell ?_ (by first | omega | (simp; omega) | (simp; done)) _ | refine Below.alloc ?_ (by first | omega | (simp; omega) | (simp; done)) _ | refine Below.drew ?_ | refine below_drewN ?_ _ | refine Below.trans ?_ (Below.mono (by assumption) (by first | omega | (simp; omega) | (simp; done)))))⟩
                  case measure => simp [intOf]; omega
                · have TO := Lib.hid to
                  clear to
                  have kh := KH.out
                  go_wp2_with fail
                  refine (i_maySpend c s (l[k].At + s) n l _ cap _ HOK.out (by omega) ⟨by omega, by omega⟩ ((HR.out.below (by (first | ((repeat' first | (with_reducible (first | exact Below.refl _ _ | assumption | refine Below.setCell ?_ ?_ _ | refine Below.alloc ?_ ?_ _ | refine Below.drew ?_ | refine below_drewN ?_ _ | refine Below.trans ?_ (Below.mono (by assumption) ?_))) | omega | (simp; omega) | (simp; done)); done) | (repeat' first | exact Below.refl _ _ | assumption | refine Below.setCell ?_ (by first | omega | (simp; omega) | (simp; done)) _ | refine Below.alloc ?_ (by first | omega | (simp; omega) | (simp; done)) _ | refine Below.drew ?_ | refine below_drewN ?_ _ | refine Below.trans ?_ (Below.mono (by assumption) (by first | omega | (simp; omega) | (simp; done))))))).more (by simp; omega))).mono ?_
                  rintro e w4 ⟨rfl, hb4⟩
                  have z4 := hb4.size
                  try simp at z4
                  rw [t3]
                  obtain ⟨ph, p0, p1, p2, pf, pz⟩ := own3 (g := w.heap.size) hb4 (by first | omega | (simp; omega) | (simp; done)) (by (first | ((repeat' first | (with_reducible (first | assumption | (refine heap_at ?_; (first | rfl | (simp; done))) | refine heap_drew ?_ | refine heap_drewN ?_ | refine heap_past ?_ ?_ | refine heap_far ?_ ?_)) | (simp; done) | (simp; omega)); done) | (repeat' first | assumption | (refine heap_at ?_; (simp; done)) | refine heap_drew ?_ | refine heap_drewN ?_ | (refine heap_past ?_ ?_ <;> try (simp; done)) | (refine heap_far ?_ ?_ <;> try (simp; done)))))
                  go_wp2_with fail
                  go_roundw
                  case rel => exact ⟨k + 1, by omega, by go_num, by rw [find_take_succ hlt HN.out, TO.out]; rfl, ph, by (first | ((repeat' first | (with_reducible (first | exact Below.refl _ _ | assumption | refine Below.setCell ?_ ?_ _ | refine Below.alloc ?_ ?_ _ | refine Below.drew ?_ | refine below_drewN ?_ _ | refine Below.trans ?_ (Below.mono (by assumption) ?_))) | omega | (simp; omega) | (simp; done)); done) | (repeat' first | exact Below.refl _ _ | assumption | refine Below.setCell ?_ (by first | omega | (simp; omega) | (simp; done)) _ | refine Below.alloc ?_ (by first | omega | (simp; omega) | (simp; done)) _ | refine Below.drew ?_ | refine below_drewN ?_ _ | refine Below.trans ?_ (Below.mono (by assumption) (by first | omega | (simp; omega) | (simp; done)))))⟩
                  case measure => simp [intOf]; omega
                · have TO := Lib.hid to
                  clear to
                  have kh := KH.out
                  go_wp2_with fail
                  refine (i_maySpend c s (l[k].At + s) n l _ cap _ HOK.out (by omega) ⟨by omega, by omega⟩ ((HR.out.below (by (first | ((repeat' first | (with_reducible (first | exact Below.refl _ _ | assumption | refine Below.setCell ?_ ?_ _ | refine Below.alloc ?_ ?_ _ | refine Below.drew ?_ | refine below_drewN ?_ _ | refine Below.trans ?_ (Below.mono (by assumption) ?_))) | omega | (simp; omega) | (simp; done)); done) | (repeat' first | exact Below.refl _ _ | assumption | refine Below.setCell ?_ (by first | omega | (simp; omega) | (simp; done)) _ | refine Below.alloc ?_ (by first | omega | (simp; omega) | (simp; done)) _ | refine Below.drew ?_ | refine below_drewN ?_ _ | refine Below.trans ?_ (Below.mono (by assumption) (by first | omega | (simp; omega) | (simp; done))))))).more (by simp; omega))).mono ?_
                  rintro e w4 ⟨rfl, hb4⟩
                  have z4 := hb4.size
                  try simp at z4
                  rw [t3]
                  go_wp2_with fail
                  go_ret
                  refine ⟨ret_int ?_, by (first | ((repeat' first | (with_reducible (first | exact Below.refl _ _ | assumption | refine Below.setCell ?_ ?_ _ | refine Below.alloc ?_ ?_ _ | refine Below.drew ?_ | refine below_drewN ?_ _ | refine Below.trans ?_ (Below.mono (by assumption) ?_))) | omega | (simp; omega) | (simp; done)); done) | (repeat' first | exact Below.refl _ _ | assumption | refine Below.setCell ?_ (by first | omega | (simp; omega) | (simp; done)) _ | refine Below.alloc ?_ (by first | omega | (simp; omega) | (simp; done)) _ | refine Below.drew ?_ | refine below_drewN ?_ _ | refine Below.trans ?_ (Below.mono (by assumption) (by first | omega | (simp; omega) | (simp; done)))))⟩
                  have hfind := find_take_succ hlt HN.out
                  rw [TO.out, if_pos rfl] at hfind
                  have hst := find_take_stay hfind (m := l.length) (by omega)
                  unfold purseWhen
                  rw [if_pos (by simp [H1.out, h2, h3]), HM.out, if_neg (by simp [h4])]
                  unfold firstEnd
                  rw [hst]
              · obtain rfl : k = l.length := by omega
                go_wp2
                go_ret
                exact ⟨ret_int (by unfold purseWhen; rw [if_pos (by simp [H1.out, h2, h3]), HM.out, if_neg (by simp [h4])]; unfold firstEnd; rw [HN.out]), by (first | ((repeat' first | (with_reducible (first | exact Below.refl _ _ | assumption | refine Below.setCell ?_ ?_ _ | refine Below.alloc ?_ ?_ _ | refine Below.drew ?_ | refine below_drewN ?_ _ | refine Below.trans ?_ (Below.mono (by assumption) ?_))) | omega | (simp; omega) | (simp; done)); done) | (repeat' first | exact Below.refl _ _ | assumption | refine Below.setCell ?_ (by first | omega | (simp; omega) | (simp; done)) _ | refine Below.alloc ?_ (by first | omega | (simp; omega) | (simp; done)) _ | refine Below.drew ?_ | refine below_drewN ?_ _ | refine Below.trans ?_ (Below.mono (by assumption) (by first | omega | (simp; omega) | (simp; done)))))⟩
          · go_ret
            exact ⟨ret_int (by unfold purseWhen; rw [if_pos (by simp [H1.out, h2, h3]), HM.out, if_pos h4]), by (first | ((repeat' first | (with_reducible (first | exact Below.refl _ _ | assumption | refine Below.setCell ?_ ?_ _ | refine Below.alloc ?_ ?_ _ | refine Below.drew ?_ | refine below_drewN ?_ _ | refine Below.trans ?_ (Below.mono (by assumption) ?_))) | omega | (simp; omega) | (simp; done)); done) | (repeat' first | exact Below.refl _ _ | assumption | refine Below.setCell ?_ (by first | omega | (simp; omega) | (simp; done)) _ | refine Below.alloc ?_ (by first | omega | (simp; omega) | (simp; done)) _ | refine Below.drew ?_ | refine below_drewN ?_ _ | refine Below.trans ?_ (Below.mono (by assumption) (by first | omega | (simp; omega) | (simp; done)))))⟩
      · clear ha
        go_enter Try.func34, Try.ntmps34
        go_wp2_with fail
        refine (i_PurseOk c s l A cap _ hl ((HR.out.below (by (first | ((repeat' first | (with_reducible (first | exact Below.refl _ _ | assumption | refine Below.setCell ?_ ?_ _ | refine Below.alloc ?_ ?_ _ | refine Below.drew ?_ | refine below_drewN ?_ _ | refine Below.trans ?_ (Below.mono (by assumption) ?_))) | omega | (simp; omega) | (simp; done)); done) | (repeat' first | exact Below.refl _ _ | assumption | refine Below.setCell ?_ (by first | omega | (simp; omega) | (simp; done)) _ | refine Below.alloc ?_ (by first | omega | (simp; omega) | (simp; done)) _ | refine Below.drew ?_ | refine below_drewN ?_ _ | refine Below.trans ?_ (Below.mono (by assumption) (by first | omega | (simp; omega) | (simp; done))))))).more (by simp))).mono ?_
        rintro e w1 ⟨rfl, hb1⟩
        have z1 := hb1.size
        try simp at z1
        rw [h1]
        go_wp2_with (go_at_call 57; refine (i_in _ _ _ _).mono ?_; rintro e w' ⟨rfl, rfl⟩)
        go_ret
        exact ⟨ret_int (by simp [purseWhen, h1, h2]; omega), by (first | ((repeat' first | (with_reducible (first | exact Below.refl _ _ | assumption | refine Below.setCell ?_ ?_ _ | refine Below.alloc ?_ ?_ _ | refine Below.drew ?_ | refine below_drewN ?_ _ | refine Below.trans ?_ (Below.mono (by assumption) ?_))) | omega | (simp; omega) | (simp; done)); done) | (repeat' first | exact Below.refl _ _ | assumption | refine Below.setCell ?_ (by first | omega | (simp; omega) | (simp; done)) _ | refine Below.alloc ?_ (by first | omega | (simp; omega) | (simp; done)) _ | refine Below.drew ?_ | refine below_drewN ?_ _ | refine Below.trans ?_ (Below.mono (by assumption) (by first | omega | (simp; omega) | (simp; done)))))⟩
end Go.Proofs.Ytplchgkppkibnaa
