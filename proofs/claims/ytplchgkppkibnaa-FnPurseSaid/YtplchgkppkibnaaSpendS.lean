/- Purses: spending, the reference's walk. Printed by gen/gen_spends.py. -/
import Derived.Test.YtplchgkppkibnaaRows
import Derived.Test.YtplchgkppkibnaaSpend
namespace Go.Proofs.Ytplchgkppkibnaa
open Go.RowKit

theorem s_Spend_1 (c s at_ n : Int) (l : List Coin) (A : Option Addr) (cap : Nat) (w : World) (hl : l.length ≤ 1048576) (hno : askB c s at_ n l = false) (hr : Rd w w.heap.size 2 A (l.map Coin.cells)) :
    Calls Try.prog 98 #[.agg #[.int .i64 c, .int .i64 s, .slice A l.length cap], .int .i64 at_, .int .i64 n] w (SpendPost w 0 0 [] 1) := by
  have HR := Lib.hid hr
  clear hr
  go_enter Try.func98, Try.ntmps98
  go_wp2_with fail
  refine (s_l23Ask c s at_ n l A cap _ hl ((HR.out.below (by (first | ((repeat' first | (with_reducible (first | exact Below.refl _ _ | assumption | refine Below.setCell ?_ ?_ _ | refine Below.alloc ?_ ?_ _ | refine Below.drew ?_ | refine below_drewN ?_ _ | refine Below.trans ?_ (Below.mono (by assumption) ?_))) | omega | (simp; omega) | (simp; done)); done) | (repeat' first | exact Below.refl _ _ | assumption | refine Below.setCell ?_ (by first | omega | (simp; omega) | (simp; done)) _ | refine Below.alloc ?_ (by first | omega | (simp; omega) | (simp; done)) _ | refine Below.drew ?_ | refine below_drewN ?_ _ | refine Below.trans ?_ (Below.mono (by assumption) (by first | omega | (simp; omega) | (simp; done))))))).more (by simp; omega))).mono ?_
  rintro e w1 ⟨rfl, hb1⟩
  have z1 := hb1.size
  try simp at z1
  rw [hno]
  obtain ⟨bh, b0, b1, b2, bf, bz⟩ := own3 (g := w.heap.size + 1) hb1 (by first | omega | (simp; omega) | (simp; done)) (by (first | ((repeat' first | (with_reducible (first | assumption | (refine heap_at ?_; (first | rfl | (simp; done))) | refine heap_drew ?_ | refine heap_drewN ?_ | refine heap_past ?_ ?_ | refine heap_far ?_ ?_)) | (simp; done) | (simp; omega)); done) | (repeat' first | assumption | (refine heap_at ?_; (simp; done)) | refine heap_drew ?_ | refine heap_drewN ?_ | (refine heap_past ?_ ?_ <;> try (simp; done)) | (refine heap_far ?_ ?_ <;> try (simp; done)))))
  go_wp2_with fail
  refine bodyPost_ret (v := .tuple #[.agg #[.int .i64 0, .int .i64 0, .slice none 0 0], .int .i64 1]) (by simp [results, Try.results98, go_sem, b0, b1, b2]) rfl ⟨none, 0, rfl, Ow.nil_, by (first | ((repeat' first | (with_reducible (first | exact Below.refl _ _ | assumption | refine Below.setCell ?_ ?_ _ | refine Below.alloc ?_ ?_ _ | refine Below.drew ?_ | refine below_drewN ?_ _ | refine Below.trans ?_ (Below.mono (by assumption) ?_))) | omega | (simp; omega) | (simp; done)); done) | (repeat' first | exact Below.refl _ _ | assumption | refine Below.setCell ?_ (by first | omega | (simp; omega) | (simp; done)) _ | refine Below.alloc ?_ (by first | omega | (simp; omega) | (simp; done)) _ | refine Below.drew ?_ | refine below_drewN ?_ _ | refine Below.trans ?_ (Below.mono (by assumption) (by first | omega | (simp; omega) | (simp; done)))))⟩
theorem s_Spend_2 (c s at_ n : Int) (l : List Coin) (A : Option Addr) (cap : Nat) (w : World) (hl : l.length ≤ 1048576) (hask : askB c s at_ n l = true) (hno : mayB c s at_ n l = false) (hr : Rd w w.heap.size 2 A (l.map Coin.cells)) :
    Calls Try.prog 98 #[.agg #[.int .i64 c, .int .i64 s, .slice A l.length cap], .int .i64 at_, .int .i64 n] w (SpendPost w 0 0 [] 2) := by
  have HR := Lib.hid hr
  clear hr
  have hm : maySpend c s at_ n l = false := by simp [maySpend, hno]
  clear hno
  go_enter Try.func98, Try.ntmps98
  go_wp2_with fail
  refine (s_l23Ask c s at_ n l A cap _ hl ((HR.out.below (by (first | ((repeat' first | (with_reducible (first | exact Below.refl _ _ | assumption | refine Below.setCell ?_ ?_ _ | refine Below.alloc ?_ ?_ _ | refine Below.drew ?_ | refine below_drewN ?_ _ | refine Below.trans ?_ (Below.mono (by assumption) ?_))) | omega | (simp; omega) | (simp; done)); done) | (repeat' first | exact Below.refl _ _ | assumption | refine Below.setCell ?_ (by first | omega | (simp; omega) | (simp; done)) _ | refine Below.alloc ?_ (by first | omega | (simp; omega) | (simp; done)) _ | refine Below.drew ?_ | refine below_drewN ?_ _ | refine Below.trans ?_ (Below.mono (by assumption) (by first | omega | (simp; omega) | (simp; done))))))).more (by simp; omega))).mono ?_
  rintro e w1 ⟨rfl, hb1⟩
  have z1 := hb1.size
  try simp at z1
  rw [hask]
  obtain ⟨ah, a0, a1, a2, af, az⟩ := own3 (g := w.heap.size) hb1 (by first | omega | (simp; omega) | (simp; done)) (by (first | ((repeat' first | (with_reducible (first | assumption | (refine heap_at ?_; (first | rfl | (simp; done))) | refine heap_drew ?_ | refine heap_drewN ?_ | refine heap_past ?_ ?_ | refine heap_far ?_ ?_)) | (simp; done) | (simp; omega)); done) | (repeat' first | assumption | (refine heap_at ?_; (simp; done)) | refine heap_drew ?_ | refine heap_drewN ?_ | (refine heap_past ?_ ?_ <;> try (simp; done)) | (refine heap_far ?_ ?_ <;> try (simp; done)))))
  obtain ⟨bh, b0, b1, b2, bf, bz⟩ := own3 (g := w.heap.size + 1) hb1 (by first | omega | (simp; omega) | (simp; done)) (by (first | ((repeat' first | (with_reducible (first | assumption | (refine heap_at ?_; (first | rfl | (simp; done))) | refine heap_drew ?_ | refine heap_drewN ?_ | refine heap_past ?_ ?_ | refine heap_far ?_ ?_)) | (simp; done) | (simp; omega)); done) | (repeat' first | assumption | (refine heap_at ?_; (simp; done)) | refine heap_drew ?_ | refine heap_drewN ?_ | (refine heap_past ?_ ?_ <;> try (simp; done)) | (refine heap_far ?_ ?_ <;> try (simp; done)))))
  go_wp2_with fail
  refine (s_MaySpend c s at_ n l A cap _ hl ((HR.out.below (by (first | ((repeat' first | (with_reducible (first | exact Below.refl _ _ | assumption | refine Below.setCell ?_ ?_ _ | refine Below.alloc ?_ ?_ _ | refine Below.drew ?_ | refine below_drewN ?_ _ | refine Below.trans ?_ (Below.mono (by assumption) ?_))) | omega | (simp; omega) | (simp; done)); done) | (repeat' first | exact Below.refl _ _ | assumption | refine Below.setCell ?_ (by first | omega | (simp; omega) | (simp; done)) _ | refine Below.alloc ?_ (by first | omega | (simp; omega) | (simp; done)) _ | refine Below.drew ?_ | refine below_drewN ?_ _ | refine Below.trans ?_ (Below.mono (by assumption) (by first | omega | (simp; omega) | (simp; done))))))).more (by omega))).mono ?_
  rintro e w2 ⟨rfl, hb2⟩
  have z2 := hb2.size
  try simp at z2
  rw [hm]
  obtain ⟨dh, d0, d1, d2, df, dz⟩ := own3 (g := w.heap.size + 1) hb2 (by first | omega | (simp; omega) | (simp; done)) (by (first | ((repeat' first | (with_reducible (first | assumption | (refine heap_at ?_; (first | rfl | (simp; done))) | refine heap_drew ?_ | refine heap_drewN ?_ | refine heap_past ?_ ?_ | refine heap_far ?_ ?_)) | (simp; done) | (simp; omega)); done) | (repeat' first | assumption | (refine heap_at ?_; (simp; done)) | refine heap_drew ?_ | refine heap_drewN ?_ | (refine heap_past ?_ ?_ <;> try (simp; done)) | (refine heap_far ?_ ?_ <;> try (simp; done)))))
  clear bh b0 b1 b2 bf bz
  go_wp2_with fail
  refine bodyPost_ret (v := .tuple #[.agg #[.int .i64 0, .int .i64 0, .slice none 0 0], .int .i64 2]) (by simp [results, Try.results98, go_sem, d0, d1, d2]) rfl ⟨none, 0, rfl, Ow.nil_, by (first | ((repeat' first | (with_reducible (first | exact Below.refl _ _ | assumption | refine Below.setCell ?_ ?_ _ | refine Below.alloc ?_ ?_ _ | refine Below.drew ?_ | refine below_drewN ?_ _ | refine Below.trans ?_ (Below.mono (by assumption) ?_))) | omega | (simp; omega) | (simp; done)); done) | (repeat' first | exact Below.refl _ _ | assumption | refine Below.setCell ?_ (by first | omega | (simp; omega) | (simp; done)) _ | refine Below.alloc ?_ (by first | omega | (simp; omega) | (simp; done)) _ | refine Below.drew ?_ | refine below_drewN ?_ _ | refine Below.trans ?_ (Below.mono (by assumption) (by first | omega | (simp; omega) | (simp; done)))))⟩
set_option maxRecDepth 100000 in
set_option maxHeartbeats 4000000 in
theorem s_Spend_3 (c s at_ n : Int) (l : List Coin) (A : Option Addr) (cap : Nat) (w : World) (hl : l.length ≤ 1048576) (hask : askB c s at_ n l = true) (hmay : mayB c s at_ n l = true) (hr : Rd w w.heap.size 2 A (l.map Coin.cells)) :
    Calls Try.prog 98 #[.agg #[.int .i64 c, .int .i64 s, .slice A l.length cap], .int .i64 at_, .int .i64 n] w (SpendPost w (spendCap c s at_ n l) (spendSpan c s at_ n l) (spendCoins c s at_ n l) (spendCode c s at_ n l)) := by
  have HR := Lib.hid hr
  have HASK := Lib.hid hask
  clear hr
  have hask2 := hask
  simp only [askB, Bool.and_eq_true] at hask2
  obtain ⟨h1, h2⟩ := hask2
  have hok : CoinsOk l := by
    simp only [purseOk, Bool.and_eq_true] at h1
    exact (purseForm_iff.1 h1.1).1
  have hs1 : 1 ≤ s ∧ s ≤ 1000000000 := by
    simp only [purseOk, Bool.and_eq_true] at h1
    exact (purseForm_iff.1 h1.1).2.2
  have HS1 := Lib.hid hs1
  clear hs1
  have hn : 1 ≤ n ∧ n ≤ 1125899906842624 := by
    simp only [canAsk, Bool.and_eq_true] at h2
    exact inB_iff.1 h2.2
  have hlast : lastAt l ≤ at_ := by
    simp only [canAsk, Bool.and_eq_true, decide_eq_true_eq] at h2
    exact h2.1.2
  have h40 := hok.2
  obtain ⟨n1, n2⟩ := hn
  obtain ⟨i0, hi, hz0, hz1, hz2⟩ := info_parts info_coin
  have HI := Lib.hid hi
  have HZ0 := Lib.hid hz0
  have HZ1 := Lib.hid hz1
  have HZ2 := Lib.hid hz2
  have HOK := Lib.hid hok
  clear hok hi hz0 hz1 hz2
  clear h1 h2
  have hm : maySpend c s at_ n l = true := by
    have h := hask
    simp only [askB] at h
    rw [maySpend, h, hmay]
    rfl
  go_enter Try.func98, Try.ntmps98
  go_wp2_with fail
  refine (s_l23Ask c s at_ n l A cap _ hl ((HR.out.below (by (first | ((repeat' first | (with_reducible (first | exact Below.refl _ _ | assumption | refine Below.setCell ?_ ?_ _ | refine Below.alloc ?_ ?_ _ | refine Below.drew ?_ | refine below_drewN ?_ _ | refine Below.trans ?_ (Below.mono (by assumption) ?_))) | omega | (simp; omega) | (simp; done)); done) | (repeat' first | exact Below.refl _ _ | assumption | refine Below.setCell ?_ (by first | omega | (simp; omega) | (simp; done)) _ | refine Below.alloc ?_ (by first | omega | (simp; omega) | (simp; done)) _ | refine Below.drew ?_ | refine below_drewN ?_ _ | refine Below.trans ?_ (Below.mono (by assumption) (by first | omega | (simp; omega) | (simp; done))))))).more (by simp; omega))).mono ?_
  rintro e w1 ⟨rfl, hb1⟩
  have z1 := hb1.size
  try simp at z1
  rw [hask]
  obtain ⟨ah, a0, a1, a2, af, az⟩ := own3 (g := w.heap.size) hb1 (by first | omega | (simp; omega) | (simp; done)) (by (first | ((repeat' first | (with_reducible (first | assumption | (refine heap_at ?_; (first | rfl | (simp; done))) | refine heap_drew ?_ | refine heap_drewN ?_ | refine heap_past ?_ ?_ | refine heap_far ?_ ?_)) | (simp; done) | (simp; omega)); done) | (repeat' first | assumption | (refine heap_at ?_; (simp; done)) | refine heap_drew ?_ | refine heap_drewN ?_ | (refine heap_past ?_ ?_ <;> try (simp; done)) | (refine heap_far ?_ ?_ <;> try (simp; done)))))
  obtain ⟨bh, b0, b1, b2, bf, bz⟩ := own3 (g := w.heap.size + 1) hb1 (by first | omega | (simp; omega) | (simp; done)) (by (first | ((repeat' first | (with_reducible (first | assumption | (refine heap_at ?_; (first | rfl | (simp; done))) | refine heap_drew ?_ | refine heap_drewN ?_ | refine heap_past ?_ ?_ | refine heap_far ?_ ?_)) | (simp; done) | (simp; omega)); done) | (repeat' first | assumption | (refine heap_at ?_; (simp; done)) | refine heap_drew ?_ | refine heap_drewN ?_ | (refine heap_past ?_ ?_ <;> try (simp; done)) | (refine heap_far ?_ ?_ <;> try (simp; done)))))
  go_wp2_with fail
  refine (s_MaySpend c s at_ n l A cap _ hl ((HR.out.below (by (first | ((repeat' first | (with_reducible (first | exact Below.refl _ _ | assumption | refine Below.setCell ?_ ?_ _ | refine Below.alloc ?_ ?_ _ | refine Below.drew ?_ | refine below_drewN ?_ _ | refine Below.trans ?_ (Below.mono (by assumption) ?_))) | omega | (simp; omega) | (simp; done)); done) | (repeat' first | exact Below.refl _ _ | assumption | refine Below.setCell ?_ (by first | omega | (simp; omega) | (simp; done)) _ | refine Below.alloc ?_ (by first | omega | (simp; omega) | (simp; done)) _ | refine Below.drew ?_ | refine below_drewN ?_ _ | refine Below.trans ?_ (Below.mono (by assumption) (by first | omega | (simp; omega) | (simp; done))))))).more (by omega))).mono ?_
  rintro e w3 ⟨rfl, hb3⟩
  have z3 := hb3.size
  try simp at z3
  rw [hm]
  obtain ⟨eh, e0, e1, e2, ef, ez⟩ := own3 (g := w.heap.size) hb3 (by first | omega | (simp; omega) | (simp; done)) (by (first | ((repeat' first | (with_reducible (first | assumption | (refine heap_at ?_; (first | rfl | (simp; done))) | refine heap_drew ?_ | refine heap_drewN ?_ | refine heap_past ?_ ?_ | refine heap_far ?_ ?_)) | (simp; done) | (simp; omega)); done) | (repeat' first | assumption | (refine heap_at ?_; (simp; done)) | refine heap_drew ?_ | refine heap_drewN ?_ | (refine heap_past ?_ ?_ <;> try (simp; done)) | (refine heap_far ?_ ?_ <;> try (simp; done)))))
  obtain ⟨fh, f0, f1, f2, ff, fz⟩ := own3 (g := w.heap.size + 1) hb3 (by first | omega | (simp; omega) | (simp; done)) (by (first | ((repeat' first | (with_reducible (first | assumption | (refine heap_at ?_; (first | rfl | (simp; done))) | refine heap_drew ?_ | refine heap_drewN ?_ | refine heap_past ?_ ?_ | refine heap_far ?_ ?_)) | (simp; done) | (simp; omega)); done) | (repeat' first | assumption | (refine heap_at ?_; (simp; done)) | refine heap_drew ?_ | refine heap_drewN ?_ | (refine heap_past ?_ ?_ <;> try (simp; done)) | (refine heap_far ?_ ?_ <;> try (simp; done)))))
  clear bh b0 b1 b2 bf bz ah a0 a1 a2 af az hask hm
  go_wp2_with fail
  have FH := Lib.hid fh
  have EH := Lib.hid eh
  clear eh e0 e1 e2 ef fh f0 f1 f2 ff
  go_loopw [31] (fun i wr => ∃ (k : Nat) (B : Option Addr) (cp : Nat), k ≤ l.length ∧ i = .int .i64 k ∧ Ow wr (w3.heap.size + 1) 108 2 (.slice B ((l.take k).filter (counts s at_)).length cp) (((l.take k).filter (counts s at_)).map Coin.cells) ∧
      wr.heap[w.heap.size]? = some (.cells #[.int .i64 c, .int .i64 s, .slice A l.length cap] 59 (0, 0)) ∧ wr.heap[w.heap.size + 1]? = some (.cells #[.int .i64 0, .int .i64 0, .slice none 0 0] 59 (0, 0)) ∧
      wr.heap[w3.heap.size]? = some (.cells #[.int .i64 c, .int .i64 s, .slice B ((l.take k).filter (counts s at_)).length cp] 59 (0, 0)) ∧ Below w.heap.size w wr) (fun i _ => l.length - (intOf i).toNat)
  case atStart => exact ⟨0, none, 0, Nat.zero_le _, rfl, Ow.nil_, heap_past ez EH.out, heap_past fz FH.out, heap_at rfl, by (first | ((repeat' first | (with_reducible (first | exact Below.refl _ _ | assumption | refine Below.setCell ?_ ?_ _ | refine Below.alloc ?_ ?_ _ | refine Below.drew ?_ | refine below_drewN ?_ _ | refine Below.trans ?_ (Below.mono (by assumption) ?_))) | omega | (simp; omega) | (simp; done)); done) | (repeat' first | exact Below.refl _ _ | assumption | refine Below.setCell ?_ (by first | omega | (simp; omega) | (simp; done)) _ | refine Below.alloc ?_ (by first | omega | (simp; omega) | (simp; done)) _ | refine Below.drew ?_ | refine below_drewN ?_ _ | refine Below.trans ?_ (Below.mono (by assumption) (by first | omega | (simp; omega) | (simp; done)))))⟩
  case round =>
    obtain ⟨k, B, cp, hk, rfl, how, heh, hfh, hgh, hbw⟩ := hrel
    have hbz := hbw.size
    obtain ⟨eh, e0, e1, e2, ef, ezz⟩ := own3 (Below.refl wr.heap.size wr) (Array.getElem?_eq_some_iff.1 heh).1 heh
    obtain ⟨fh, f0, f1, f2, ff, fzz⟩ := own3 (Below.refl wr.heap.size wr) (Array.getElem?_eq_some_iff.1 hfh).1 hfh
    obtain ⟨gh, g0, g1, g2, gf, gz⟩ := own3 (Below.refl wr.heap.size wr) (Array.getElem?_eq_some_iff.1 hgh).1 hgh
    have HO := Lib.hid how
    clear how heh hfh hgh
    by_cases hlt : k < l.length
    · obtain ⟨b, off, rfl, hbB, c0, c1⟩ := Coin.rd (HR.out.below hbw) hlt
      have hbr : b < wr.heap.size := by omega
      obtain ⟨⟨m1, m2⟩, m3, m4⟩ := HOK.out.at_ hlt
      have hle : l[k].At ≤ at_ := by
        have hs := sorted_le HOK.out.1 (l.length - 1 - k) k hlt (by omega)
        have e : l[k + (l.length - 1 - k)]'(by omega) = l[l.length - 1] := by congr 1; omega
        rw [e, ← lastAt_get (by omega)] at hs
        omega
      have HK := Lib.hid (keep_succ s at_ l hlt)
      have EH := Lib.hid eh
      have FH := Lib.hid fh
      have GH := Lib.hid gh
      clear eh fh gh
      cases hD : counts s at_ ⟨l[k].At, l[k].Amt⟩
      · go_wp2_with fail
        refine (s_l23Counts c s l[k].At l[k].Amt at_ _ _ _ _ HS1.out ⟨m1, m2⟩).mono ?_
        rintro e w4 ⟨rfl, hb4⟩
        have z4 := hb4.size
        try simp at z4
        rw [hD]
        go_wp2_with fail
        have hlast5 : ((l.take (k + 1)).filter (counts s at_)) = (l.take k).filter (counts s at_) := by
          rw [HK.out, show counts s at_ l[k] = _ from hD]
          simp
        go_roundw
        case rel =>
          refine ⟨k + 1, B, cp, by omega, by go_num, ?_, heap_below hb4 (by simp; omega) (heap_past ezz EH.out), heap_below hb4 (by simp; omega) (heap_past fzz FH.out), ?_, by (first | ((repeat' first | (with_reducible (first | exact Below.refl _ _ | assumption | refine Below.setCell ?_ ?_ _ | refine Below.alloc ?_ ?_ _ | refine Below.drew ?_ | refine below_drewN ?_ _ | refine Below.trans ?_ (Below.mono (by assumption) ?_))) | omega | (simp; omega) | (simp; done)); done) | (repeat' first | exact Below.refl _ _ | assumption | refine Below.setCell ?_ (by first | omega | (simp; omega) | (simp; done)) _ | refine Below.alloc ?_ (by first | omega | (simp; omega) | (simp; done)) _ | refine Below.drew ?_ | refine below_drewN ?_ _ | refine Below.trans ?_ (Below.mono (by assumption) (by first | omega | (simp; omega) | (simp; done)))))⟩
          · rw [hlast5]
            exact (HO.out.alloc _).below (hb4.mono (by simp))
          · rw [hlast5]
            exact heap_below hb4 (by simp; omega) (heap_past gz GH.out)
        case measure => simp [intOf]; omega
      · obtain ⟨m, hm⟩ : ∃ m, ((l.take k).filter (counts s at_)).length = m := ⟨_, rfl⟩
        have hm1 : m ≤ 40 := by
          rw [← hm]
          exact Nat.le_trans (List.length_filter_le _ _) (Nat.le_trans (List.length_take_le _ _) (by omega))
        have HM := Lib.hid hm
        have ho := HO.out
        have gh := GH.out
        rw [hm] at g2 gh ho
        have GH := Lib.hid gh
        clear hm HO gh
        have HO2 := Lib.hid ho
        clear ho
        go_wp2_with fail
        refine (s_l23Counts c s l[k].At l[k].Amt at_ _ _ _ _ HS1.out ⟨m1, m2⟩).mono ?_
        rintro e w4 ⟨rfl, hb4⟩
        have z4 := hb4.size
        try simp at z4
        rw [hD]
        have ho4 := (HO2.out.alloc (.cells #[.int .i64 l[k].At, .int .i64 l[k].Amt] 108)).below (hb4.mono (by simp))
        have hbw4 : Below w.heap.size w w4 := by (first | ((repeat' first | (with_reducible (first | exact Below.refl _ _ | assumption | refine Below.setCell ?_ ?_ _ | refine Below.alloc ?_ ?_ _ | refine Below.drew ?_ | refine below_drewN ?_ _ | refine Below.trans ?_ (Below.mono (by assumption) ?_))) | omega | (simp; omega) | (simp; done)); done) | (repeat' first | exact Below.refl _ _ | assumption | refine Below.setCell ?_ (by first | omega | (simp; omega) | (simp; done)) _ | refine Below.alloc ?_ (by first | omega | (simp; omega) | (simp; done)) _ | refine Below.drew ?_ | refine below_drewN ?_ _ | refine Below.trans ?_ (Below.mono (by assumption) (by first | omega | (simp; omega) | (simp; done)))))
        obtain ⟨eh, i0', i1', i2', if', iz'⟩ := own3 hb4 (by simp; omega) (heap_past ezz EH.out)
        obtain ⟨fh, j0, j1, j2, jf, jz⟩ := own3 hb4 (by simp; omega) (heap_past fzz FH.out)
        obtain ⟨gh, k0, k1, k2, kf, kz⟩ := own3 hb4 (by simp; omega) (heap_past gz GH.out)
        obtain ⟨qh, q0, q1, qf, qz⟩ := own2 (g := wr.heap.size) hb4 (by simp) (heap_at rfl)
        have NE := Lib.hid (ho4.ne_ eh (by decide))
        have NF := Lib.hid (ho4.ne_ fh (by decide))
        have NG := Lib.hid (ho4.ne_ gh (by decide))
        have OB := Lib.hid ho4.block
        have HO4 := Lib.hid ho4
        have EH := Lib.hid eh
        have FH := Lib.hid fh
        have GH := Lib.hid gh
        have KE := Lib.hid (fun o1 (w5 : World) (hgr : (w4.alloc o1).grownBy w5 (Value.slice B m cp).ownBlock) => ownG3 hgr NE.out (heap_past iz' EH.out))
        have KF := Lib.hid (fun o1 (w5 : World) (hgr : (w4.alloc o1).grownBy w5 (Value.slice B m cp).ownBlock) => ownG3 hgr NF.out (heap_past jz FH.out))
        have KG := Lib.hid (fun o1 (w5 : World) (hgr : (w4.alloc o1).grownBy w5 (Value.slice B m cp).ownBlock) => ownG3 hgr NG.out (heap_past kz GH.out))
        have hbz4 := hbw4.size
        have KB := Lib.hid (fun o1 (w5 : World) (hgr : (w4.alloc o1).grownBy w5 (Value.slice B m cp).ownBlock) => (hbw4.alloc hbz4 o1).grown hgr (by simp; omega) (fun k e => by have := (OB.out k e).1; omega))
        clear eh fh gh ho4 qh
        go_wp2_with (at_builtin; refine wpList_app1 rfl _ _ _ rfl (w3.heap.size + 1) 108 i0 _ 2 16 Try.underlying57 HI.out HZ0.out HZ1.out HZ2.out rfl (by decide) (.slice B m cp) (((l.take k).filter (counts s at_)).map Coin.cells) rfl (HO4.out.alloc _) w4.heap.size 1 [.int .i64 l[k].At, .int .i64 l[k].Amt] 108 rfl (heap_at rfl) rfl (by simp [Value.oneCell']) (by rw [List.length_map, HM.out]; omega) (by decide) (by simp; omega) ?_; intro g cap' w5 how5 hgr5 hat5 hlt5; rw [List.length_map, HM.out] at how5; rw [List.length_map, HM.out]; obtain ⟨xh, x0, x1, x2, xf, xz⟩ := KE.out _ _ hgr5; obtain ⟨yh, y0, y1, y2, yf, yz⟩ := KF.out _ _ hgr5; obtain ⟨vh, v0, v1, v2, vf, vz⟩ := KG.out _ _ hgr5; have hb5 := KB.out _ _ hgr5; have XH := Lib.hid xh; have YH := Lib.hid yh; have VH := Lib.hid vh; have O5 := Lib.hid how5; clear xh yh vh how5 hgr5 hat5)
        have hlast5 : ((l.take (k + 1)).filter (counts s at_)) = (l.take k).filter (counts s at_) ++ [l[k]] := by
          rw [HK.out, show counts s at_ l[k] = _ from hD]
          simp
        go_roundw
        case rel =>
          refine ⟨k + 1, some ⟨g, 0, none⟩, cap', by omega, by go_num, ?_, heap_far (by simp; omega) XH.out, heap_far (by simp; omega) YH.out, ?_, hb5.setCell (by simp; omega) _⟩
          · rw [hlast5, List.map_append, List.length_append, HM.out]
            exact O5.out.far (by simp) _
          · rw [hlast5, List.length_append, HM.out]
            exact heap_set VH.out
        case measure => simp [intOf]; omega
    · obtain rfl : k = l.length := by omega
      rw [List.take_length] at g2 gh
      have ho := HO.out
      rw [List.take_length] at ho
      obtain ⟨m, hm⟩ : ∃ m, (l.filter (counts s at_)).length = m := ⟨_, rfl⟩
      have hm1 : m ≤ 40 := by
        rw [← hm]
        exact Nat.le_trans (List.length_filter_le _ _) (by omega)
      have HM := Lib.hid hm
      rw [hm] at g2 gh ho
      have NE := Lib.hid (ho.ne_ eh (by decide))
      have NF := Lib.hid (ho.ne_ fh (by decide))
      have NG := Lib.hid (ho.ne_ gh (by decide))
      have OB := Lib.hid ho.block
      have HO2 := Lib.hid ho
      clear HO
      have EH := Lib.hid eh
      have FH := Lib.hid fh
      have GH := Lib.hid gh
      have KE := Lib.hid (fun o1 (w5 : World) (hgr : (wr.alloc o1).grownBy w5 (Value.slice B m cp).ownBlock) => ownG3 hgr NE.out (heap_past ezz EH.out))
      have KF := Lib.hid (fun o1 (w5 : World) (hgr : (wr.alloc o1).grownBy w5 (Value.slice B m cp).ownBlock) => ownG3 hgr NF.out (heap_past fzz FH.out))
      have KG := Lib.hid (fun o1 (w5 : World) (hgr : (wr.alloc o1).grownBy w5 (Value.slice B m cp).ownBlock) => ownG3 hgr NG.out (heap_past gz GH.out))
      have KB := Lib.hid (fun o1 (w5 : World) (hgr : (wr.alloc o1).grownBy w5 (Value.slice B m cp).ownBlock) => (hbw.alloc (Nat.le_trans (Nat.le_refl _) hbz) o1).grown hgr (by simp; omega) (fun k e => by have := (OB.out k e).1; omega))
      clear hm eh fh gh ho
      have n5 : ¬ (w3.heap.size = w.heap.size) := by omega
      have n6 : ¬ (w3.heap.size = w.heap.size + 1) := by omega
      by_cases hq : 39 < m
      · have hcode : spendCode c s at_ n l = 3 := by
          unfold spendCode spendKeep
          rw [HASK.out, hmay, HM.out]
          simp; omega
        have q1 : decide ((40 : Int) < (m : Int) + 1) = true := by simp; omega
        have HQ := Lib.hid hq
        clear hq
        go_wp2_with (at_builtin; refine wpList_app1 rfl _ _ _ rfl (w3.heap.size + 1) 108 i0 _ 2 16 Try.underlying57 HI.out HZ0.out HZ1.out HZ2.out rfl (by decide) (.slice B m cp) ((l.filter (counts s at_)).map Coin.cells) rfl (HO2.out.alloc _) wr.heap.size 1 [.int .i64 at_, .int .i64 n] 108 rfl (heap_at rfl) rfl (by simp [Value.oneCell']) (by rw [List.length_map, HM.out]; omega) (by decide) (by simp; omega) ?_; intro g cap' w5 how5 hgr5 hat5 hlt5; rw [List.length_map, HM.out] at how5; rw [List.length_map, HM.out]; obtain ⟨xh, x0, x1, x2, xf, xz⟩ := KE.out _ _ hgr5; obtain ⟨yh, y0, y1, y2, yf, yz⟩ := KF.out _ _ hgr5; obtain ⟨vh, v0, v1, v2, vf, vz⟩ := KG.out _ _ hgr5; have hb5 := KB.out _ _ hgr5; have XH := Lib.hid xh; have YH := Lib.hid yh; have VH := Lib.hid vh; have O5 := Lib.hid how5; clear xh yh vh how5 hgr5 hat5)
        refine bodyPost_ret (v := .tuple #[.agg #[.int .i64 0, .int .i64 0, .slice none 0 0], .int .i64 3]) (by simp [results, Try.results98, go_sem, y0, y1, y2]) rfl (spend_postN hcode (by decide) ⟨none, 0, rfl, Ow.nil_, by (first | ((repeat' first | (with_reducible (first | exact Below.refl _ _ | assumption | refine Below.setCell ?_ ?_ _ | refine Below.alloc ?_ ?_ _ | refine Below.drew ?_ | refine below_drewN ?_ _ | refine Below.trans ?_ (Below.mono (by assumption) ?_))) | omega | (simp; omega) | (simp; done)); done) | (repeat' first | exact Below.refl _ _ | assumption | refine Below.setCell ?_ (by first | omega | (simp; omega) | (simp; done)) _ | refine Below.alloc ?_ (by first | omega | (simp; omega) | (simp; done)) _ | refine Below.drew ?_ | refine below_drewN ?_ _ | refine Below.trans ?_ (Below.mono (by assumption) (by first | omega | (simp; omega) | (simp; done)))))⟩)
      · have hcode : spendCode c s at_ n l = 0 := by
          unfold spendCode spendKeep
          rw [HASK.out, hmay, HM.out]
          simp; omega
        have q1 : decide ((40 : Int) < (m : Int) + 1) = false := by simp; omega
        have HQ := Lib.hid hq
        clear hq
        go_wp2_with (at_builtin; refine wpList_app1 rfl _ _ _ rfl (w3.heap.size + 1) 108 i0 _ 2 16 Try.underlying57 HI.out HZ0.out HZ1.out HZ2.out rfl (by decide) (.slice B m cp) ((l.filter (counts s at_)).map Coin.cells) rfl (HO2.out.alloc _) wr.heap.size 1 [.int .i64 at_, .int .i64 n] 108 rfl (heap_at rfl) rfl (by simp [Value.oneCell']) (by rw [List.length_map, HM.out]; omega) (by decide) (by simp; omega) ?_; intro g cap' w5 how5 hgr5 hat5 hlt5; rw [List.length_map, HM.out] at how5; rw [List.length_map, HM.out]; obtain ⟨xh, x0, x1, x2, xf, xz⟩ := KE.out _ _ hgr5; obtain ⟨yh, y0, y1, y2, yf, yz⟩ := KF.out _ _ hgr5; obtain ⟨vh, v0, v1, v2, vf, vz⟩ := KG.out _ _ hgr5; have hb5 := KB.out _ _ hgr5; have XH := Lib.hid xh; have YH := Lib.hid yh; have VH := Lib.hid vh; have O5 := Lib.hid how5; clear xh yh vh how5 hgr5 hat5)
        refine bodyPost_ret (v := .tuple #[.agg #[.int .i64 c, .int .i64 s, .slice (some ⟨g, 0, none⟩) (m + 1) cap'], .int .i64 0]) (by simp [results, Try.results98, go_sem, y0, y1, y2]) rfl (spend_post0 hcode ⟨some ⟨g, 0, none⟩, cap', ?_, ?_, ?_⟩)
        · simp [spendKeep, HM.out]
        · rw [List.map_append, List.length_append, spendKeep, HM.out]
          refine (Ow.far (Ow.far (Ow.far (Ow.far O5.out ?_ _) ?_ _) ?_ _) ?_ _).more ?_
          all_goals first | omega | (simp; done) | (simp; omega)
        · (first | ((repeat' first | (with_reducible (first | exact Below.refl _ _ | assumption | refine Below.setCell ?_ ?_ _ | refine Below.alloc ?_ ?_ _ | refine Below.drew ?_ | refine below_drewN ?_ _ | refine Below.trans ?_ (Below.mono (by assumption) ?_))) | omega | (simp; omega) | (simp; done)); done) | (repeat' first | exact Below.refl _ _ | assumption | refine Below.setCell ?_ (by first | omega | (simp; omega) | (simp; done)) _ | refine Below.alloc ?_ (by first | omega | (simp; omega) | (simp; done)) _ | refine Below.drew ?_ | refine below_drewN ?_ _ | refine Below.trans ?_ (Below.mono (by assumption) (by first | omega | (simp; omega) | (simp; done)))))
theorem spend_1 {w : World} {c s at_ n : Int} {l : List Coin} {e : Ending} {w' : World} (h : askB c s at_ n l = false) (hp : SpendPost w 0 0 [] 1 e w') :
    SpendPost w (spendCap c s at_ n l) (spendSpan c s at_ n l) (spendCoins c s at_ n l) (spendCode c s at_ n l) e w' :=
  spend_postN (by simp [spendCode, h]) (by decide) hp
theorem spend_2 {w : World} {c s at_ n : Int} {l : List Coin} {e : Ending} {w' : World} (h : askB c s at_ n l = true) (h2 : mayB c s at_ n l = false) (hp : SpendPost w 0 0 [] 2 e w') :
    SpendPost w (spendCap c s at_ n l) (spendSpan c s at_ n l) (spendCoins c s at_ n l) (spendCode c s at_ n l) e w' :=
  spend_postN (by simp [spendCode, h, h2]) (by decide) hp
theorem i_Spend (c s at_ n : Int) (l : List Coin) (A : Option Addr) (cap : Nat) (w : World) (hl : l.length ≤ 1048576) (ha : at_ ≤ 9223372036854775807) (hr : Rd w w.heap.size 2 A (l.map Coin.cells)) :
    Calls Try.prog 36 #[.agg #[.int .i64 c, .int .i64 s, .slice A l.length cap], .int .i64 at_, .int .i64 n] w (SpendPost w (spendCap c s at_ n l) (spendSpan c s at_ n l) (spendCoins c s at_ n l) (spendCode c s at_ n l)) := by
  cases h : askB c s at_ n l
  · exact (i_Spend_1 c s at_ n l A cap w hl h hr).mono fun _ _ hp => spend_1 h hp
  · cases h2 : mayB c s at_ n l
    · exact (i_Spend_2 c s at_ n l A cap w hl ha h h2 hr).mono fun _ _ hp => spend_2 h h2 hp
    · exact i_Spend_3 c s at_ n l A cap w hl ha h h2 hr
theorem s_Spend (c s at_ n : Int) (l : List Coin) (A : Option Addr) (cap : Nat) (w : World) (hl : l.length ≤ 1048576) (hr : Rd w w.heap.size 2 A (l.map Coin.cells)) :
    Calls Try.prog 98 #[.agg #[.int .i64 c, .int .i64 s, .slice A l.length cap], .int .i64 at_, .int .i64 n] w (SpendPost w (spendCap c s at_ n l) (spendSpan c s at_ n l) (spendCoins c s at_ n l) (spendCode c s at_ n l)) := by
  cases h : askB c s at_ n l
  · exact (s_Spend_1 c s at_ n l A cap w hl h hr).mono fun _ _ hp => spend_1 h hp
  · cases h2 : mayB c s at_ n l
    · exact (s_Spend_2 c s at_ n l A cap w hl h h2 hr).mono fun _ _ hp => spend_2 h h2 hp
    · exact s_Spend_3 c s at_ n l A cap w hl h h2 hr
end Go.Proofs.Ytplchgkppkibnaa
