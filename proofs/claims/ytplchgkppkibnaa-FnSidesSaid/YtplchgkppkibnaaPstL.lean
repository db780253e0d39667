/- Slices of postings: the laws' own helpers. -/
import Derived.Test.YtplchgkppkibnaaRows
import Derived.Test.YtplchgkppkibnaaPst
import Derived.Test.YtplchgkppkibnaaBase2
namespace Go.Proofs.Ytplchgkppkibnaa
open Go.RowKit

theorem sub_pos_f {q n : Int} (h : n ≤ q) : decide (q - n < 0) = false := decide_eq_false (by omega)
set_option maxRecDepth 100000 in
set_option maxHeartbeats 1000000 in
theorem l_szPostingS_ok (ps : List Pst) (A : Option Addr) (cap : Nat) (left : Int) (w : World) (h0 : left ≤ 1048576) (hr : RdP w w.heap.size A ps) (h : (ps.length : Int) + totP ps ≤ left) :
    Calls Try.prog 15 #[.slice A ps.length cap, .int .i64 left] w fun e w' => e = .returned (.int .i64 (left - ps.length - totP ps)) ∧ Below w.heap.size w w' := by
  have HR := Lib.hid hr
  clear hr
  have hneg : decide (left - (ps.length : Int) < 0) = false := decide_eq_false (by omega)
  go_enter Try.func15, Try.ntmps15
  go_wp2_with fail
  go_loopw [1, 5] (fun q i wr => ∃ (k : Nat) (z : Int), k ≤ ps.length ∧ i = .int .i64 k ∧ q = .int .i64 z ∧ z = left - ps.length - totP ps + totP (ps.drop k) ∧ z ≤ left ∧ Below w.heap.size w wr) (fun _ i _ => ps.length - (intOf i).toNat)
  case atStart => exact ⟨0, _, Nat.zero_le _, rfl, rfl, by rw [List.drop_zero]; omega, by omega, Below.refl _ _⟩
  case round =>
    obtain ⟨k, z, hk, rfl, rfl, hz, hzl, hbw⟩ := hrel
    have hbz := hbw.size
    by_cases hlt : k < ps.length
    · obtain ⟨b, off, rfl, hbB, c0, c1⟩ := (HR.out.below hbw).at_ hlt
      have hd := totP_drop hlt
      obtain ⟨z', hz'⟩ : ∃ z', z - (ps[k].L.length : Int) = z' := ⟨_, rfl⟩
      have hz1 : z' = left - ps.length - totP ps + totP (ps.drop (k + 1)) := by omega
      have hz2 : (ps[k].L.length : Int) ≤ z := by omega
      have hz3 : decide (z' < 0) = false := decide_eq_false (by omega)
      have HZ := Lib.hid hz1
      have hz4 : z ≤ 1048576 := by omega
      clear hz1 hd hz
      go_wp2_with fail
      refine (l_szPosting_ok _ _ _ _ _ _ hz4 hz2).mono ?_
      rintro e w1 ⟨rfl, hb1⟩
      rw [hz']
      go_wp2_with fail
      go_roundw
      case rel => exact ⟨k + 1, z', by omega, by go_num, rfl, HZ.out, by omega, by (first | ((repeat' first | (with_reducible (first | exact Below.refl _ _ | assumption | refine Below.setCell ?_ ?_ _ | refine Below.alloc ?_ ?_ _ | refine Below.drew ?_ | refine below_drewN ?_ _ | refine Below.trans ?_ (Below.mono (by assumption) ?_))) | omega | (simp; omega) | (simp; done)); done) | (repeat' first | exact Below.refl _ _ | assumption | refine Below.setCell ?_ (by first | omega | (simp; omega) | (simp; done)) _ | refine Below.alloc ?_ (by first | omega | (simp; omega) | (simp; done)) _ | refine Below.drew ?_ | refine below_drewN ?_ _ | refine Below.trans ?_ (Below.mono (by assumption) (by first | omega | (simp; omega) | (simp; done)))))⟩
      case measure => simp [intOf]; omega
    · obtain rfl : k = ps.length := by omega
      have hz5 : z = left - ps.length - totP ps := by rw [hz, List.drop_length, totP_nil]; omega
      have HZ := Lib.hid hz5
      clear hz hz5
      go_wp2_with fail
      go_ret
      exact ⟨ret_int HZ.out, hbw⟩
set_option maxRecDepth 100000 in
set_option maxHeartbeats 1000000 in
theorem l_szPostingS_no (ps : List Pst) (A : Option Addr) (cap : Nat) (left : Int) (w : World) (h0 : 0 ≤ left) (h1 : left ≤ 1048576) (hm : ps.length ≤ maxLen) (hml : ∀ p ∈ ps, p.L.length ≤ maxLen) (hr : RdP w w.heap.size A ps) (h : left < (ps.length : Int) + totP ps) :
    Calls Try.prog 15 #[.slice A ps.length cap, .int .i64 left] w fun e w' => e = .returned (.int .i64 (-1)) ∧ Below w.heap.size w w' := by
  have HR := Lib.hid hr
  have HML := Lib.hid hml
  clear hr hml
  unfold maxLen at hm
  by_cases hn : left < (ps.length : Int)
  · have hneg : decide (left - (ps.length : Int) < 0) = true := decide_eq_true (by omega)
    go_enter Try.func15, Try.ntmps15
    go_wp2_with fail
    go_ret
    exact ⟨rfl, Below.refl _ _⟩
  · have hneg : decide (left - (ps.length : Int) < 0) = false := decide_eq_false (by omega)
    go_enter Try.func15, Try.ntmps15
    go_wp2_with fail
    go_loopw [1, 5] (fun q i wr => ∃ (k : Nat) (z : Int), k ≤ ps.length ∧ i = .int .i64 k ∧ q = .int .i64 z ∧ (0 ≤ z ∧ z ≤ 1048576 ∧ z < totP (ps.drop k)) ∧ Below w.heap.size w wr) (fun _ i _ => ps.length - (intOf i).toNat)
    case atStart => exact ⟨0, _, Nat.zero_le _, rfl, rfl, by rw [List.drop_zero]; omega, Below.refl _ _⟩
    case round =>
      obtain ⟨k, z, hk, rfl, rfl, ⟨hz0, hz1, hz⟩, hbw⟩ := hrel
      have hbz := hbw.size
      by_cases hlt : k < ps.length
      · obtain ⟨b, off, rfl, hbB, c0, c1⟩ := (HR.out.below hbw).at_ hlt
        have hd := totP_drop hlt
        have hmk := Lib.hid (HML.out _ (List.getElem_mem hlt))
        obtain ⟨z', hz'⟩ : ∃ z', z - (ps[k].L.length : Int) = z' := ⟨_, rfl⟩
        by_cases hle : (ps[k].L.length : Int) ≤ z
        · have hz2 : 0 ≤ z' ∧ z' ≤ 1048576 ∧ z' < totP (ps.drop (k + 1)) := by omega
          have hz3 : decide (z' < 0) = false := decide_eq_false (by omega)
          have HZ := Lib.hid hz2
          clear hz2 hd hz
          go_wp2_with fail
          refine (l_szPosting_ok _ _ _ _ _ _ hz1 hle).mono ?_
          rintro e w1 ⟨rfl, hb1⟩
          rw [hz']
          go_wp2_with fail
          go_roundw
          case rel => exact ⟨k + 1, z', by omega, by go_num, rfl, HZ.out, by (first | ((repeat' first | (with_reducible (first | exact Below.refl _ _ | assumption | refine Below.setCell ?_ ?_ _ | refine Below.alloc ?_ ?_ _ | refine Below.drew ?_ | refine below_drewN ?_ _ | refine Below.trans ?_ (Below.mono (by assumption) ?_))) | omega | (simp; omega) | (simp; done)); done) | (repeat' first | exact Below.refl _ _ | assumption | refine Below.setCell ?_ (by first | omega | (simp; omega) | (simp; done)) _ | refine Below.alloc ?_ (by first | omega | (simp; omega) | (simp; done)) _ | refine Below.drew ?_ | refine below_drewN ?_ _ | refine Below.trans ?_ (Below.mono (by assumption) (by first | omega | (simp; omega) | (simp; done)))))⟩
          case measure => simp [intOf]; omega
        · go_wp2_with fail
          refine (l_szPosting_no _ _ _ _ _ _ hz0 hmk.out (by omega)).mono ?_
          rintro e w1 ⟨rfl, hb1⟩
          go_wp2_with fail
          go_ret
          exact ⟨rfl, by (first | ((repeat' first | (with_reducible (first | exact Below.refl _ _ | assumption | refine Below.setCell ?_ ?_ _ | refine Below.alloc ?_ ?_ _ | refine Below.drew ?_ | refine below_drewN ?_ _ | refine Below.trans ?_ (Below.mono (by assumption) ?_))) | omega | (simp; omega) | (simp; done)); done) | (repeat' first | exact Below.refl _ _ | assumption | refine Below.setCell ?_ (by first | omega | (simp; omega) | (simp; done)) _ | refine Below.alloc ?_ (by first | omega | (simp; omega) | (simp; done)) _ | refine Below.drew ?_ | refine below_drewN ?_ _ | refine Below.trans ?_ (Below.mono (by assumption) (by first | omega | (simp; omega) | (simp; done)))))⟩
      · obtain rfl : k = ps.length := by omega
        rw [List.drop_length, totP_nil] at hz
        omega
theorem RdP.at2 {w : World} {B : Nat} {A : Option Addr} {qs ps : List Pst} (h : RdP w B A qs) (hpl : qs.map Pst.pl = ps.map Pst.pl) {k : Nat} (hk : k < ps.length) :
    ∃ b off A' cap', A = some ⟨b, off, none⟩ ∧ b < B ∧ w.cell? ⟨b, off + k * 2, none⟩ = some (.int .i64 ps[k].Id) ∧ w.cell? ⟨b, off + k * 2 + 1, none⟩ = some (.slice A' ps[k].L.length cap') ∧ Rd w B 3 A' (ps[k].L.map Line.cells) := by
  have hq : k < qs.length := by rw [pl_length hpl]; exact hk
  obtain ⟨e1, e2⟩ := pl_get hpl hq hk
  obtain ⟨b, off, e, hb, c0, c1⟩ := h.at_ hq
  have hl := h.lines hq
  rw [e1] at c0
  rw [e2] at c1 hl
  exact ⟨b, off, _, _, e, hb, c0, c1, hl⟩
set_option maxRecDepth 100000 in
set_option maxHeartbeats 1000000 in
theorem l_eqPostingS (ps qs : List Pst) (A1 A2 : Option Addr) (cap1 cap2 : Nat) (w : World) (hpl : qs.map Pst.pl = ps.map Pst.pl) (hl : ps.length ≤ 1048576) (hls : ∀ p ∈ ps, p.L.length ≤ 1048576) (hr1 : RdP w w.heap.size A1 ps) (hr2 : RdP w w.heap.size A2 qs) :
    Calls Try.prog 21 #[.slice A1 ps.length cap1, .slice A2 ps.length cap2] w fun e w' => e = .returned (.bool true) ∧ Below w.heap.size w w' := by
  have HR1 := Lib.hid hr1
  have HR2 := Lib.hid hr2
  have HPL := Lib.hid hpl
  have HLS := Lib.hid hls
  clear hr1 hr2 hpl hls
  go_enter Try.func21, Try.ntmps21
  go_wp2_with fail
  go_loopw [5] (fun i wr => ∃ k : Nat, k ≤ ps.length ∧ i = .int .i64 k ∧ Below w.heap.size w wr) (fun i _ => ps.length - (intOf i).toNat)
  case atStart => exact ⟨0, Nat.zero_le _, rfl, Below.refl _ _⟩
  case round =>
    obtain ⟨k, hk, rfl, hbw⟩ := hrel
    have hbz := hbw.size
    by_cases hlt : k < ps.length
    · obtain ⟨b, off, rfl, hbB, c0, c1⟩ := (HR1.out.below hbw).at_ hlt
      obtain ⟨b', off', A', cap', rfl, hbB', d0, d1, hl2⟩ := (HR2.out.below hbw).at2 HPL.out hlt
      have HL1 := Lib.hid (show Rd wr.drew wr.drew.heap.size 3 ps[k].A (ps[k].L.map Line.cells) from (((HR1.out.below hbw).lines hlt).more hbz).below ((Below.refl _ _).drew))
      have HL2 := Lib.hid (show Rd wr.drew wr.drew.heap.size 3 A' (ps[k].L.map Line.cells) from (hl2.more hbz).below ((Below.refl _ _).drew))
      have hlk := Lib.hid (HLS.out _ (List.getElem_mem hlt))
      clear hl2
      go_wp2_with fail
      go_still_tail 8, (by kernel_rfl)
      change wpList _ _ _ _ _ wr.drew
      go_wp2_with fail
      refine (l_eqPosting _ _ _ _ _ _ wr.drew hlk.out HL1.out HL2.out).mono ?_
      rintro e w1 ⟨rfl, hb1⟩
      go_wp2_with fail
      go_roundw
      case rel => exact ⟨k + 1, by omega, by go_num, by (first | ((repeat' first | (with_reducible (first | exact Below.refl _ _ | assumption | refine Below.setCell ?_ ?_ _ | refine Below.alloc ?_ ?_ _ | refine Below.drew ?_ | refine below_drewN ?_ _ | refine Below.trans ?_ (Below.mono (by assumption) ?_))) | omega | (simp; omega) | (simp; done)); done) | (repeat' first | exact Below.refl _ _ | assumption | refine Below.setCell ?_ (by first | omega | (simp; omega) | (simp; done)) _ | refine Below.alloc ?_ (by first | omega | (simp; omega) | (simp; done)) _ | refine Below.drew ?_ | refine below_drewN ?_ _ | refine Below.trans ?_ (Below.mono (by assumption) (by first | omega | (simp; omega) | (simp; done)))))⟩
      case measure => simp [intOf]; omega
    · obtain rfl : k = ps.length := by omega
      go_wp2
      go_ret
      exact ⟨rfl, hbw⟩
theorem info_Posting : (Try.prog.info? 69).map (fun i => (i.zero, i.size, i.bytes)) = some (some (.agg #[.int .i64 0, .slice none 0 0]), 2, 32) := by kernel_rfl
theorem Fill.xs {w : World} {g N c : Nat} {e : TypeId} {xs ys : List Value} (h : Fill w g e N c xs) (hx : ∀ j, j < c → ys[j]? = xs[j]?) : Fill w g e N c ys := by
  obtain ⟨cs, hh, hs, hc⟩ := h
  exact ⟨cs, hh, hs, fun j hj => (hc j hj).trans (hx j hj).symm⟩
theorem pst_app (qs : List Pst) (q : Pst) : ((qs ++ [q]).map Pst.cells).flatten = (qs.map Pst.cells).flatten ++ q.cells := by simp
theorem pst_flen (qs : List Pst) : (qs.map Pst.cells).flatten.length = qs.length * 2 := by
  rw [flatten_size _ 2 (Pst.uni qs), List.length_map]
theorem pl_take_push {ps qs : List Pst} {q : Pst} (h : qs.map Pst.pl = (ps.take qs.length).map Pst.pl) (hk : qs.length < ps.length) (h1 : q.Id = ps[qs.length].Id) (h2 : q.L = ps[qs.length].L) :
    (qs ++ [q]).map Pst.pl = (ps.take (qs ++ [q]).length).map Pst.pl := by
  rw [List.length_append, List.length_singleton, List.take_succ_eq_append_getElem hk, List.map_append, List.map_append, h]
  simp [Pst.pl, h1, h2]
set_option maxRecDepth 100000 in
set_option maxHeartbeats 2000000 in
theorem l_toPostingS (ps : List Pst) (A : Option Addr) (cap : Nat) (w : World) (hl : ps.length ≤ 1048576) (hls : ∀ p ∈ ps, p.L.length ≤ 1048576) (hr : RdP w w.heap.size A ps) :
    Calls Try.prog 17 #[.slice A ps.length cap] w fun e w' => ∃ qs : List Pst, e = .returned (.slice (some ⟨w.heap.size, 0, none⟩) ps.length ps.length) ∧ qs.map Pst.pl = ps.map Pst.pl ∧ OwP w' w.heap.size (some ⟨w.heap.size, 0, none⟩) ps.length qs ∧ Below w.heap.size w w' := by
  obtain ⟨i0, hi, hz0, hz1, hz2⟩ := info_parts info_Posting
  have hmk := fun W => run_make_rowN (P := Try.prog) 38 69 i0 _ Try.underlying38 hi hz0 .i64 .i64 ps.length ps.length (Nat.le_refl _) (by rw [hz2]; omega) (by omega) W
  rw [hz1] at hmk
  have hfs : Fill (w.alloc (.cells (madeCells (.agg #[.int .i64 0, .slice none 0 0] : Value).cells (ps.length * 2)) 69)) w.heap.size 69 (ps.length * 2) 0 ([] : List Value) := Fill.start _ (size_madeCells _ _)
  have HFS := Lib.hid hfs
  have HR := Lib.hid hr
  have HLS := Lib.hid hls
  clear hfs hi hz0 hz1 hz2 hr hls
  go_enter Try.func17, Try.ntmps17
  go_wp2_with fail
  go_loopw [4] (fun i wr => ∃ qs : List Pst, qs.length ≤ ps.length ∧ i = .int .i64 qs.length ∧ Hid (qs.map Pst.pl = (ps.take qs.length).map Pst.pl) ∧ Fill wr w.heap.size 69 (ps.length * 2) (qs.length * 2) (qs.map Pst.cells).flatten ∧ OwL wr (w.heap.size + 1) qs ∧ w.heap.size + 1 ≤ wr.heap.size ∧ Below w.heap.size w wr) (fun i _ => ps.length - (intOf i).toNat)
  case atStart => exact ⟨[], Nat.zero_le _, rfl, Lib.hid rfl, HFS.out, OwL.nil_, by simp, (Below.refl _ _).alloc (Nat.le_refl _) _⟩
  case round =>
    obtain ⟨qs, hk, rfl, HPL, hfill, hol, hgz, hbw⟩ := hrel
    clear hmk HFS
    have hglt := hfill.lt
    obtain ⟨k, hkk⟩ : ∃ k, qs.length = k := ⟨_, rfl⟩
    have HOL := Lib.hid hol
    clear hol
    by_cases hlt : k < ps.length
    · obtain ⟨b, off, rfl, hbB, c0, c1⟩ := (HR.out.below hbw).at_ hlt
      have HL1 := Lib.hid (((HR.out.below hbw).lines hlt).more hbw.size)
      have hlk := Lib.hid (HLS.out _ (List.getElem_mem hlt))
      have HF := Lib.hid hfill
      have HKK := Lib.hid hkk
      rw [hkk] at hk ⊢
      clear hfill hkk
      go_wp2_with fail
      refine (l_toPosting _ ps[k].L _ _ _ hlk.out HL1.out).mono ?_
      rintro e w1 ⟨rfl, how1, hb1⟩
      have z1 := hb1.size
      have hf1 := HF.out.below hb1 hglt
      have HOL1 := Lib.hid (HOL.out.push (q := ⟨ps[k].Id, some ⟨wr.heap.size + 3, 0, none⟩, ps[k].L.length, ps[k].L⟩) hb1 how1 hgz)
      clear HF HOL how1
      rw [HKK.out] at hf1
      have hg1 : w.heap.size < w1.heap.size := by omega
      obtain ⟨o0, q0⟩ := hf1.cell (j := k * 2) (by omega)
      obtain ⟨o1, q1⟩ := hf1.cell (j := k * 2 + 1) (by omega)
      have hff := hf1.frozen
      have HF := Lib.hid hf1
      clear hf1
      go_wp2_with fail
      go_roundw
      case rel =>
        have hfl := pst_flen qs
        rw [HKK.out] at hfl
        refine ⟨qs ++ [⟨ps[k].Id, some ⟨wr.heap.size + 3, 0, none⟩, ps[k].L.length, ps[k].L⟩], by simp; have := HKK.out; omega, by simp [HKK.out], Lib.hid (pl_take_push HPL.out (by rw [HKK.out]; exact hlt) (by simp [HKK.out]) (by simp [HKK.out])), ?_, (HOL1.out.far (by simp) _).far (by simp) _, by simpa using Nat.le_trans hgz z1, by (first | ((repeat' first | (with_reducible (first | exact Below.refl _ _ | assumption | refine Below.setCell ?_ ?_ _ | refine Below.alloc ?_ ?_ _ | refine Below.drew ?_ | refine below_drewN ?_ _ | refine Below.trans ?_ (Below.mono (by assumption) ?_))) | omega | (simp; omega) | (simp; done)); done) | (repeat' first | exact Below.refl _ _ | assumption | refine Below.setCell ?_ (by first | omega | (simp; omega) | (simp; done)) _ | refine Below.alloc ?_ (by first | omega | (simp; omega) | (simp; done)) _ | refine Below.drew ?_ | refine below_drewN ?_ _ | refine Below.trans ?_ (Below.mono (by assumption) (by first | omega | (simp; omega) | (simp; done)))))⟩
        rw [List.length_append, List.length_singleton, HKK.out, Nat.succ_mul, pst_app]
        refine ((HF.out.xs (fun j hj => ?_)).set ?_ (by omega)).set ?_ (by omega)
        · rw [List.getElem?_append_left (by omega)]
        · rw [List.getElem?_append_right (by omega), hfl, Nat.sub_self]; rfl
        · rw [List.getElem?_append_right (by omega), hfl, Nat.add_sub_cancel_left]; rfl
      case measure => simp [intOf]; omega
    · have hkl : qs.length = ps.length := by omega
      have HKL := Lib.hid hkl
      have HF := Lib.hid hfill
      clear hfill hkk
      rw [hkl]
      go_wp2
      go_ret
      have hpl := HPL.out
      rw [HKL.out, List.take_length] at hpl
      refine ⟨qs, rfl, hpl, ⟨?_, HOL.out.more (by omega)⟩, hbw⟩
      have h := Fill.ow (rows := qs.map Pst.cells) (size := 2) (B := w.heap.size) (by have h2 := HF.out; rw [List.length_map]; rw [HKL.out] at h2 ⊢; exact h2) (Pst.uni qs) (Nat.le_refl _) (by rw [List.length_map]; have := HKL.out; simp only [maxLen]; omega)
      rw [List.length_map, HKL.out] at h
      rw [HKL.out]
      exact h
/-- What a posting's cells are but for its number. -/
def Pst.tl (p : Pst) : Option Addr × Nat × List Line := (p.A, p.cap, p.L)
def Pst.at1 (p : Pst) (z : Int) : Pst := ⟨z, p.A, p.cap, p.L⟩
theorem tl_length {ps qs : List Pst} (h : qs.map Pst.tl = ps.map Pst.tl) : qs.length = ps.length := by
  have := congrArg List.length h
  simpa using this
theorem tl_set {ps qs : List Pst} (h : qs.map Pst.tl = ps.map Pst.tl) {k : Nat} (hk : k < qs.length) (z : Int) : (qs.set k (qs[k].at1 z)).map Pst.tl = ps.map Pst.tl := by
  rw [List.map_set, ← h]
  have e : (qs[k].at1 z).tl = (qs.map Pst.tl)[k]'(by simpa using hk) := by simp [Pst.tl, Pst.at1]
  rw [e, List.set_getElem_self]
theorem tl_cells {ps qs : List Pst} (h : qs.map Pst.tl = ps.map Pst.tl) {k : Nat} (h1 : k < qs.length) (h2 : k < ps.length) : qs[k].val = ps[k].val := by
  have : (qs.map Pst.tl)[k]? = (ps.map Pst.tl)[k]? := by rw [h]
  rw [List.getElem?_map, List.getElem?_map, List.getElem?_eq_getElem h1, List.getElem?_eq_getElem h2] at this
  injection this with this
  injection this with a b
  injection b with b c
  unfold Pst.val
  rw [a, b, c]
theorem Ow.heap_ {w : World} {B size n cap g : Nat} {e : TypeId} {rows : List (List Value)} (h : Ow w B e size (.slice (some ⟨g, 0, none⟩) n cap) rows) : ∃ cur, w.heap[g]? = some (.cells cur e (0, 0)) := by
  rcases h.2.2 with ⟨hv, _⟩ | ⟨g', cap', cur, hv, _, hh, _⟩
  · cases hv
  · injection hv with h1
    injection h1 with h1
    injection h1 with h1
    subst h1
    exact ⟨cur, hh⟩
set_option maxRecDepth 100000 in
set_option maxHeartbeats 2000000 in
theorem l_markPostingS (B C : Nat) (ps : List Pst) (A : Option Addr) (cap : Nat) (k : Int) (w : World) (h0 : 0 ≤ k) (h1 : k + (ps.length : Int) + 3 * totP ps ≤ 1099511627776) (hl : ps.length ≤ 1048576) (hls : ∀ p ∈ ps, p.L.length ≤ 1048576) (how : OwP w B A cap ps)
    (hC : (∀ i, (Value.slice A ps.length cap).ownBlock = some i → i < C) ∧ ∀ p ∈ ps, ∀ i, p.val.ownBlock = some i → i < C) :
    Calls Try.prog 22 #[.slice A ps.length cap, .int .i64 k] w fun e w' => ∃ k', e = .returned (.int .i64 k') ∧ 0 ≤ k' ∧ Inside w w' B C := by
  have HO := Lib.hid how
  have HC := Lib.hid hC
  have HLS := Lib.hid hls
  clear how hC hls
  go_enter Try.func22, Try.ntmps22
  go_wp2_with fail
  go_loopw [1, 5] (fun q i wr => ∃ (j : Nat) (z : Int) (qs : List Pst), j ≤ ps.length ∧ i = .int .i64 j ∧ q = .int .i64 z ∧ (0 ≤ z ∧ z + ((ps.length : Int) - j) + 3 * totP (ps.drop j) ≤ 1099511627776) ∧ Hid (qs.map Pst.tl = ps.map Pst.tl) ∧ Ow wr B 69 2 (.slice A ps.length cap) (qs.map Pst.cells) ∧ Hid (∀ m (hm : m < ps.length), j ≤ m → Ow wr B 97 3 ps[m].val (ps[m].L.map Line.cells)) ∧ Inside w wr B C) (fun _ i _ => ps.length - (intOf i).toNat)
  case atStart => exact ⟨0, k, ps, Nat.zero_le _, rfl, rfl, by rw [List.drop_zero]; omega, Lib.hid rfl, HO.out.1, Lib.hid (fun m hm _ => HO.out.2.1 _ (List.getElem_mem hm)), Inside.refl _ _ _⟩
  case round =>
    obtain ⟨j, z, qs, hj, rfl, rfl, ⟨hz0, hz1⟩, HTL, how, HIN, hins⟩ := hrel
    by_cases hlt : j < ps.length
    · obtain ⟨g, rfl⟩ : ∃ g, A = some ⟨g, 0, none⟩ := by
        rcases how.open_ with ⟨h0, _⟩ | ⟨g, cp, hv, _⟩
        · have := congrArg List.length h0
          rw [List.length_map, tl_length HTL.out] at this
          have h2 : ps.length = 0 := this
          omega
        · injection hv with hv1
          exact ⟨g, hv1⟩
      have hjq : j < qs.length := by rw [tl_length HTL.out]; exact hlt
      have hcell : (qs.map Pst.cells)[j]? = some qs[j].cells := by rw [List.getElem?_map, List.getElem?_eq_getElem hjq]; rfl
      have c0 := how.cellAt hcell (j := 0) (by omega)
      have ff := how.frozenAt
      have hd := totP_drop hlt
      have HO1 := Lib.hid (how.stored hcell (j := 0) (by omega) (.int .i64 z))
      have hset : (qs.map Pst.cells).set j (qs[j].cells.set 0 (.int .i64 z)) = (qs.set j (qs[j].at1 z)).map Pst.cells := by rw [List.map_set]; rfl
      have HS := Lib.hid hset
      have gB := (how.block g rfl)
      have hc1 := HO1.out.cellAt (i := j) (j := 1) (r := qs[j].cells.set 0 (.int .i64 z)) (by rw [List.getElem?_set_self (by simpa using hjq)]) (by omega)
      have hv := tl_cells HTL.out hjq hlt
      have c1 : (wr.setCell ⟨g, j * 2 + 0, none⟩ (.int .i64 z)).cell? ⟨g, j * 2 + 1, none⟩ = some (.slice ps[j].A ps[j].L.length ps[j].cap) := by rw [hc1]; exact congrArg some hv
      simp only [Pst.cells, List.getElem?_cons_zero, Nat.add_zero] at c0 c1
      have i1 : (0 : Int) ≤ (j : Int) := by omega
      have i2 : (j : Int) < (ps.length : Int) := by omega
      obtain ⟨cur, hcur⟩ := how.heap_
      have hne : some g ≠ ps[j].val.ownBlock := (HIN.out j hlt (Nat.le_refl _)).ne_ hcur (by decide)
      have HNE := Lib.hid (fun m (hm : m < ps.length) (hjm : j ≤ m) => Ne.symm ((HIN.out m hm hjm).ne_ hcur (by decide)))
      clear how hcell hset hc1 hv hcur
      go_wp2_with fail
      have hst := grown_set (World.grownBy.refl wr (some g)) (j * 2) (.int .i64 z)
      have hown := (HIN.out j hlt (Nat.le_refl _)).grown hst (.inr (Ne.symm hne))
      have HST := Lib.hid hst
      have HNEG := Lib.hid hne
      clear hst hne
      refine (l_markLineS B _ (ps[j].L.map Line.cells) (z + 1) _ (by omega) (by omega) (by rw [List.length_map]; exact HLS.out _ (List.getElem_mem hlt)) hown).mono ?_
      rintro e w1 ⟨he, -, hgr1⟩
      rw [List.length_map] at he
      subst he
      have HGR := Lib.hid hgr1
      clear hgr1 hown
      obtain ⟨z', hz'⟩ : ∃ z', z + 1 + ((ps[j].L.length * 3 : Nat) : Int) = z' := ⟨_, rfl⟩
      rw [hz']
      go_wp2_with fail
      go_roundw
      case rel =>
        refine ⟨j + 1, z', _, by omega, by go_num, rfl, by omega, Lib.hid (tl_set HTL.out (by rw [tl_length HTL.out]; exact hlt) z), ?_, Lib.hid (fun m hm hjm => ?_), ?_⟩
        · have h := HO1.out.grown HGR.out (.inr HNEG.out)
          rw [HS.out] at h
          exact h
        · refine ((HIN.out m hm (by omega)).grown HST.out (.inr (HNE.out m hm (by omega)))).grown HGR.out ?_
          have hp := List.pairwise_iff_getElem.1 HO.out.2.2 j m hlt hm (by omega)
          cases hb : ps[m].val.ownBlock with
          | none => exact .inl rfl
          | some b2 =>
            refine .inr (fun e => ?_)
            have := hp b2 b2 e.symm hb
            omega
        · refine hins.trans ((Inside.of_grown HST.out fun i e => ?_).trans (Inside.of_grown HGR.out fun i e => ?_))
          · injection e with e
            subst e
            exact ⟨gB.1, HC.out.1 _ rfl⟩
          · exact ⟨((HO.out.2.1 _ (List.getElem_mem hlt)).block i e).1, HC.out.2 _ (List.getElem_mem hlt) i e⟩
      case measure => simp [intOf]; omega
    · obtain rfl : j = ps.length := by omega
      go_wp2_with fail
      go_ret
      exact ⟨z, rfl, hz0, hins⟩
end Go.Proofs.Ytplchgkppkibnaa
