/- AccText: the walks. -/
import Derived.Test.YtgpledgjpjifcaaGreatDoorRows
import Derived.Test.YtgpledgjpjifcaaGreatDoorNumI
import Derived.Test.YtgpledgjpjifcaaGreatDoorStr
import Derived.Test.YtgpledgjpjifcaaGreatDoorTxtP
import Derived.Deep.RegionHeld3
namespace Go.Proofs.YtgpledgjpjifcaaGreatDoor
open Go.RowKit

/-- the words of the accounts, behind one another -/
def accWords : ByteArray := ⟨#[32, 119, 97, 108, 108, 101, 116, 32, 101, 113, 117, 105, 116, 121, 32, 105, 110, 99, 111, 109, 101, 32, 114, 101, 98, 97, 108, 32, 99, 104, 97, 105, 110, 32, 108, 111, 99, 97, 108, 32, 105, 110, 32, 111, 117, 116]⟩
def wordsRow : List Value := (List.range 9).map fun n : Nat => .string ⟨(wordL (n : Int)).toArray⟩
theorem words_split : (parts 32 accWords.data.toList).map (fun l : List UInt8 => Value.string ⟨l.toArray⟩) = wordsRow := by kernel_rfl
theorem words_at {n : Nat} (h : n < 9) : wordsRow[n]? = some (.string ⟨(wordL (n : Int)).toArray⟩) := by simp [wordsRow, h]
/-- what strings.Split gives at a separator of one byte -/
theorem split_row (s : ByteArray) (b : UInt8) : (Lib.splitB ⟨#[b]⟩ 0 (Lib.countB s ⟨#[b]⟩) s).map Value.string = (parts b s.data.toList).map (fun l : List UInt8 => Value.string ⟨l.toArray⟩) := by
  have e := Lib.splitB_data ⟨#[b]⟩ 0 (Lib.countB s ⟨#[b]⟩) s
  have e2 : Lib.countB s ⟨#[b]⟩ = Lib.count s.data.toList [b] := rfl
  rw [e2] at e ⊢
  rw [show (⟨#[b]⟩ : ByteArray).data.toList = [b] from rfl, split_parts] at e
  rw [← e, List.map_map]
  refine List.map_congr_left fun x _ => ?_
  rfl
theorem split_count (s : ByteArray) (b : UInt8) : Lib.countB s ⟨#[b]⟩ + 1 = (parts b s.data.toList).length := by
  have e := congrArg List.length (split_row s b)
  rw [List.length_map, List.length_map] at e
  rw [← e, Lib.splitB_all ⟨#[b]⟩ (Nat.le_refl 1) 0 _ s rfl]
theorem i_words (n : Nat) (w : World) (h : Ld w) (hn : n < 9) : Calls Tryz.prog 56 #[.string accWords, .string ⟨#[32]⟩] w fun e w' =>
    e = .returned (.slice (some ⟨w.heap.size, 0, none⟩) 9 9) ∧ w'.cell? ⟨w.heap.size, n, none⟩ = some (.string ⟨(wordL (n : Int)).toArray⟩) ∧ Below w.heap.size w w' := by
  obtain ⟨m, hm⟩ := h.ml
  refine (Tryz.strings_Split accWords ⟨#[32]⟩ m w (by decide) hm (by decide)).mono ?_
  rintro e w' ⟨rfl, rfl⟩
  have e1 : Lib.countB accWords ⟨#[32]⟩ + 1 = 9 := by
    rw [split_count]
    kernel_rfl
  refine ⟨by rw [e1], ?_, (Below.refl _ _).alloc (Nat.le_refl _) _⟩
  rw [split_row, words_split, blk_cell (heap_at rfl) n]
  simpa using words_at hn
set_option maxRecDepth 100000 in
set_option maxHeartbeats 1000000 in
theorem i_AccText (k c : Int) (w : World) (hld : Ld w) : Calls Tryz.prog 48 #[.agg #[.int .i64 k, .int .i64 c]] w fun e w' => e = .returned (.string ⟨(accL k c).toArray⟩) ∧ Below w.heap.size w w' := by
  have HLD := Lib.hid hld
  clear hld
  cases ha : accB k c
  · have HE := Lib.hid (show accL k c = [] by unfold accL; rw [ha]; rfl)
    have HA := Lib.hid ha
    clear ha
    go_enter Tryz.func48, Tryz.ntmps48
    go_wp2_with fail
    refine (i_AccOk _ _ _).mono ?_
    rintro e w1 ⟨rfl, hb1⟩
    have z1 := hb1.size
    try simp at z1
    rw [HA.out]
    go_wp2_with fail
    go_ret
    exact ⟨by rw [HE.out]; rfl, by (first | ((repeat' first | (with_reducible (first | exact Below.refl _ _ | assumption | refine Below.setCell ?_ ?_ _ | refine Below.alloc ?_ ?_ _ | refine Below.drew ?_ | refine below_drewN ?_ _ | refine Below.trans ?_ (Below.mono (by assumption) ?_))) | omega | (simp; omega) | (simp; done)); done) | (repeat' first | exact Below.refl _ _ | assumption | refine Below.setCell ?_ (by first | omega | (simp; omega) | (simp; done)) _ | refine Below.alloc ?_ (by first | omega | (simp; omega) | (simp; done)) _ | refine Below.drew ?_ | refine below_drewN ?_ _ | refine Below.trans ?_ (Below.mono (by assumption) (by first | omega | (simp; omega) | (simp; done)))))⟩
  · have hr := accB_iff.1 ha
    obtain ⟨n, rfl⟩ : ∃ n : Nat, k = n := ⟨k.toNat, by omega⟩
    have hn1 : 1 ≤ n := by omega
    have hn8 : n ≤ 8 := by omega
    have hn9 : (0 : Int) ≤ (n : Int) := by omega
    have hn10 : (n : Int) < 9 := by omega
    have HA := Lib.hid ha
    have HE := Lib.hid (show accL n c = wordL n ++ (if 0 < c then numL c else []) by unfold accL; rw [ha]; rfl)
    clear ha
    by_cases hc : 0 < c
    · have HE1 := Lib.hid (show accL n c = wordL n ++ numL c by rw [HE.out, if_pos hc])
      clear hr HE
      go_enter Tryz.func48, Tryz.ntmps48
      go_wp2_with fail
      refine (i_AccOk _ _ _).mono ?_
      rintro e w1 ⟨rfl, hb1⟩
      have z1 := hb1.size
      try simp at z1
      rw [HA.out]
      obtain ⟨jh, j0, j1, jf, jz⟩ := own2 (g := w.heap.size) hb1 (by first | omega | (simp; omega) | (simp; done)) (by (first | ((repeat' first | (with_reducible (first | assumption | (refine heap_at ?_; (first | rfl | (simp; done))) | refine heap_drew ?_ | refine heap_drewN ?_ | refine heap_past ?_ ?_ | refine heap_far ?_ ?_)) | (simp; done) | (simp; omega)); done) | (repeat' first | assumption | (refine heap_at ?_; (simp; done)) | refine heap_drew ?_ | refine heap_drewN ?_ | (refine heap_past ?_ ?_ <;> try (simp; done)) | (refine heap_far ?_ ?_ <;> try (simp; done)))))
      go_wp2_with fail
      go_region_with (first | (go_at_call 56; refine (i_words n _ (HLD.out.below (by (first | ((repeat' first | (with_reducible (first | exact Below.refl _ _ | assumption | refine Below.setCell ?_ ?_ _ | refine Below.alloc ?_ ?_ _ | refine Below.drew ?_ | refine below_drewN ?_ _ | refine Below.trans ?_ (Below.mono (by assumption) ?_))) | omega | (simp; omega) | (simp; done)); done) | (repeat' first | exact Below.refl _ _ | assumption | refine Below.setCell ?_ (by first | omega | (simp; omega) | (simp; done)) _ | refine Below.alloc ?_ (by first | omega | (simp; omega) | (simp; done)) _ | refine Below.drew ?_ | refine below_drewN ?_ _ | refine Below.trans ?_ (Below.mono (by assumption) (by first | omega | (simp; omega) | (simp; done))))))) (by omega)).mono ?_; rintro e w2 ⟨rfl, hcell, hb2⟩; have z2 := hb2.size; (try simp at z2); obtain ⟨s0, hs0', hs0⟩ := str_of (wordL n); rw [hs0'] at hcell; (try simp at hcell); clear hs0'; obtain ⟨kh, k0, k1, kf, kz⟩ := own2 (g := w.heap.size) hb2 (by first | omega | (simp; omega) | (simp; done)) (by (first | ((repeat' first | (with_reducible (first | assumption | (refine heap_at ?_; (first | rfl | (simp; done))) | refine heap_drew ?_ | refine heap_drewN ?_ | refine heap_past ?_ ?_ | refine heap_far ?_ ?_)) | (simp; done) | (simp; omega)); done) | (repeat' first | assumption | (refine heap_at ?_; (simp; done)) | refine heap_drew ?_ | refine heap_drewN ?_ | (refine heap_past ?_ ?_ <;> try (simp; done)) | (refine heap_far ?_ ?_ <;> try (simp; done)))))))
      all_goals
        go_wp2_with fail
        refine (i_NumText _ _ (HLD.out.below (by (first | ((repeat' first | (with_reducible (first | exact Below.refl _ _ | assumption | refine Below.setCell ?_ ?_ _ | refine Below.alloc ?_ ?_ _ | refine Below.drew ?_ | refine below_drewN ?_ _ | refine Below.trans ?_ (Below.mono (by assumption) ?_))) | omega | (simp; omega) | (simp; done)); done) | (repeat' first | exact Below.refl _ _ | assumption | refine Below.setCell ?_ (by first | omega | (simp; omega) | (simp; done)) _ | refine Below.alloc ?_ (by first | omega | (simp; omega) | (simp; done)) _ | refine Below.drew ?_ | refine below_drewN ?_ _ | refine Below.trans ?_ (Below.mono (by assumption) (by first | omega | (simp; omega) | (simp; done)))))))).mono ?_
        rintro e w3 ⟨rfl, hb3⟩
        have z3 := hb3.size
        obtain ⟨s1, hs1', hs1⟩ := str_of (numL c)
        rw [hs1']
        clear hs1'
        obtain ⟨t, ht, hadd⟩ := str_add hs0.out hs1.out (by have := numL_len c; have := wordL_len n; omega)
        go_wp2_with fail
        go_ret
        refine ⟨?_, by (first | ((repeat' first | (with_reducible (first | exact Below.refl _ _ | assumption | refine Below.setCell ?_ ?_ _ | refine Below.alloc ?_ ?_ _ | refine Below.drew ?_ | refine below_drewN ?_ _ | refine Below.trans ?_ (Below.mono (by assumption) ?_))) | omega | (simp; omega) | (simp; done)); done) | (repeat' first | exact Below.refl _ _ | assumption | refine Below.setCell ?_ (by first | omega | (simp; omega) | (simp; done)) _ | refine Below.alloc ?_ (by first | omega | (simp; omega) | (simp; done)) _ | refine Below.drew ?_ | refine below_drewN ?_ _ | refine Below.trans ?_ (Below.mono (by assumption) (by first | omega | (simp; omega) | (simp; done)))))⟩
        show Ending.returned (.string t) = _
        rw [ht.out, HE1.out]
    · have HE1 := Lib.hid (show accL n c = wordL n by rw [HE.out, if_neg hc, List.append_nil])
      have hc0 : c = 0 := by omega
      subst hc0
      clear hr HE hc
      go_enter Tryz.func48, Tryz.ntmps48
      go_wp2_with fail
      refine (i_AccOk _ _ _).mono ?_
      rintro e w1 ⟨rfl, hb1⟩
      have z1 := hb1.size
      try simp at z1
      rw [HA.out]
      obtain ⟨jh, j0, j1, jf, jz⟩ := own2 (g := w.heap.size) hb1 (by first | omega | (simp; omega) | (simp; done)) (by (first | ((repeat' first | (with_reducible (first | assumption | (refine heap_at ?_; (first | rfl | (simp; done))) | refine heap_drew ?_ | refine heap_drewN ?_ | refine heap_past ?_ ?_ | refine heap_far ?_ ?_)) | (simp; done) | (simp; omega)); done) | (repeat' first | assumption | (refine heap_at ?_; (simp; done)) | refine heap_drew ?_ | refine heap_drewN ?_ | (refine heap_past ?_ ?_ <;> try (simp; done)) | (refine heap_far ?_ ?_ <;> try (simp; done)))))
      go_wp2_with fail
      go_region_with (first | (go_at_call 56; refine (i_words n _ (HLD.out.below (by (first | ((repeat' first | (with_reducible (first | exact Below.refl _ _ | assumption | refine Below.setCell ?_ ?_ _ | refine Below.alloc ?_ ?_ _ | refine Below.drew ?_ | refine below_drewN ?_ _ | refine Below.trans ?_ (Below.mono (by assumption) ?_))) | omega | (simp; omega) | (simp; done)); done) | (repeat' first | exact Below.refl _ _ | assumption | refine Below.setCell ?_ (by first | omega | (simp; omega) | (simp; done)) _ | refine Below.alloc ?_ (by first | omega | (simp; omega) | (simp; done)) _ | refine Below.drew ?_ | refine below_drewN ?_ _ | refine Below.trans ?_ (Below.mono (by assumption) (by first | omega | (simp; omega) | (simp; done))))))) (by omega)).mono ?_; rintro e w2 ⟨rfl, hcell, hb2⟩; have z2 := hb2.size; (try simp at z2); obtain ⟨s0, hs0', hs0⟩ := str_of (wordL n); rw [hs0'] at hcell; (try simp at hcell); clear hs0'; obtain ⟨kh, k0, k1, kf, kz⟩ := own2 (g := w.heap.size) hb2 (by first | omega | (simp; omega) | (simp; done)) (by (first | ((repeat' first | (with_reducible (first | assumption | (refine heap_at ?_; (first | rfl | (simp; done))) | refine heap_drew ?_ | refine heap_drewN ?_ | refine heap_past ?_ ?_ | refine heap_far ?_ ?_)) | (simp; done) | (simp; omega)); done) | (repeat' first | assumption | (refine heap_at ?_; (simp; done)) | refine heap_drew ?_ | refine heap_drewN ?_ | (refine heap_past ?_ ?_ <;> try (simp; done)) | (refine heap_far ?_ ?_ <;> try (simp; done)))))))
      all_goals
        go_wp2_with fail
        go_ret
        refine ⟨?_, by (first | ((repeat' first | (with_reducible (first | exact Below.refl _ _ | assumption | refine Below.setCell ?_ ?_ _ | refine Below.alloc ?_ ?_ _ | refine Below.drew ?_ | refine below_drewN ?_ _ | refine Below.trans ?_ (Below.mono (by assumption) ?_))) | omega | (simp; omega) | (simp; done)); done) | (repeat' first | exact Below.refl _ _ | assumption | refine Below.setCell ?_ (by first | omega | (simp; omega) | (simp; done)) _ | refine Below.alloc ?_ (by first | omega | (simp; omega) | (simp; done)) _ | refine Below.drew ?_ | refine below_drewN ?_ _ | refine Below.trans ?_ (Below.mono (by assumption) (by first | omega | (simp; omega) | (simp; done)))))⟩
        show Ending.returned (.string s0) = _
        rw [hs0.out, HE1.out]
set_option maxRecDepth 100000 in
set_option maxHeartbeats 1000000 in
theorem s_AccText (k c : Int) (w : World) : Calls Tryz.prog 53 #[.agg #[.int .i64 k, .int .i64 c]] w fun e w' => e = .returned (.string ⟨(accL k c).toArray⟩) ∧ Below w.heap.size w w' := by
  cases ha : accB k c
  · have HE := Lib.hid (show accL k c = [] by unfold accL; rw [ha]; rfl)
    have HA := Lib.hid ha
    clear ha
    go_enter Tryz.func53, Tryz.ntmps53
    go_wp2_with fail
    refine (s_AccOk _ _ _).mono ?_
    rintro e w1 ⟨rfl, hb1⟩
    have z1 := hb1.size
    try simp at z1
    rw [HA.out]
    go_wp2_with fail
    go_ret
    exact ⟨by rw [HE.out]; rfl, by (first | ((repeat' first | (with_reducible (first | exact Below.refl _ _ | assumption | refine Below.setCell ?_ ?_ _ | refine Below.alloc ?_ ?_ _ | refine Below.drew ?_ | refine below_drewN ?_ _ | refine Below.trans ?_ (Below.mono (by assumption) ?_))) | omega | (simp; omega) | (simp; done)); done) | (repeat' first | exact Below.refl _ _ | assumption | refine Below.setCell ?_ (by first | omega | (simp; omega) | (simp; done)) _ | refine Below.alloc ?_ (by first | omega | (simp; omega) | (simp; done)) _ | refine Below.drew ?_ | refine below_drewN ?_ _ | refine Below.trans ?_ (Below.mono (by assumption) (by first | omega | (simp; omega) | (simp; done)))))⟩
  · have HA := Lib.hid ha
    rcases accB_iff.1 ha with ⟨hk, hc⟩ | ⟨hk, rfl⟩
    · have HE := Lib.hid (accL_high hk hc)
      have hk3 : k = 6 ∨ k = 7 ∨ k = 8 := by omega
      clear ha hk
      rcases hk3 with rfl | rfl | rfl
      · go_enter Tryz.func53, Tryz.ntmps53
        go_wp2_with fail
        refine (s_AccOk _ _ _).mono ?_
        rintro e w1 ⟨rfl, hb1⟩
        have z1 := hb1.size
        try simp at z1
        rw [HA.out]
        obtain ⟨jh, j0, j1, jf, jz⟩ := own2 (g := w.heap.size) hb1 (by first | omega | (simp; omega) | (simp; done)) (by (first | ((repeat' first | (with_reducible (first | assumption | (refine heap_at ?_; (first | rfl | (simp; done))) | refine heap_drew ?_ | refine heap_drewN ?_ | refine heap_past ?_ ?_ | refine heap_far ?_ ?_)) | (simp; done) | (simp; omega)); done) | (repeat' first | assumption | (refine heap_at ?_; (simp; done)) | refine heap_drew ?_ | refine heap_drewN ?_ | (refine heap_past ?_ ?_ <;> try (simp; done)) | (refine heap_far ?_ ?_ <;> try (simp; done)))))
        go_wp2_with fail
        refine (s_NumText _ _).mono ?_
        rintro e w3 ⟨rfl, hb3⟩
        have z3 := hb3.size
        (try simp at z3)
        obtain ⟨s1, hs1', hs1⟩ := str_of (numL c)
        rw [hs1']
        clear hs1'
        obtain ⟨t, ht, hadd⟩ := str_add (str_lit (l := wordL 6) (s := ⟨#[108, 111, 99, 97, 108]⟩) rfl) hs1.out (by have := numL_len c; have := wordL_len 6; omega)
        go_wp2_with fail
        go_ret
        refine ⟨?_, by (first | ((repeat' first | (with_reducible (first | exact Below.refl _ _ | assumption | refine Below.setCell ?_ ?_ _ | refine Below.alloc ?_ ?_ _ | refine Below.drew ?_ | refine below_drewN ?_ _ | refine Below.trans ?_ (Below.mono (by assumption) ?_))) | omega | (simp; omega) | (simp; done)); done) | (repeat' first | exact Below.refl _ _ | assumption | refine Below.setCell ?_ (by first | omega | (simp; omega) | (simp; done)) _ | refine Below.alloc ?_ (by first | omega | (simp; omega) | (simp; done)) _ | refine Below.drew ?_ | refine below_drewN ?_ _ | refine Below.trans ?_ (Below.mono (by assumption) (by first | omega | (simp; omega) | (simp; done)))))⟩
        show Ending.returned (.string t) = _
        rw [ht.out, HE.out]
      · go_enter Tryz.func53, Tryz.ntmps53
        go_wp2_with fail
        refine (s_AccOk _ _ _).mono ?_
        rintro e w1 ⟨rfl, hb1⟩
        have z1 := hb1.size
        try simp at z1
        rw [HA.out]
        obtain ⟨jh, j0, j1, jf, jz⟩ := own2 (g := w.heap.size) hb1 (by first | omega | (simp; omega) | (simp; done)) (by (first | ((repeat' first | (with_reducible (first | assumption | (refine heap_at ?_; (first | rfl | (simp; done))) | refine heap_drew ?_ | refine heap_drewN ?_ | refine heap_past ?_ ?_ | refine heap_far ?_ ?_)) | (simp; done) | (simp; omega)); done) | (repeat' first | assumption | (refine heap_at ?_; (simp; done)) | refine heap_drew ?_ | refine heap_drewN ?_ | (refine heap_past ?_ ?_ <;> try (simp; done)) | (refine heap_far ?_ ?_ <;> try (simp; done)))))
        go_wp2_with fail
        refine (s_NumText _ _).mono ?_
        rintro e w3 ⟨rfl, hb3⟩
        have z3 := hb3.size
        (try simp at z3)
        obtain ⟨s1, hs1', hs1⟩ := str_of (numL c)
        rw [hs1']
        clear hs1'
        obtain ⟨t, ht, hadd⟩ := str_add (str_lit (l := wordL 7) (s := ⟨#[105, 110]⟩) rfl) hs1.out (by have := numL_len c; have := wordL_len 7; omega)
        go_wp2_with fail
        go_ret
        refine ⟨?_, by (first | ((repeat' first | (with_reducible (first | exact Below.refl _ _ | assumption | refine Below.setCell ?_ ?_ _ | refine Below.alloc ?_ ?_ _ | refine Below.drew ?_ | refine below_drewN ?_ _ | refine Below.trans ?_ (Below.mono (by assumption) ?_))) | omega | (simp; omega) | (simp; done)); done) | (repeat' first | exact Below.refl _ _ | assumption | refine Below.setCell ?_ (by first | omega | (simp; omega) | (simp; done)) _ | refine Below.alloc ?_ (by first | omega | (simp; omega) | (simp; done)) _ | refine Below.drew ?_ | refine below_drewN ?_ _ | refine Below.trans ?_ (Below.mono (by assumption) (by first | omega | (simp; omega) | (simp; done)))))⟩
        show Ending.returned (.string t) = _
        rw [ht.out, HE.out]
      · go_enter Tryz.func53, Tryz.ntmps53
        go_wp2_with fail
        refine (s_AccOk _ _ _).mono ?_
        rintro e w1 ⟨rfl, hb1⟩
        have z1 := hb1.size
        try simp at z1
        rw [HA.out]
        obtain ⟨jh, j0, j1, jf, jz⟩ := own2 (g := w.heap.size) hb1 (by first | omega | (simp; omega) | (simp; done)) (by (first | ((repeat' first | (with_reducible (first | assumption | (refine heap_at ?_; (first | rfl | (simp; done))) | refine heap_drew ?_ | refine heap_drewN ?_ | refine heap_past ?_ ?_ | refine heap_far ?_ ?_)) | (simp; done) | (simp; omega)); done) | (repeat' first | assumption | (refine heap_at ?_; (simp; done)) | refine heap_drew ?_ | refine heap_drewN ?_ | (refine heap_past ?_ ?_ <;> try (simp; done)) | (refine heap_far ?_ ?_ <;> try (simp; done)))))
        go_wp2_with fail
        refine (s_NumText _ _).mono ?_
        rintro e w3 ⟨rfl, hb3⟩
        have z3 := hb3.size
        (try simp at z3)
        obtain ⟨s1, hs1', hs1⟩ := str_of (numL c)
        rw [hs1']
        clear hs1'
        obtain ⟨t, ht, hadd⟩ := str_add (str_lit (l := wordL 8) (s := ⟨#[111, 117, 116]⟩) rfl) hs1.out (by have := numL_len c; have := wordL_len 8; omega)
        go_wp2_with fail
        go_ret
        refine ⟨?_, by (first | ((repeat' first | (with_reducible (first | exact Below.refl _ _ | assumption | refine Below.setCell ?_ ?_ _ | refine Below.alloc ?_ ?_ _ | refine Below.drew ?_ | refine below_drewN ?_ _ | refine Below.trans ?_ (Below.mono (by assumption) ?_))) | omega | (simp; omega) | (simp; done)); done) | (repeat' first | exact Below.refl _ _ | assumption | refine Below.setCell ?_ (by first | omega | (simp; omega) | (simp; done)) _ | refine Below.alloc ?_ (by first | omega | (simp; omega) | (simp; done)) _ | refine Below.drew ?_ | refine below_drewN ?_ _ | refine Below.trans ?_ (Below.mono (by assumption) (by first | omega | (simp; omega) | (simp; done)))))⟩
        show Ending.returned (.string t) = _
        rw [ht.out, HE.out]
    · have HE := Lib.hid (accL_low hk)
      have hk5 : k = 1 ∨ k = 2 ∨ k = 3 ∨ k = 4 ∨ k = 5 := by omega
      clear ha hk
      rcases hk5 with rfl | rfl | rfl | rfl | rfl
      all_goals
        go_enter Tryz.func53, Tryz.ntmps53
        go_wp2_with fail
        refine (s_AccOk _ _ _).mono ?_
        rintro e w1 ⟨rfl, hb1⟩
        have z1 := hb1.size
        try simp at z1
        rw [HA.out]
        obtain ⟨jh, j0, j1, jf, jz⟩ := own2 (g := w.heap.size) hb1 (by first | omega | (simp; omega) | (simp; done)) (by (first | ((repeat' first | (with_reducible (first | assumption | (refine heap_at ?_; (first | rfl | (simp; done))) | refine heap_drew ?_ | refine heap_drewN ?_ | refine heap_past ?_ ?_ | refine heap_far ?_ ?_)) | (simp; done) | (simp; omega)); done) | (repeat' first | assumption | (refine heap_at ?_; (simp; done)) | refine heap_drew ?_ | refine heap_drewN ?_ | (refine heap_past ?_ ?_ <;> try (simp; done)) | (refine heap_far ?_ ?_ <;> try (simp; done)))))
        go_wp2_with fail
        go_ret
        refine ⟨?_, by (first | ((repeat' first | (with_reducible (first | exact Below.refl _ _ | assumption | refine Below.setCell ?_ ?_ _ | refine Below.alloc ?_ ?_ _ | refine Below.drew ?_ | refine below_drewN ?_ _ | refine Below.trans ?_ (Below.mono (by assumption) ?_))) | omega | (simp; omega) | (simp; done)); done) | (repeat' first | exact Below.refl _ _ | assumption | refine Below.setCell ?_ (by first | omega | (simp; omega) | (simp; done)) _ | refine Below.alloc ?_ (by first | omega | (simp; omega) | (simp; done)) _ | refine Below.drew ?_ | refine below_drewN ?_ _ | refine Below.trans ?_ (Below.mono (by assumption) (by first | omega | (simp; omega) | (simp; done)))))⟩
        rw [HE.out]
        rfl
end Go.Proofs.YtgpledgjpjifcaaGreatDoor
