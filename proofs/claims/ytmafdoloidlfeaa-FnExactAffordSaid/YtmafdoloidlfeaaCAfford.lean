/- The program's Afford returns what the reference's returns, and memory of its own, for all arguments; no condition. -/
import Derived.Test.YtmafdoloidlfeaaRows
import Derived.Test.YtmafdoloidlfeaaAffordS
import Derived.Test.YtmafdoloidlfeaaCoinM
import Derived.Deep.RegionHeld3
namespace Go.Proofs.Ytmafdoloidlfeaa
open Go.ChangeShapes Go.WideShapes Go.ChangeAt Go.RowKit

theorem sizeUp (w : World) (o : Obj) : (w.alloc o).heap.size = w.heap.size + 1 := by simp
theorem lx_sum (a b : Nat) (h : (a : Int) + b ≤ 1048576) : decide ((1 : Int) + (a * 2 : Nat) + (b * 4 : Nat) < 0) = false ∧ (1 : Int) + (a * 2 : Nat) ≤ 1099511627776 := ⟨decide_eq_false (by omega), by omega⟩
set_option maxRecDepth 100000 in
set_option maxHeartbeats 4000000 in
theorem l_FnExactAfford (c s at_ : Int) (l : List Coin) (ms : List Move) (A A2 : Option Addr) (cap cap2 : Nat) (w : World) (hm : l.length ≤ maxLen) (hm2 : ms.length ≤ maxLen) (hat : (Lit.int .i64 at_).wf = true) (hr : Rd w w.heap.size 2 A (l.map Coin.cells)) (hr2 : Rd w w.heap.size 4 A2 (ms.map Move.cells)) :
    Calls Try.prog 5 #[.agg #[.int .i64 c, .int .i64 s, .slice A l.length cap], .int .i64 at_, .slice A2 ms.length cap2] w fun e w' => e = .returned (.bool true) ∧ Below w.heap.size w w' := by
  have HR := Lib.hid hr
  have HR2 := Lib.hid hr2
  have HM := Lib.hid hm
  have HM2 := Lib.hid hm2
  have HAT := Lib.hid hat
  clear hr hr2 hm hm2 hat
  by_cases hl : l.length ≤ 1048576
  · by_cases hs : (l.length : Int) + ms.length ≤ 1048576
    · have hl2' : ms.length ≤ 1048576 := by omega
      obtain ⟨l2, HS, HI, hl2⟩ : ∃ l2 : List Move, Hid (∀ (A A2 : Option Addr) (cap cap2 : Nat) (W : World), Rd W W.heap.size 2 A (l.map Coin.cells) → Rd W W.heap.size 4 A2 (ms.map Move.cells) → Calls Try.prog 20 #[.agg #[.int .i64 c, .int .i64 s, .slice A l.length cap], .int .i64 at_, .slice A2 ms.length cap2] W (fun e w' => ∃ A cap, e = .returned (.slice A l2.length cap) ∧ Ow w' W.heap.size 92 4 (.slice A l2.length cap) (l2.map Move.cells) ∧ Below W.heap.size W w')) ∧ Hid (∀ (A A2 : Option Addr) (cap cap2 : Nat) (W : World), Rd W W.heap.size 2 A (l.map Coin.cells) → Rd W W.heap.size 4 A2 (ms.map Move.cells) → Calls Try.prog 23 #[.agg #[.int .i64 c, .int .i64 s, .slice A l.length cap], .int .i64 at_, .slice A2 ms.length cap2] W (fun e w' => ∃ A cap, e = .returned (.slice A l2.length cap) ∧ Ow w' W.heap.size 92 4 (.slice A l2.length cap) (l2.map Move.cells) ∧ Below W.heap.size W w')) ∧ l2.length ≤ 1048576 :=
        ⟨affordR c s at_ l ms, Lib.hid fun A A2 cap cap2 W h1 h2 => s_Afford c s at_ l ms A A2 cap cap2 W hl hl2' h1 h2, Lib.hid fun A A2 cap cap2 W h1 h2 => i_Afford c s at_ l ms A A2 cap cap2 W hl hl2' (wf_i64_le HAT.out).2 h1 h2, Nat.le_trans (affordR_len c s at_ l ms (fun h => purseOk_le h)) hl2'⟩
      obtain ⟨L1, hL1, hL1a, hL1b⟩ : ∃ L1 : Int, (1 : Int) + ((l.map Coin.cells).length * 2 : Nat) = L1 ∧ 0 ≤ L1 ∧ L1 ≤ 1099511627776 := ⟨_, rfl, by omega, by rw [List.length_map]; omega⟩
      obtain ⟨Lx, hLx, hLx0⟩ : ∃ Lx : Int, L1 + ((ms.map Move.cells).length * 4 : Nat) = Lx ∧ decide (Lx < 0) = false := ⟨_, rfl, decide_eq_false (by omega)⟩
      obtain ⟨Lg, hLg, hLg0⟩ : ∃ Lg : Int, (1 : Int) + (l2.length * 4 : Nat) = Lg ∧ decide (Lg < 0) = false := ⟨_, rfl, by simp; omega⟩
      have HL1 := Lib.hid hL1
      have HLX := Lib.hid hLx
      have HLG := Lib.hid hLg
      clear hL1 hLx hLg
      go_enter Try.func5, Try.ntmps5
      go_wp2_with fail
      refine (l_szPurse_ok _ _ _ _ _ _ _ (by omega) (by omega)).mono ?_
      rintro e w1 ⟨rfl, hb1⟩
      have z1 := hb1.size
      try simp at z1
      obtain ⟨aah, aa0, aa1, aa2, aaf, aaz⟩ := own3 (g := w.heap.size) hb1 (by first | omega | (simp; omega) | (simp; done)) (by (first | ((repeat' first | (with_reducible (first | assumption | (refine heap_at ?_; (first | rfl | (simp; done))) | refine heap_drew ?_ | refine heap_drewN ?_ | refine heap_past ?_ ?_ | refine heap_far ?_ ?_)) | (simp; done) | (simp; omega)); done) | (repeat' first | assumption | (refine heap_at ?_; (simp; done)) | refine heap_drew ?_ | refine heap_drewN ?_ | (refine heap_past ?_ ?_ <;> try (simp; done)) | (refine heap_far ?_ ?_ <;> try (simp; done)))))
      go_wp2_with fail
      refine (l_szMoveS_ok _ _ _ _ _ (by omega) (by omega)).mono ?_
      rintro e w' ⟨rfl, rfl⟩
      go_wp2_with fail
      refine (l_toPurse _ _ l _ _ _ hl ((HR.out.below (by (first | ((repeat' first | (with_reducible (first | exact Below.refl _ _ | assumption | refine Below.setCell ?_ ?_ _ | refine Below.alloc ?_ ?_ _ | refine Below.drew ?_ | refine below_drewN ?_ _ | refine Below.trans ?_ (Below.mono (by assumption) ?_))) | omega | (simp; omega) | (simp; done)); done) | (repeat' first | exact Below.refl _ _ | assumption | refine Below.setCell ?_ (by first | omega | (simp; omega) | (simp; done)) _ | refine Below.alloc ?_ (by first | omega | (simp; omega) | (simp; done)) _ | refine Below.drew ?_ | refine below_drewN ?_ _ | refine Below.trans ?_ (Below.mono (by assumption) (by first | omega | (simp; omega) | (simp; done))))))).more (by first | omega | (simp; omega) | (simp; done)))).mono ?_
      rintro e w2 ⟨rfl, how2, hb2⟩
      have z2 := hb2.size
      have HO2 := Lib.hid how2.rd
      clear how2
      obtain ⟨abh, ab0, ab1, ab2, abf, abz⟩ := own3 (g := w.heap.size) hb2 (by first | omega | (simp; omega) | (simp; done)) (by (first | ((repeat' first | (with_reducible (first | assumption | (refine heap_at ?_; (first | rfl | (simp; done))) | refine heap_drew ?_ | refine heap_drewN ?_ | refine heap_past ?_ ?_ | refine heap_far ?_ ?_)) | (simp; done) | (simp; omega)); done) | (repeat' first | assumption | (refine heap_at ?_; (simp; done)) | refine heap_drew ?_ | refine heap_drewN ?_ | (refine heap_past ?_ ?_ <;> try (simp; done)) | (refine heap_far ?_ ?_ <;> try (simp; done)))))
      clear aah aa0 aa1 aa2 aaf aaz
      go_wp2_with fail
      refine (l_toMoveS ms _ _ _ hl2' ((HR2.out.below (by (first | ((repeat' first | (with_reducible (first | exact Below.refl _ _ | assumption | refine Below.setCell ?_ ?_ _ | refine Below.alloc ?_ ?_ _ | refine Below.drew ?_ | refine below_drewN ?_ _ | refine Below.trans ?_ (Below.mono (by assumption) ?_))) | omega | (simp; omega) | (simp; done)); done) | (repeat' first | exact Below.refl _ _ | assumption | refine Below.setCell ?_ (by first | omega | (simp; omega) | (simp; done)) _ | refine Below.alloc ?_ (by first | omega | (simp; omega) | (simp; done)) _ | refine Below.drew ?_ | refine below_drewN ?_ _ | refine Below.trans ?_ (Below.mono (by assumption) (by first | omega | (simp; omega) | (simp; done))))))).more (by first | omega | (simp; omega) | (simp; done)))).mono ?_
      rintro e w3 ⟨rfl, how3, hb3⟩
      have z3 := hb3.size
      have HO3 := Lib.hid how3.rd
      clear how3
      obtain ⟨ach, ac0, ac1, ac2, acf, acz⟩ := own3 (g := w.heap.size) hb3 (by first | omega | (simp; omega) | (simp; done)) (by (first | ((repeat' first | (with_reducible (first | assumption | (refine heap_at ?_; (first | rfl | (simp; done))) | refine heap_drew ?_ | refine heap_drewN ?_ | refine heap_past ?_ ?_ | refine heap_far ?_ ?_)) | (simp; done) | (simp; omega)); done) | (repeat' first | assumption | (refine heap_at ?_; (simp; done)) | refine heap_drew ?_ | refine heap_drewN ?_ | (refine heap_past ?_ ?_ <;> try (simp; done)) | (refine heap_far ?_ ?_ <;> try (simp; done)))))
      clear abh ab0 ab1 ab2 abf abz
      go_wp2_with fail
      refine (HS.out _ _ _ _ _ ((HO2.out.below (by (first | ((repeat' first | (with_reducible (first | exact Below.refl _ _ | assumption | refine Below.setCell ?_ ?_ _ | refine Below.alloc ?_ ?_ _ | refine Below.drew ?_ | refine below_drewN ?_ _ | refine Below.trans ?_ (Below.mono (by assumption) ?_))) | omega | (simp; omega) | (simp; done)); done) | (repeat' first | exact Below.refl _ _ | assumption | refine Below.setCell ?_ (by first | omega | (simp; omega) | (simp; done)) _ | refine Below.alloc ?_ (by first | omega | (simp; omega) | (simp; done)) _ | refine Below.drew ?_ | refine below_drewN ?_ _ | refine Below.trans ?_ (Below.mono (by assumption) (by first | omega | (simp; omega) | (simp; done))))))).more (by first | omega | (simp; omega) | (simp; done))) HO3.out).mono ?_
      rintro e w4 ⟨A4, cap4, rfl, how4, hb4⟩
      have z4 := hb4.size
      have OW4 := Lib.hid how4
      have bkw := Lib.hid how4.block
      clear how4
      obtain ⟨adh, ad0, ad1, ad2, adf, adz⟩ := own3 (g := w.heap.size) hb4 (by first | omega | (simp; omega) | (simp; done)) (by (first | ((repeat' first | (with_reducible (first | assumption | (refine heap_at ?_; (first | rfl | (simp; done))) | refine heap_drew ?_ | refine heap_drewN ?_ | refine heap_past ?_ ?_ | refine heap_far ?_ ?_)) | (simp; done) | (simp; omega)); done) | (repeat' first | assumption | (refine heap_at ?_; (simp; done)) | refine heap_drew ?_ | refine heap_drewN ?_ | (refine heap_past ?_ ?_ <;> try (simp; done)) | (refine heap_far ?_ ?_ <;> try (simp; done)))))
      clear ach ac0 ac1 ac2 acf acz
      go_wp2_with fail
      refine (l_toPurse _ _ l _ _ _ hl ((HR.out.below (by (first | ((repeat' first | (with_reducible (first | exact Below.refl _ _ | assumption | refine Below.setCell ?_ ?_ _ | refine Below.alloc ?_ ?_ _ | refine Below.drew ?_ | refine below_drewN ?_ _ | refine Below.trans ?_ (Below.mono (by assumption) ?_))) | omega | (simp; omega) | (simp; done)); done) | (repeat' first | exact Below.refl _ _ | assumption | refine Below.setCell ?_ (by first | omega | (simp; omega) | (simp; done)) _ | refine Below.alloc ?_ (by first | omega | (simp; omega) | (simp; done)) _ | refine Below.drew ?_ | refine below_drewN ?_ _ | refine Below.trans ?_ (Below.mono (by assumption) (by first | omega | (simp; omega) | (simp; done))))))).more (by first | omega | (simp; omega) | (simp; done)))).mono ?_
      rintro e w5 ⟨he, how5, hb5⟩
      have z5 := hb5.size
      obtain ⟨X, hX⟩ : ∃ X, w4.heap.size + 3 = X := ⟨_, rfl⟩
      simp only [hX] at he how5
      subst he
      have OX5 := Lib.hid how5
      have bx := Lib.hid how5.block
      clear how5
      obtain ⟨aeh, ae0, ae1, ae2, aef, aez⟩ := own3 (g := w.heap.size) hb5 (by first | omega | (simp; omega) | (simp; done)) (by (first | ((repeat' first | (with_reducible (first | assumption | (refine heap_at ?_; (first | rfl | (simp; done))) | refine heap_drew ?_ | refine heap_drewN ?_ | refine heap_past ?_ ?_ | refine heap_far ?_ ?_)) | (simp; done) | (simp; omega)); done) | (repeat' first | assumption | (refine heap_at ?_; (simp; done)) | refine heap_drew ?_ | refine heap_drewN ?_ | (refine heap_past ?_ ?_ <;> try (simp; done)) | (refine heap_far ?_ ?_ <;> try (simp; done)))))
      clear adh ad0 ad1 ad2 adf adz
      go_wp2_with fail
      refine (l_toMoveS ms _ _ _ hl2' ((HR2.out.below (by (first | ((repeat' first | (with_reducible (first | exact Below.refl _ _ | assumption | refine Below.setCell ?_ ?_ _ | refine Below.alloc ?_ ?_ _ | refine Below.drew ?_ | refine below_drewN ?_ _ | refine Below.trans ?_ (Below.mono (by assumption) ?_))) | omega | (simp; omega) | (simp; done)); done) | (repeat' first | exact Below.refl _ _ | assumption | refine Below.setCell ?_ (by first | omega | (simp; omega) | (simp; done)) _ | refine Below.alloc ?_ (by first | omega | (simp; omega) | (simp; done)) _ | refine Below.drew ?_ | refine below_drewN ?_ _ | refine Below.trans ?_ (Below.mono (by assumption) (by first | omega | (simp; omega) | (simp; done))))))).more (by first | omega | (simp; omega) | (simp; done)))).mono ?_
      rintro e w6 ⟨he, how6, hb6⟩
      have z6 := hb6.size
      rw [sizeUp] at z6
      rw [sizeUp] at he how6
      subst he
      have bkm := Lib.hid how6.block
      have OM6 := Lib.hid (how6.more (B' := w5.heap.size) (by omega))
      have HM6 := Lib.hid how6.rd
      clear how6
      obtain ⟨afh, af0, af1, af2, aff, afz⟩ := own3 (g := w.heap.size) hb6 (by first | omega | (simp; omega) | (simp; done)) (by (first | ((repeat' first | (with_reducible (first | assumption | (refine heap_at ?_; (first | rfl | (simp; done))) | refine heap_drew ?_ | refine heap_drewN ?_ | refine heap_past ?_ ?_ | refine heap_far ?_ ?_)) | (simp; done) | (simp; omega)); done) | (repeat' first | assumption | (refine heap_at ?_; (simp; done)) | refine heap_drew ?_ | refine heap_drewN ?_ | (refine heap_past ?_ ?_ <;> try (simp; done)) | (refine heap_far ?_ ?_ <;> try (simp; done)))))
      obtain ⟨bfh, bf0, bf1, bf2, bff, bfz⟩ := own3 (g := w5.heap.size) hb6 (by first | omega | (simp; omega) | (simp; done)) (by (first | ((repeat' first | (with_reducible (first | assumption | (refine heap_at ?_; (first | rfl | (simp; done))) | refine heap_drew ?_ | refine heap_drewN ?_ | refine heap_past ?_ ?_ | refine heap_far ?_ ?_)) | (simp; done) | (simp; omega)); done) | (repeat' first | assumption | (refine heap_at ?_; (simp; done)) | refine heap_drew ?_ | refine heap_drewN ?_ | (refine heap_past ?_ ?_ <;> try (simp; done)) | (refine heap_far ?_ ?_ <;> try (simp; done)))))
      clear aeh ae0 ae1 ae2 aef aez
      go_wp2_with fail
      refine (HI.out _ _ _ _ _ ((OX5.out.rd.below (by (first | ((repeat' first | (with_reducible (first | exact Below.refl _ _ | assumption | refine Below.setCell ?_ ?_ _ | refine Below.alloc ?_ ?_ _ | refine Below.drew ?_ | refine below_drewN ?_ _ | refine Below.trans ?_ (Below.mono (by assumption) ?_))) | omega | (simp; omega) | (simp; done)); done) | (repeat' first | exact Below.refl _ _ | assumption | refine Below.setCell ?_ (by first | omega | (simp; omega) | (simp; done)) _ | refine Below.alloc ?_ (by first | omega | (simp; omega) | (simp; done)) _ | refine Below.drew ?_ | refine below_drewN ?_ _ | refine Below.trans ?_ (Below.mono (by assumption) (by first | omega | (simp; omega) | (simp; done))))))).more (by first | omega | (simp; omega) | (simp; done))) HM6.out).mono ?_
      rintro e w7 ⟨A7, cap7, rfl, how7, hb7⟩
      have z7 := hb7.size
      have OG7 := Lib.hid how7
      have bkg := Lib.hid how7.block
      clear how7
      obtain ⟨agh, ag0, ag1, ag2, agf, agz⟩ := own3 (g := w.heap.size) hb7 (by first | omega | (simp; omega) | (simp; done)) (by (first | ((repeat' first | (with_reducible (first | assumption | (refine heap_at ?_; (first | rfl | (simp; done))) | refine heap_drew ?_ | refine heap_drewN ?_ | refine heap_past ?_ ?_ | refine heap_far ?_ ?_)) | (simp; done) | (simp; omega)); done) | (repeat' first | assumption | (refine heap_at ?_; (simp; done)) | refine heap_drew ?_ | refine heap_drewN ?_ | (refine heap_past ?_ ?_ <;> try (simp; done)) | (refine heap_far ?_ ?_ <;> try (simp; done)))))
      obtain ⟨bgh, bg0, bg1, bg2, bgf, bgz⟩ := own3 (g := w5.heap.size) hb7 (by first | omega | (simp; omega) | (simp; done)) (by (first | ((repeat' first | (with_reducible (first | assumption | (refine heap_at ?_; (first | rfl | (simp; done))) | refine heap_drew ?_ | refine heap_drewN ?_ | refine heap_past ?_ ?_ | refine heap_far ?_ ?_)) | (simp; done) | (simp; omega)); done) | (repeat' first | assumption | (refine heap_at ?_; (simp; done)) | refine heap_drew ?_ | refine heap_drewN ?_ | (refine heap_past ?_ ?_ <;> try (simp; done)) | (refine heap_far ?_ ?_ <;> try (simp; done)))))
      clear afh af0 af1 af2 aff afz bfh bf0 bf1 bf2 bff bfz
      go_wp2_with fail
      refine (l_eqMoveS l2 _ _ _ _ _ hl2 OG7.out.rd ((OW4.out.rd.below (by (first | ((repeat' first | (with_reducible (first | exact Below.refl _ _ | assumption | refine Below.setCell ?_ ?_ _ | refine Below.alloc ?_ ?_ _ | refine Below.drew ?_ | refine below_drewN ?_ _ | refine Below.trans ?_ (Below.mono (by assumption) ?_))) | omega | (simp; omega) | (simp; done)); done) | (repeat' first | exact Below.refl _ _ | assumption | refine Below.setCell ?_ (by first | omega | (simp; omega) | (simp; done)) _ | refine Below.alloc ?_ (by first | omega | (simp; omega) | (simp; done)) _ | refine Below.drew ?_ | refine below_drewN ?_ _ | refine Below.trans ?_ (Below.mono (by assumption) (by first | omega | (simp; omega) | (simp; done))))))).more (by first | omega | (simp; omega) | (simp; done)))).mono ?_
      rintro e w8 ⟨rfl, hb8⟩
      have z8 := hb8.size
      obtain ⟨ahh, ah0, ah1, ah2, ahf, ahz⟩ := own3 (g := w.heap.size) hb8 (by first | omega | (simp; omega) | (simp; done)) (by (first | ((repeat' first | (with_reducible (first | assumption | (refine heap_at ?_; (first | rfl | (simp; done))) | refine heap_drew ?_ | refine heap_drewN ?_ | refine heap_past ?_ ?_ | refine heap_far ?_ ?_)) | (simp; done) | (simp; omega)); done) | (repeat' first | assumption | (refine heap_at ?_; (simp; done)) | refine heap_drew ?_ | refine heap_drewN ?_ | (refine heap_past ?_ ?_ <;> try (simp; done)) | (refine heap_far ?_ ?_ <;> try (simp; done)))))
      obtain ⟨bhh, bh0, bh1, bh2, bhf, bhz⟩ := own3 (g := w5.heap.size) hb8 (by first | omega | (simp; omega) | (simp; done)) (by (first | ((repeat' first | (with_reducible (first | assumption | (refine heap_at ?_; (first | rfl | (simp; done))) | refine heap_drew ?_ | refine heap_drewN ?_ | refine heap_past ?_ ?_ | refine heap_far ?_ ?_)) | (simp; done) | (simp; omega)); done) | (repeat' first | assumption | (refine heap_at ?_; (simp; done)) | refine heap_drew ?_ | refine heap_drewN ?_ | (refine heap_past ?_ ?_ <;> try (simp; done)) | (refine heap_far ?_ ?_ <;> try (simp; done)))))
      clear agh ag0 ag1 ag2 agf agz bgh bg0 bg1 bg2 bgf bgz
      go_wp2_with fail
      have OX8 := Lib.hid ((OX5.out.below (w' := w8) (by (first | ((repeat' first | (with_reducible (first | exact Below.refl _ _ | assumption | refine Below.setCell ?_ ?_ _ | refine Below.alloc ?_ ?_ _ | refine Below.drew ?_ | refine below_drewN ?_ _ | refine Below.trans ?_ (Below.mono (by assumption) ?_))) | omega | (simp; omega) | (simp; done)); done) | (repeat' first | exact Below.refl _ _ | assumption | refine Below.setCell ?_ (by first | omega | (simp; omega) | (simp; done)) _ | refine Below.alloc ?_ (by first | omega | (simp; omega) | (simp; done)) _ | refine Below.drew ?_ | refine below_drewN ?_ _ | refine Below.trans ?_ (Below.mono (by assumption) (by first | omega | (simp; omega) | (simp; done))))))).more (Nat.zero_le _))
      have OG8 := Lib.hid (OG7.out.below (w' := w8) (by (first | ((repeat' first | (with_reducible (first | exact Below.refl _ _ | assumption | refine Below.setCell ?_ ?_ _ | refine Below.alloc ?_ ?_ _ | refine Below.drew ?_ | refine below_drewN ?_ _ | refine Below.trans ?_ (Below.mono (by assumption) ?_))) | omega | (simp; omega) | (simp; done)); done) | (repeat' first | exact Below.refl _ _ | assumption | refine Below.setCell ?_ (by first | omega | (simp; omega) | (simp; done)) _ | refine Below.alloc ?_ (by first | omega | (simp; omega) | (simp; done)) _ | refine Below.drew ?_ | refine below_drewN ?_ _ | refine Below.trans ?_ (Below.mono (by assumption) (by first | omega | (simp; omega) | (simp; done)))))))
      have OW8 := Lib.hid (OW4.out.below (w' := w8) (by (first | ((repeat' first | (with_reducible (first | exact Below.refl _ _ | assumption | refine Below.setCell ?_ ?_ _ | refine Below.alloc ?_ ?_ _ | refine Below.drew ?_ | refine below_drewN ?_ _ | refine Below.trans ?_ (Below.mono (by assumption) ?_))) | omega | (simp; omega) | (simp; done)); done) | (repeat' first | exact Below.refl _ _ | assumption | refine Below.setCell ?_ (by first | omega | (simp; omega) | (simp; done)) _ | refine Below.alloc ?_ (by first | omega | (simp; omega) | (simp; done)) _ | refine Below.drew ?_ | refine below_drewN ?_ _ | refine Below.trans ?_ (Below.mono (by assumption) (by first | omega | (simp; omega) | (simp; done)))))))
      have OM8 := Lib.hid (OM6.out.below (w' := w8) (by (first | ((repeat' first | (with_reducible (first | exact Below.refl _ _ | assumption | refine Below.setCell ?_ ?_ _ | refine Below.alloc ?_ ?_ _ | refine Below.drew ?_ | refine below_drewN ?_ _ | refine Below.trans ?_ (Below.mono (by assumption) ?_))) | omega | (simp; omega) | (simp; done)); done) | (repeat' first | exact Below.refl _ _ | assumption | refine Below.setCell ?_ (by first | omega | (simp; omega) | (simp; done)) _ | refine Below.alloc ?_ (by first | omega | (simp; omega) | (simp; done)) _ | refine Below.drew ?_ | refine below_drewN ?_ _ | refine Below.trans ?_ (Below.mono (by assumption) (by first | omega | (simp; omega) | (simp; done)))))))
      clear OX5 OG7 OW4 OM6 HM6
      go_region_held3 (fun w' => w'.cell? ⟨w5.heap.size, 0, none⟩ = some (.int .i64 c) ∧ w'.cell? ⟨w5.heap.size, 1, none⟩ = some (.int .i64 s) ∧ w'.cell? ⟨w5.heap.size, 2, none⟩ = some (.slice (some ⟨X, 0, none⟩) l.length l.length) ∧ w'.cell? ⟨w.heap.size, 0, none⟩ = some (.int .i64 c) ∧ w'.cell? ⟨w.heap.size, 1, none⟩ = some (.int .i64 s) ∧ w'.cell? ⟨w.heap.size, 2, none⟩ = some (.slice A l.length cap)) (first | exact ⟨bh0, bh1, bh2, ah0, ah1, ah2⟩ | exact ⟨bq0, bq1, bq2, ay0, ay1, ay2⟩ | exact ⟨bj0, bj1, bj2, aj0, aj1, aj2⟩)
        (first | (go_at_call 21; refine (l_toPurse _ _ l _ _ _ hl ((HR.out.below (by (first | ((repeat' first | (with_reducible (first | exact Below.refl _ _ | assumption | refine Below.setCell ?_ ?_ _ | refine Below.alloc ?_ ?_ _ | refine Below.drew ?_ | refine below_drewN ?_ _ | refine Below.trans ?_ (Below.mono (by assumption) ?_))) | omega | (simp; omega) | (simp; done)); done) | (repeat' first | exact Below.refl _ _ | assumption | refine Below.setCell ?_ (by first | omega | (simp; omega) | (simp; done)) _ | refine Below.alloc ?_ (by first | omega | (simp; omega) | (simp; done)) _ | refine Below.drew ?_ | refine below_drewN ?_ _ | refine Below.trans ?_ (Below.mono (by assumption) (by first | omega | (simp; omega) | (simp; done))))))).more (by first | omega | (simp; omega)))).mono ?_; rintro e w9 ⟨rfl, how9, hb9⟩; have z9 := hb9.size; (try simp at z9); have HO9 := Lib.hid how9.rd; clear how9; obtain ⟨ayh, ay0, ay1, ay2, ayf, ayz⟩ := own3 (g := w.heap.size) hb9 (by first | omega | (simp; omega) | (simp; done)) (by (first | ((repeat' first | (with_reducible (first | assumption | (refine heap_at ?_; (first | rfl | (simp; done))) | refine heap_drew ?_ | refine heap_drewN ?_ | refine heap_past ?_ ?_ | refine heap_far ?_ ?_)) | (simp; done) | (simp; omega)); done) | (repeat' first | assumption | (refine heap_at ?_; (simp; done)) | refine heap_drew ?_ | refine heap_drewN ?_ | (refine heap_past ?_ ?_ <;> try (simp; done)) | (refine heap_far ?_ ?_ <;> try (simp; done))))); obtain ⟨bqh, bq0, bq1, bq2, bqf, bqz⟩ := own3 (g := w5.heap.size) hb9 (by first | omega | (simp; omega) | (simp; done)) (by (first | ((repeat' first | (with_reducible (first | assumption | (refine heap_at ?_; (first | rfl | (simp; done))) | refine heap_drew ?_ | refine heap_drewN ?_ | refine heap_past ?_ ?_ | refine heap_far ?_ ?_)) | (simp; done) | (simp; omega)); done) | (repeat' first | assumption | (refine heap_at ?_; (simp; done)) | refine heap_drew ?_ | refine heap_drewN ?_ | (refine heap_past ?_ ?_ <;> try (simp; done)) | (refine heap_far ?_ ?_ <;> try (simp; done))))); clear ahh ah0 ah1 ah2 ahf ahz bhh bh0 bh1 bh2 bhf bhz)
               | (go_at_call 25; refine (l_eqPurse _ _ l _ _ _ _ _ hl ((OX8.out.rd.below (by (first | ((repeat' first | (with_reducible (first | exact Below.refl _ _ | assumption | refine Below.setCell ?_ ?_ _ | refine Below.alloc ?_ ?_ _ | refine Below.drew ?_ | refine below_drewN ?_ _ | refine Below.trans ?_ (Below.mono (by assumption) ?_))) | omega | (simp; omega) | (simp; done)); done) | (repeat' first | exact Below.refl _ _ | assumption | refine Below.setCell ?_ (by first | omega | (simp; omega) | (simp; done)) _ | refine Below.alloc ?_ (by first | omega | (simp; omega) | (simp; done)) _ | refine Below.drew ?_ | refine below_drewN ?_ _ | refine Below.trans ?_ (Below.mono (by assumption) (by first | omega | (simp; omega) | (simp; done))))))).more (by first | omega | (simp; omega))) ((HO9.out.below (by (first | ((repeat' first | (with_reducible (first | exact Below.refl _ _ | assumption | refine Below.setCell ?_ ?_ _ | refine Below.alloc ?_ ?_ _ | refine Below.drew ?_ | refine below_drewN ?_ _ | refine Below.trans ?_ (Below.mono (by assumption) ?_))) | omega | (simp; omega) | (simp; done)); done) | (repeat' first | exact Below.refl _ _ | assumption | refine Below.setCell ?_ (by first | omega | (simp; omega) | (simp; done)) _ | refine Below.alloc ?_ (by first | omega | (simp; omega) | (simp; done)) _ | refine Below.drew ?_ | refine below_drewN ?_ _ | refine Below.trans ?_ (Below.mono (by assumption) (by first | omega | (simp; omega) | (simp; done))))))).more (by first | omega | (simp; omega)))).mono ?_; rintro e w10 ⟨rfl, hb10⟩; have z10 := hb10.size; (try simp at z10); obtain ⟨ajh, aj0, aj1, aj2, ajf, ajz⟩ := own3 (g := w.heap.size) hb10 (by first | omega | (simp; omega) | (simp; done)) (by (first | ((repeat' first | (with_reducible (first | assumption | (refine heap_at ?_; (first | rfl | (simp; done))) | refine heap_drew ?_ | refine heap_drewN ?_ | refine heap_past ?_ ?_ | refine heap_far ?_ ?_)) | (simp; done) | (simp; omega)); done) | (repeat' first | assumption | (refine heap_at ?_; (simp; done)) | refine heap_drew ?_ | refine heap_drewN ?_ | (refine heap_past ?_ ?_ <;> try (simp; done)) | (refine heap_far ?_ ?_ <;> try (simp; done))))); obtain ⟨bjh, bj0, bj1, bj2, bjf, bjz⟩ := own3 (g := w5.heap.size) hb10 (by first | omega | (simp; omega) | (simp; done)) (by (first | ((repeat' first | (with_reducible (first | assumption | (refine heap_at ?_; (first | rfl | (simp; done))) | refine heap_drew ?_ | refine heap_drewN ?_ | refine heap_past ?_ ?_ | refine heap_far ?_ ?_)) | (simp; done) | (simp; omega)); done) | (repeat' first | assumption | (refine heap_at ?_; (simp; done)) | refine heap_drew ?_ | refine heap_drewN ?_ | (refine heap_past ?_ ?_ <;> try (simp; done)) | (refine heap_far ?_ ?_ <;> try (simp; done))))); clear ayh ay0 ay1 ay2 ayf ayz bqh bq0 bq1 bq2 bqf bqz))
      go_wp2_with fail
      have OX10 := Lib.hid (OX8.out.below (w' := w10) (by (first | ((repeat' first | (with_reducible (first | exact Below.refl _ _ | assumption | refine Below.setCell ?_ ?_ _ | refine Below.alloc ?_ ?_ _ | refine Below.drew ?_ | refine below_drewN ?_ _ | refine Below.trans ?_ (Below.mono (by assumption) ?_))) | omega | (simp; omega) | (simp; done)); done) | (repeat' first | exact Below.refl _ _ | assumption | refine Below.setCell ?_ (by first | omega | (simp; omega) | (simp; done)) _ | refine Below.alloc ?_ (by first | omega | (simp; omega) | (simp; done)) _ | refine Below.drew ?_ | refine below_drewN ?_ _ | refine Below.trans ?_ (Below.mono (by assumption) (by first | omega | (simp; omega) | (simp; done)))))))
      have OG10 := Lib.hid (OG8.out.below (w' := w10) (by (first | ((repeat' first | (with_reducible (first | exact Below.refl _ _ | assumption | refine Below.setCell ?_ ?_ _ | refine Below.alloc ?_ ?_ _ | refine Below.drew ?_ | refine below_drewN ?_ _ | refine Below.trans ?_ (Below.mono (by assumption) ?_))) | omega | (simp; omega) | (simp; done)); done) | (repeat' first | exact Below.refl _ _ | assumption | refine Below.setCell ?_ (by first | omega | (simp; omega) | (simp; done)) _ | refine Below.alloc ?_ (by first | omega | (simp; omega) | (simp; done)) _ | refine Below.drew ?_ | refine below_drewN ?_ _ | refine Below.trans ?_ (Below.mono (by assumption) (by first | omega | (simp; omega) | (simp; done)))))))
      have OW10 := Lib.hid (OW8.out.below (w' := w10) (by (first | ((repeat' first | (with_reducible (first | exact Below.refl _ _ | assumption | refine Below.setCell ?_ ?_ _ | refine Below.alloc ?_ ?_ _ | refine Below.drew ?_ | refine below_drewN ?_ _ | refine Below.trans ?_ (Below.mono (by assumption) ?_))) | omega | (simp; omega) | (simp; done)); done) | (repeat' first | exact Below.refl _ _ | assumption | refine Below.setCell ?_ (by first | omega | (simp; omega) | (simp; done)) _ | refine Below.alloc ?_ (by first | omega | (simp; omega) | (simp; done)) _ | refine Below.drew ?_ | refine below_drewN ?_ _ | refine Below.trans ?_ (Below.mono (by assumption) (by first | omega | (simp; omega) | (simp; done)))))))
      have OM10 := Lib.hid (OM8.out.below (w' := w10) (by (first | ((repeat' first | (with_reducible (first | exact Below.refl _ _ | assumption | refine Below.setCell ?_ ?_ _ | refine Below.alloc ?_ ?_ _ | refine Below.drew ?_ | refine below_drewN ?_ _ | refine Below.trans ?_ (Below.mono (by assumption) ?_))) | omega | (simp; omega) | (simp; done)); done) | (repeat' first | exact Below.refl _ _ | assumption | refine Below.setCell ?_ (by first | omega | (simp; omega) | (simp; done)) _ | refine Below.alloc ?_ (by first | omega | (simp; omega) | (simp; done)) _ | refine Below.drew ?_ | refine below_drewN ?_ _ | refine Below.trans ?_ (Below.mono (by assumption) (by first | omega | (simp; omega) | (simp; done)))))))
      have hbw10 : Below w.heap.size w w10 := by (first | ((repeat' first | (with_reducible (first | exact Below.refl _ _ | assumption | refine Below.setCell ?_ ?_ _ | refine Below.alloc ?_ ?_ _ | refine Below.drew ?_ | refine below_drewN ?_ _ | refine Below.trans ?_ (Below.mono (by assumption) ?_))) | omega | (simp; omega) | (simp; done)); done) | (repeat' first | exact Below.refl _ _ | assumption | refine Below.setCell ?_ (by first | omega | (simp; omega) | (simp; done)) _ | refine Below.alloc ?_ (by first | omega | (simp; omega) | (simp; done)) _ | refine Below.drew ?_ | refine below_drewN ?_ _ | refine Below.trans ?_ (Below.mono (by assumption) (by first | omega | (simp; omega) | (simp; done)))))
      clear OX8 OG8 OW8 OM8
      refine (l_toMoveS ms _ _ _ hl2' ((HR2.out.below (by (first | ((repeat' first | (with_reducible (first | exact Below.refl _ _ | assumption | refine Below.setCell ?_ ?_ _ | refine Below.alloc ?_ ?_ _ | refine Below.drew ?_ | refine below_drewN ?_ _ | refine Below.trans ?_ (Below.mono (by assumption) ?_))) | omega | (simp; omega) | (simp; done)); done) | (repeat' first | exact Below.refl _ _ | assumption | refine Below.setCell ?_ (by first | omega | (simp; omega) | (simp; done)) _ | refine Below.alloc ?_ (by first | omega | (simp; omega) | (simp; done)) _ | refine Below.drew ?_ | refine below_drewN ?_ _ | refine Below.trans ?_ (Below.mono (by assumption) (by first | omega | (simp; omega) | (simp; done))))))).more (by first | omega | (simp; omega) | (simp; done)))).mono ?_
      rintro e w11 ⟨rfl, how11, hb11⟩
      have z11 := hb11.size
      have HO11 := Lib.hid how11.rd
      clear how11
      obtain ⟨akh, ak0, ak1, ak2, akf, akz⟩ := own3 (g := w.heap.size) hb11 (by first | omega | (simp; omega) | (simp; done)) (by (first | ((repeat' first | (with_reducible (first | assumption | (refine heap_at ?_; (first | rfl | (simp; done))) | refine heap_drew ?_ | refine heap_drewN ?_ | refine heap_past ?_ ?_ | refine heap_far ?_ ?_)) | (simp; done) | (simp; omega)); done) | (repeat' first | assumption | (refine heap_at ?_; (simp; done)) | refine heap_drew ?_ | refine heap_drewN ?_ | (refine heap_past ?_ ?_ <;> try (simp; done)) | (refine heap_far ?_ ?_ <;> try (simp; done)))))
      obtain ⟨bkh, bk0, bk1, bk2, bkf, bkz⟩ := own3 (g := w5.heap.size) hb11 (by first | omega | (simp; omega) | (simp; done)) (by (first | ((repeat' first | (with_reducible (first | assumption | (refine heap_at ?_; (first | rfl | (simp; done))) | refine heap_drew ?_ | refine heap_drewN ?_ | refine heap_past ?_ ?_ | refine heap_far ?_ ?_)) | (simp; done) | (simp; omega)); done) | (repeat' first | assumption | (refine heap_at ?_; (simp; done)) | refine heap_drew ?_ | refine heap_drewN ?_ | (refine heap_past ?_ ?_ <;> try (simp; done)) | (refine heap_far ?_ ?_ <;> try (simp; done)))))
      clear ajh aj0 aj1 aj2 ajf ajz bjh bj0 bj1 bj2 bjf bjz
      go_wp2_with fail
      refine (l_eqMoveS ms _ _ _ _ _ hl2' ((OM10.out.rd.below (by (first | ((repeat' first | (with_reducible (first | exact Below.refl _ _ | assumption | refine Below.setCell ?_ ?_ _ | refine Below.alloc ?_ ?_ _ | refine Below.drew ?_ | refine below_drewN ?_ _ | refine Below.trans ?_ (Below.mono (by assumption) ?_))) | omega | (simp; omega) | (simp; done)); done) | (repeat' first | exact Below.refl _ _ | assumption | refine Below.setCell ?_ (by first | omega | (simp; omega) | (simp; done)) _ | refine Below.alloc ?_ (by first | omega | (simp; omega) | (simp; done)) _ | refine Below.drew ?_ | refine below_drewN ?_ _ | refine Below.trans ?_ (Below.mono (by assumption) (by first | omega | (simp; omega) | (simp; done))))))).more (by first | omega | (simp; omega) | (simp; done))) HO11.out).mono ?_
      rintro e w12 ⟨rfl, hb12⟩
      have z12 := hb12.size
      obtain ⟨alh, al0, al1, al2, alf, alz⟩ := own3 (g := w.heap.size) hb12 (by first | omega | (simp; omega) | (simp; done)) (by (first | ((repeat' first | (with_reducible (first | assumption | (refine heap_at ?_; (first | rfl | (simp; done))) | refine heap_drew ?_ | refine heap_drewN ?_ | refine heap_past ?_ ?_ | refine heap_far ?_ ?_)) | (simp; done) | (simp; omega)); done) | (repeat' first | assumption | (refine heap_at ?_; (simp; done)) | refine heap_drew ?_ | refine heap_drewN ?_ | (refine heap_past ?_ ?_ <;> try (simp; done)) | (refine heap_far ?_ ?_ <;> try (simp; done)))))
      obtain ⟨blh, bl0, bl1, bl2, blf, blz⟩ := own3 (g := w5.heap.size) hb12 (by first | omega | (simp; omega) | (simp; done)) (by (first | ((repeat' first | (with_reducible (first | assumption | (refine heap_at ?_; (first | rfl | (simp; done))) | refine heap_drew ?_ | refine heap_drewN ?_ | refine heap_past ?_ ?_ | refine heap_far ?_ ?_)) | (simp; done) | (simp; omega)); done) | (repeat' first | assumption | (refine heap_at ?_; (simp; done)) | refine heap_drew ?_ | refine heap_drewN ?_ | (refine heap_past ?_ ?_ <;> try (simp; done)) | (refine heap_far ?_ ?_ <;> try (simp; done)))))
      clear akh ak0 ak1 ak2 akf akz bkh bk0 bk1 bk2 bkf bkz
      have OX12 := Lib.hid ((OX10.out.below hb11).below hb12)
      have OG12 := Lib.hid ((OG10.out.below hb11).below hb12)
      have OW12 := Lib.hid ((OW10.out.below hb11).below hb12)
      have OM12 := Lib.hid ((OM10.out.below hb11).below hb12)
      have hbw12 : Below w.heap.size w w12 := by (first | ((repeat' first | (with_reducible (first | exact Below.refl _ _ | assumption | refine Below.setCell ?_ ?_ _ | refine Below.alloc ?_ ?_ _ | refine Below.drew ?_ | refine below_drewN ?_ _ | refine Below.trans ?_ (Below.mono (by assumption) ?_))) | omega | (simp; omega) | (simp; done)); done) | (repeat' first | exact Below.refl _ _ | assumption | refine Below.setCell ?_ (by first | omega | (simp; omega) | (simp; done)) _ | refine Below.alloc ?_ (by first | omega | (simp; omega) | (simp; done)) _ | refine Below.drew ?_ | refine below_drewN ?_ _ | refine Below.trans ?_ (Below.mono (by assumption) (by first | omega | (simp; omega) | (simp; done)))))
      clear OX10 OG10 OW10 OM10
      go_wp2_with fail
      refine (l_markPurse 0 _ _ _ (l.map Coin.cells) _ _ (by decide) (by decide) (by rw [List.length_map]; exact hl) OX12.out).mono ?_
      rintro e w13 ⟨he, -, hgr13⟩
      rw [HL1.out] at he
      subst he
      have hgr13' : w12.grownBy w13 (some X) := hgr13
      have z13 := hgr13'.size
      have hxx := bx.out X rfl
      obtain ⟨amh, am0, am1, am2, amf, amz⟩ := ownG3 hgr13' (by simp; omega) alh
      have OG13 := Lib.hid (OG12.out.grown hgr13' (.inr (fun e => by have := bkg.out _ e; omega)))
      have OW13 := Lib.hid (OW12.out.grown hgr13' (.inr (fun e => by have := bkw.out _ e; omega)))
      have OM13 := Lib.hid (OM12.out.grown hgr13' (.inr (fun e => by have := bkm.out _ e; omega)))
      have hbw13 : Below w.heap.size w w13 := hbw12.grown hgr13' (by omega) (fun k e => by cases e; omega)
      clear OX12 OG12 OW12 OM12 hgr13 hgr13'
      clear alh al0 al1 al2 alf alz blh bl0 bl1 bl2 blf blz
      go_wp2_with fail
      refine (l_markMoveS _ _ (ms.map Move.cells) _ _ hL1a hL1b (by rw [List.length_map]; exact hl2') OM13.out).mono ?_
      rintro e w14 ⟨he, -, hgr14⟩
      rw [HLX.out] at he
      subst he
      have z14 := hgr14.size
      obtain ⟨anh, an0, an1, an2, anf, anz⟩ := ownG3 hgr14 (OM13.out.ne_ amh (by decide)) amh
      have OG14 := Lib.hid (OG13.out.grown hgr14 (by
        cases hv : (Value.slice A7 l2.length cap7).ownBlock with
        | none => exact .inl rfl
        | some k =>
          refine .inr (fun e => ?_)
          have h1 := bkg.out k hv
          have h2 := bkm.out k e.symm
          omega))
      have OW14 := Lib.hid (OW13.out.grown hgr14 (by
        cases hv : (Value.slice A4 l2.length cap4).ownBlock with
        | none => exact .inl rfl
        | some k =>
          refine .inr (fun e => ?_)
          have h1 := bkw.out k hv
          have h2 := bkm.out k e.symm
          omega))
      have hbw14 : Below w.heap.size w w14 := hbw13.grown hgr14 (by omega) (fun k e => by have := (bkm.out k e).1; omega)
      clear OG13 OW13 OM13 hgr14
      clear amh am0 am1 am2 amf amz
      go_wp2_with fail
      refine (l_eqMoveS l2 _ _ _ _ _ hl2 (OG14.out.rd.more (by omega)) (OW14.out.rd.more (by omega))).mono ?_
      rintro e w15 ⟨rfl, hb15⟩
      have z15 := hb15.size
      obtain ⟨aoh, ao0, ao1, ao2, aof, aoz⟩ := own3 (g := w.heap.size) hb15 (by first | omega | (simp; omega) | (simp; done)) (by (first | ((repeat' first | (with_reducible (first | assumption | (refine heap_at ?_; (first | rfl | (simp; done))) | refine heap_drew ?_ | refine heap_drewN ?_ | refine heap_past ?_ ?_ | refine heap_far ?_ ?_)) | (simp; done) | (simp; omega)); done) | (repeat' first | assumption | (refine heap_at ?_; (simp; done)) | refine heap_drew ?_ | refine heap_drewN ?_ | (refine heap_past ?_ ?_ <;> try (simp; done)) | (refine heap_far ?_ ?_ <;> try (simp; done)))))
      have OG15 := Lib.hid (OG14.out.below hb15)
      have OW15 := Lib.hid (OW14.out.below hb15)
      have hbw15 : Below w.heap.size w w15 := by (first | ((repeat' first | (with_reducible (first | exact Below.refl _ _ | assumption | refine Below.setCell ?_ ?_ _ | refine Below.alloc ?_ ?_ _ | refine Below.drew ?_ | refine below_drewN ?_ _ | refine Below.trans ?_ (Below.mono (by assumption) ?_))) | omega | (simp; omega) | (simp; done)); done) | (repeat' first | exact Below.refl _ _ | assumption | refine Below.setCell ?_ (by first | omega | (simp; omega) | (simp; done)) _ | refine Below.alloc ?_ (by first | omega | (simp; omega) | (simp; done)) _ | refine Below.drew ?_ | refine below_drewN ?_ _ | refine Below.trans ?_ (Below.mono (by assumption) (by first | omega | (simp; omega) | (simp; done)))))
      clear OG14 OW14
      clear anh an0 an1 an2 anf anz
      go_wp2_with fail
      refine (l_markMoveS _ _ (l2.map Move.cells) _ _ (by decide) (by decide) (by rw [List.length_map]; omega) OG15.out).mono ?_
      rintro e w16 ⟨he, hmk, hgr16⟩
      rw [List.length_map] at he hmk
      rw [HLG.out] at he
      subst he
      have HMK := Lib.hid (hmk _ _ _ rfl)
      have z16 := hgr16.size
      obtain ⟨aph, ap0, ap1, ap2, apf, apz⟩ := ownG3 hgr16 (OG15.out.ne_ aoh (by decide)) aoh
      have OW16 := Lib.hid (OW15.out.grown hgr16 (by
        cases hv : (Value.slice A4 l2.length cap4).ownBlock with
        | none => exact .inl rfl
        | some k =>
          refine .inr (fun e => ?_)
          have h1 := bkw.out k hv
          have h2 := bkg.out k e.symm
          omega))
      have hbw16 : Below w.heap.size w w16 := hbw15.grown hgr16 (by omega) (fun k e => by have := (bkg.out k e).1; omega)
      clear OG15 OW15 hmk hgr16
      clear aoh ao0 ao1 ao2 aof aoz
      go_wp2_with fail
      refine (l_heldMoveS _ _ _ _ _ (by decide) (by decide) (by omega) HMK.out).mono ?_
      rintro e _ ⟨he, rfl⟩
      rw [HLG.out] at he
      subst he
      go_wp2_with fail
      refine (l_toPurse _ _ l _ _ _ hl ((HR.out.below (by (first | ((repeat' first | (with_reducible (first | exact Below.refl _ _ | assumption | refine Below.setCell ?_ ?_ _ | refine Below.alloc ?_ ?_ _ | refine Below.drew ?_ | refine below_drewN ?_ _ | refine Below.trans ?_ (Below.mono (by assumption) ?_))) | omega | (simp; omega) | (simp; done)); done) | (repeat' first | exact Below.refl _ _ | assumption | refine Below.setCell ?_ (by first | omega | (simp; omega) | (simp; done)) _ | refine Below.alloc ?_ (by first | omega | (simp; omega) | (simp; done)) _ | refine Below.drew ?_ | refine below_drewN ?_ _ | refine Below.trans ?_ (Below.mono (by assumption) (by first | omega | (simp; omega) | (simp; done))))))).more (by first | omega | (simp; omega) | (simp; done)))).mono ?_
      rintro e w17 ⟨rfl, how17, hb17⟩
      have z17 := hb17.size
      have HO17 := Lib.hid how17.rd
      clear how17
      go_wp2_with fail
      refine (l_toMoveS ms _ _ _ hl2' ((HR2.out.below (by (first | ((repeat' first | (with_reducible (first | exact Below.refl _ _ | assumption | refine Below.setCell ?_ ?_ _ | refine Below.alloc ?_ ?_ _ | refine Below.drew ?_ | refine below_drewN ?_ _ | refine Below.trans ?_ (Below.mono (by assumption) ?_))) | omega | (simp; omega) | (simp; done)); done) | (repeat' first | exact Below.refl _ _ | assumption | refine Below.setCell ?_ (by first | omega | (simp; omega) | (simp; done)) _ | refine Below.alloc ?_ (by first | omega | (simp; omega) | (simp; done)) _ | refine Below.drew ?_ | refine below_drewN ?_ _ | refine Below.trans ?_ (Below.mono (by assumption) (by first | omega | (simp; omega) | (simp; done))))))).more (by first | omega | (simp; omega) | (simp; done)))).mono ?_
      rintro e w18 ⟨rfl, how18, hb18⟩
      have z18 := hb18.size
      have HO18 := Lib.hid how18.rd
      clear how18
      go_wp2_with fail
      refine (HI.out _ _ _ _ _ ((HO17.out.below (by (first | ((repeat' first | (with_reducible (first | exact Below.refl _ _ | assumption | refine Below.setCell ?_ ?_ _ | refine Below.alloc ?_ ?_ _ | refine Below.drew ?_ | refine below_drewN ?_ _ | refine Below.trans ?_ (Below.mono (by assumption) ?_))) | omega | (simp; omega) | (simp; done)); done) | (repeat' first | exact Below.refl _ _ | assumption | refine Below.setCell ?_ (by first | omega | (simp; omega) | (simp; done)) _ | refine Below.alloc ?_ (by first | omega | (simp; omega) | (simp; done)) _ | refine Below.drew ?_ | refine below_drewN ?_ _ | refine Below.trans ?_ (Below.mono (by assumption) (by first | omega | (simp; omega) | (simp; done))))))).more (by first | omega | (simp; omega) | (simp; done))) HO18.out).mono ?_
      rintro e w19 ⟨A19, cap19, rfl, how19, hb19⟩
      have z19 := hb19.size
      have OH19 := Lib.hid how19
      clear how19
      go_wp2_with fail
      refine (l_eqMoveS l2 _ _ _ _ _ hl2 OH19.out.rd ((OW16.out.rd.below (by (first | ((repeat' first | (with_reducible (first | exact Below.refl _ _ | assumption | refine Below.setCell ?_ ?_ _ | refine Below.alloc ?_ ?_ _ | refine Below.drew ?_ | refine below_drewN ?_ _ | refine Below.trans ?_ (Below.mono (by assumption) ?_))) | omega | (simp; omega) | (simp; done)); done) | (repeat' first | exact Below.refl _ _ | assumption | refine Below.setCell ?_ (by first | omega | (simp; omega) | (simp; done)) _ | refine Below.alloc ?_ (by first | omega | (simp; omega) | (simp; done)) _ | refine Below.drew ?_ | refine below_drewN ?_ _ | refine Below.trans ?_ (Below.mono (by assumption) (by first | omega | (simp; omega) | (simp; done))))))).more (by first | omega | (simp; omega) | (simp; done)))).mono ?_
      rintro e w20 ⟨rfl, hb20⟩
      have z20 := hb20.size
      go_wp2_with fail
      refine (l_heldMoveS _ _ _ _ _ (by decide) (by decide) (by omega) (HMK.out.below (by (first | ((repeat' first | (with_reducible (first | exact Below.refl _ _ | assumption | refine Below.setCell ?_ ?_ _ | refine Below.alloc ?_ ?_ _ | refine Below.drew ?_ | refine below_drewN ?_ _ | refine Below.trans ?_ (Below.mono (by assumption) ?_))) | omega | (simp; omega) | (simp; done)); done) | (repeat' first | exact Below.refl _ _ | assumption | refine Below.setCell ?_ (by first | omega | (simp; omega) | (simp; done)) _ | refine Below.alloc ?_ (by first | omega | (simp; omega) | (simp; done)) _ | refine Below.drew ?_ | refine below_drewN ?_ _ | refine Below.trans ?_ (Below.mono (by assumption) (by first | omega | (simp; omega) | (simp; done)))))))).mono ?_
      rintro e _ ⟨he, rfl⟩
      rw [HLG.out] at he
      subst he
      go_wp2_with fail
      go_ret
      refine ⟨rfl, ?_⟩
      (first | ((repeat' first | (with_reducible (first | exact Below.refl _ _ | assumption | refine Below.setCell ?_ ?_ _ | refine Below.alloc ?_ ?_ _ | refine Below.drew ?_ | refine below_drewN ?_ _ | refine Below.trans ?_ (Below.mono (by assumption) ?_))) | omega | (simp; omega) | (simp; done)); done) | (repeat' first | exact Below.refl _ _ | assumption | refine Below.setCell ?_ (by first | omega | (simp; omega) | (simp; done)) _ | refine Below.alloc ?_ (by first | omega | (simp; omega) | (simp; done)) _ | refine Below.drew ?_ | refine below_drewN ?_ _ | refine Below.trans ?_ (Below.mono (by assumption) (by first | omega | (simp; omega) | (simp; done)))))
    · have hs' : (1048576 : Int) - l.length < ms.length := by omega
      have HS' := Lib.hid hs'
      clear hs'
      go_enter Try.func5, Try.ntmps5
      go_wp2_with fail
      refine (l_szPurse_ok _ _ _ _ _ _ _ (by omega) (by omega)).mono ?_
      rintro e w1 ⟨rfl, hb1⟩
      have z1 := hb1.size
      try simp at z1
      go_wp2_with fail
      refine (l_szMoveS_no _ _ _ _ _ (by omega) HM2.out HS'.out).mono ?_
      rintro e w' ⟨rfl, rfl⟩
      go_wp2_with fail
      go_ret
      refine ⟨rfl, ?_⟩
      (first | ((repeat' first | (with_reducible (first | exact Below.refl _ _ | assumption | refine Below.setCell ?_ ?_ _ | refine Below.alloc ?_ ?_ _ | refine Below.drew ?_ | refine below_drewN ?_ _ | refine Below.trans ?_ (Below.mono (by assumption) ?_))) | omega | (simp; omega) | (simp; done)); done) | (repeat' first | exact Below.refl _ _ | assumption | refine Below.setCell ?_ (by first | omega | (simp; omega) | (simp; done)) _ | refine Below.alloc ?_ (by first | omega | (simp; omega) | (simp; done)) _ | refine Below.drew ?_ | refine below_drewN ?_ _ | refine Below.trans ?_ (Below.mono (by assumption) (by first | omega | (simp; omega) | (simp; done)))))
  · have hl' : (1048576 : Int) < (l.length : Int) := by omega
    go_enter Try.func5, Try.ntmps5
    go_wp2_with fail
    refine (l_szPurse_no _ _ _ _ _ _ _ (by omega) HM.out hl').mono ?_
    rintro e w1 ⟨rfl, hb1⟩
    have z1 := hb1.size
    try simp at z1
    go_wp2_with fail
    go_ret
    refine ⟨rfl, ?_⟩
    (first | ((repeat' first | (with_reducible (first | exact Below.refl _ _ | assumption | refine Below.setCell ?_ ?_ _ | refine Below.alloc ?_ ?_ _ | refine Below.drew ?_ | refine below_drewN ?_ _ | refine Below.trans ?_ (Below.mono (by assumption) ?_))) | omega | (simp; omega) | (simp; done)); done) | (repeat' first | exact Below.refl _ _ | assumption | refine Below.setCell ?_ (by first | omega | (simp; omega) | (simp; done)) _ | refine Below.alloc ?_ (by first | omega | (simp; omega) | (simp; done)) _ | refine Below.drew ?_ | refine below_drewN ?_ _ | refine Below.trans ?_ (Below.mono (by assumption) (by first | omega | (simp; omega) | (simp; done)))))
theorem FnExactAfford_own : ownKnob Try.prog.godebug = none := by kernel_rfl
theorem FnExactAfford_laidOut : laidOutB Try.prog = true := by kernel_rfl
set_option maxRecDepth 100000 in
theorem FnExactAfford_lifted (os : Os) (started : os.Started) (H : Type) (enc : TypeId × Value → H) :
    ReturnsInHanded {} Try.checked os 5 .any (Rows.fnExactAffordSpec.pre6 enc Try.prog Try.f5 Rows.fnExactAffordRow.domain false) (Rows.fnExactAffordSpec.post enc Try.prog Try.f5 false true false false) := by
  refine returnsInHanded_of_change (C := Try.checked) FnExactAfford_own started (by kernel_rfl) Try.func5
    (ChangeSpec.witness6 (enc := enc) (C := Try.checked) false ⟨#[], #[.agg #[.int .i64 0, .int .i64 0, .slice none 0 0], .int .i64 0, .slice none 0 0], []⟩ 8 (by kernel_rfl) (by kernel_rfl) (by kernel_rfl) (by kernel_rfl)) ?_
  intro W base args ds gs before hval0 hW hcnd _
  have hval : ∀ (j : Nat) t v, Try.f5.params[j]? = some t → args[j]? = some v → Value.okWide Try.prog W .any base t v := hval0
  have hW' := hW
  obtain ⟨p, q, hA0, hV, rfl, hfz, hnd⟩ := hW
  have hA : DataW.TrodAll enc Try.prog W 0 (fun _ => true) true Try.f5.params.toList args.toList ds p := hA0
  rw [Try.params5] at hA hval
  obtain ⟨v0, vs0, d0, ds0, p0, q0, hargs, rfl, rfl, h0, r0⟩ := trodAll_cons hA
  obtain ⟨v1, vs1, d1, ds1, p1, q1, rfl, rfl, rfl, h1, r1⟩ := trodAll_cons r0
  obtain ⟨v2, vs2, d2, ds2, p2, q2, rfl, rfl, rfl, h2, r2⟩ := trodAll_cons r1
  obtain ⟨rfl, rfl, rfl⟩ := trodAll_nil r2
  obtain rfl : args = #[v0, v1, v2] := by cases args; simp_all
  obtain ⟨c0_0, c0_1, c0_2, y0_0, y0_1, y0_2, m0, rfl, _, _, hy0_0, hy0_1, hy0_2⟩ := Go.Joins.open_agg3 Try.underlying42 (by kernel_rfl) (by kernel_rfl) (hval 0 42 v0 rfl rfl) h0
  obtain ⟨a0_0, e0_0, _, _⟩ := DataW.trod_int Try.underlying3 hy0_0
  simp only [List.cons.injEq, and_true] at e0_0
  subst e0_0
  obtain ⟨a0_1, e0_1, _, _⟩ := DataW.trod_int Try.underlying3 hy0_1
  simp only [List.cons.injEq, and_true] at e0_1
  subst e0_1
  obtain ⟨A0, len0, cap0, rows0, rfl, hlen0, hflat0, hrd0, hlc0, hcm0⟩ := rd_of_trod' (n := 4) (ks := [true, true]) Try.underlying40 (by kernel_rfl) (by kernel_rfl) (by decide) hy0_2
  obtain ⟨l0, rfl, _⟩ := rows_of Coin.cells (fun _ => True) rows0 (fun r hr => Coin.of_flat (hflat0 r hr))
  rw [List.length_map] at hlen0
  subst hlen0
  obtain ⟨x1, rfl, _, _, w1⟩ := open_int Try.underlying3 (hval 1 3 v1 rfl rfl) h1
  obtain ⟨A2, len2, cap2, rfl⟩ := okWide_slice Try.underlying43 (hval 2 43 v2 rfl rfl)
  obtain ⟨fuel2, hf2⟩ := h2
  obtain ⟨rows2, hlen2, hflat2, hrd2, hlc2, hcm2⟩ := rd_of_trod (n := 4) (ks := [true, true, true, true]) Try.underlying43 (by kernel_rfl) (by kernel_rfl) (by decide) hf2
  obtain ⟨l2, rfl, _⟩ := rows_of Move.cells (fun _ => True) rows2 (fun r hr => Move.of_flat (hflat2 r hr))
  rw [List.length_map] at hlen2
  subst hlen2
  refine (l_FnExactAfford _ _ x1 l0 l2 A0 A2 cap0 cap2 W (by omega) (by omega) w1 hrd0 hrd2).mono fun e W' ⟨he, hb⟩ => ⟨_, he, ?_⟩
  exact law_post FnExactAfford_laidOut (by kernel_rfl) (tb := 4) rfl Try.underlying4 rfl (fun ds' hl => by match ds', hl with | [_, _, _], _ => rfl) hW' hb

theorem FnExactAfford_holds : Rows.FnExactAffordSaid :=
  OpenClaim.holds_of_wide 5 Try.f5 rfl rfl rfl rfl rfl rfl rfl ⟨rfl, rfl, rfl, rfl, rfl⟩ rfl rfl rfl rfl rfl (by kernel_rfl) Try.func5 (by kernel_rfl)
    (of_decide_eq_true (by kernel_rfl)) (by unfold Func.isWrapper; first | (rw [if_pos (by decide +kernel)]; kernel_rfl) | (rw [if_neg (by decide +kernel)]; exact ⟨rfl, rfl⟩))
    (fun os started H enc _ => FnExactAfford_lifted os started H enc)
#print axioms FnExactAfford_holds
end Go.Proofs.Ytmafdoloidlfeaa
