/- The program's Spend returns what the reference's returns, and memory of its own, for all arguments; no condition. -/
import Derived.Test.YtkgnipaponfbkaaRows
import Derived.Test.YtkgnipaponfbkaaSpendS
import Derived.Test.YtkgnipaponfbkaaCoinM
import Derived.Deep.RegionHeld3
namespace Go.Proofs.Ytkgnipaponfbkaa
open Go.ChangeShapes Go.WideShapes Go.ChangeAt Go.RowKit

theorem sizeUp (w : World) (o : Obj) : (w.alloc o).heap.size = w.heap.size + 1 := by simp
theorem spendCoins_len (c s at_ n : Int) (l : List Coin) : (spendCoins c s at_ n l).length ≤ 40 := by
  unfold spendCoins
  split
  · rename_i hc
    unfold spendCode at hc
    by_cases h1 : 40 < (spendKeep s at_ l).length + 1
    · exfalso
      simp only [h1, if_true] at hc
      split at hc <;> (try split at hc) <;> simp at hc
    · simp; omega
  · simp
set_option maxRecDepth 100000 in
set_option maxHeartbeats 2000000 in
theorem l_FnExactSpend (x0 x1 : Int) (l : List Coin) (A : Option Addr) (cap : Nat) (at_ : Int) (n : Int) (w : World) (hm : l.length ≤ maxLen) (_hat_ : (Lit.int .i64 at_).wf = true) (_hn : (Lit.int .i64 n).wf = true) (hr : Rd w w.heap.size 2 A (l.map Coin.cells)) :
    Calls Try.prog 12 #[.agg #[.int .i64 x0, .int .i64 x1, .slice A l.length cap], .int .i64 at_, .int .i64 n] w fun e w' => e = .returned (.bool true) ∧ Below w.heap.size w w' := by
  have HR := Lib.hid hr
  clear hr
  have HM := Lib.hid hm
  clear hm
  by_cases hl : l.length ≤ 1048576
  · obtain ⟨c2, s2, l2, code, HS, HI, hl2⟩ : ∃ (c2 s2 : Int) (l2 : List Coin) (code : Int),
        Hid (∀ A cap W, Rd W W.heap.size 2 A (l.map Coin.cells) → Calls Try.prog 47 #[.agg #[.int .i64 x0, .int .i64 x1, .slice A l.length cap], .int .i64 at_, .int .i64 n] W (SpendPost W c2 s2 l2 code)) ∧
        Hid (∀ A cap W, Rd W W.heap.size 2 A (l.map Coin.cells) → Calls Try.prog 48 #[.agg #[.int .i64 x0, .int .i64 x1, .slice A l.length cap], .int .i64 at_, .int .i64 n] W (SpendPost W c2 s2 l2 code)) ∧ l2.length ≤ 40 :=
      ⟨_, _, _, _, Lib.hid fun A cap W h => s_Spend x0 x1 at_ n l A cap W hl h, Lib.hid fun A cap W h => i_Spend x0 x1 at_ n l A cap W hl (wf_i64_le _hat_).2 h, spendCoins_len _ _ _ _ _⟩
    obtain ⟨Lx, hLx, hLx0⟩ : ∃ Lx : Int, (1 : Int) + ((l.map Coin.cells).length * 2 : Nat) = Lx ∧ decide (Lx < 0) = false := ⟨_, rfl, by simp; omega⟩
    obtain ⟨Lg, hLg, hLg0⟩ : ∃ Lg : Int, (1 : Int) + (l2.length * 2 : Nat) = Lg ∧ decide (Lg < 0) = false := ⟨_, rfl, by simp; omega⟩
    have HLX := Lib.hid hLx
    have HLG := Lib.hid hLg
    clear hLx hLg
    go_enter Try.func12, Try.ntmps12
    go_wp2_with fail
    refine (l_szPurse_ok _ _ _ _ _ _ _ (by omega) (by omega)).mono ?_
    rintro e w1 ⟨rfl, hb1⟩
    have z1 := hb1.size
    try simp at z1
    obtain ⟨aah, aa0, aa1, aa2, aaf, aaz⟩ := own3 (g := w.heap.size) hb1 (by first | omega | (simp; omega) | (simp; done)) (by (repeat' first | assumption | (refine heap_at ?_; (simp; done)) | refine heap_drew ?_ | refine heap_drewN ?_ | (refine heap_past ?_ ?_ <;> try (simp; done)) | (refine heap_far ?_ ?_ <;> try (simp; done))))
    go_wp2_with fail
    refine (l_toPurse _ _ l _ _ _ hl ((HR.out.below (by (repeat' first | exact Below.refl _ _ | assumption | refine Below.setCell ?_ (by first | omega | (simp; omega) | (simp; done)) _ | refine Below.alloc ?_ (by first | omega | (simp; omega) | (simp; done)) _ | refine Below.drew ?_ | refine below_drewN ?_ _ | refine Below.trans ?_ (Below.mono (by assumption) (by first | omega | (simp; omega) | (simp; done)))))).more (by omega))).mono ?_
    rintro e w2 ⟨rfl, how2, hb2⟩
    have z2 := hb2.size
    have HO2 := Lib.hid how2.rd
    clear how2
    obtain ⟨abh, ab0, ab1, ab2, abf, abz⟩ := own3 (g := w.heap.size) hb2 (by first | omega | (simp; omega) | (simp; done)) (by (repeat' first | assumption | (refine heap_at ?_; (simp; done)) | refine heap_drew ?_ | refine heap_drewN ?_ | (refine heap_past ?_ ?_ <;> try (simp; done)) | (refine heap_far ?_ ?_ <;> try (simp; done))))
    clear aah aa0 aa1 aa2 aaf aaz
    go_wp2_with fail
    refine (HS.out _ _ _ HO2.out).mono ?_
    rintro e w3 ⟨A3, cap3, rfl, how3, hb3⟩
    have z3 := hb3.size
    have OW3 := Lib.hid how3
    have bw := Lib.hid how3.block
    clear how3
    obtain ⟨ach, ac0, ac1, ac2, acf, acz⟩ := own3 (g := w.heap.size) hb3 (by first | omega | (simp; omega) | (simp; done)) (by (repeat' first | assumption | (refine heap_at ?_; (simp; done)) | refine heap_drew ?_ | refine heap_drewN ?_ | (refine heap_past ?_ ?_ <;> try (simp; done)) | (refine heap_far ?_ ?_ <;> try (simp; done))))
    clear abh ab0 ab1 ab2 abf abz
    go_wp2_with fail
    refine (l_toPurse _ _ l _ _ _ hl ((HR.out.below (by (repeat' first | exact Below.refl _ _ | assumption | refine Below.setCell ?_ (by first | omega | (simp; omega) | (simp; done)) _ | refine Below.alloc ?_ (by first | omega | (simp; omega) | (simp; done)) _ | refine Below.drew ?_ | refine below_drewN ?_ _ | refine Below.trans ?_ (Below.mono (by assumption) (by first | omega | (simp; omega) | (simp; done)))))).more (by first | omega | (simp; omega)))).mono ?_
    rintro e w4 ⟨he, how4, hb4⟩
    have z4 := hb4.size
    obtain ⟨X, hX⟩ : ∃ X, w3.heap.size + 1 + 3 = X := ⟨_, rfl⟩
    rw [sizeUp] at z4
    simp only [sizeUp, hX] at he how4
    subst he
    have OX4 := Lib.hid how4
    clear how4
    obtain ⟨adh, ad0, ad1, ad2, adf, adz⟩ := own3 (g := w.heap.size) hb4 (by first | omega | (simp; omega) | (simp; done)) (by (repeat' first | assumption | (refine heap_at ?_; (simp; done)) | refine heap_drew ?_ | refine heap_drewN ?_ | (refine heap_past ?_ ?_ <;> try (simp; done)) | (refine heap_far ?_ ?_ <;> try (simp; done))))
    obtain ⟨bdh, bd0, bd1, bd2, bdf, bdz⟩ := own3 (g := w3.heap.size) hb4 (by first | omega | (simp; omega) | (simp; done)) (by (repeat' first | assumption | (refine heap_at ?_; (simp; done)) | refine heap_drew ?_ | refine heap_drewN ?_ | (refine heap_past ?_ ?_ <;> try (simp; done)) | (refine heap_far ?_ ?_ <;> try (simp; done))))
    clear ach ac0 ac1 ac2 acf acz
    go_wp2_with fail
    refine (HI.out _ _ _ ((OX4.out.rd.below (by (repeat' first | exact Below.refl _ _ | assumption | refine Below.setCell ?_ (by first | omega | (simp; omega) | (simp; done)) _ | refine Below.alloc ?_ (by first | omega | (simp; omega) | (simp; done)) _ | refine Below.drew ?_ | refine below_drewN ?_ _ | refine Below.trans ?_ (Below.mono (by assumption) (by first | omega | (simp; omega) | (simp; done)))))).more (by first | omega | (simp; omega) | (simp; done)))).mono ?_
    rintro e w5 ⟨A5, cap5, rfl, how5, hb5⟩
    have z5 := hb5.size
    try simp at z5
    rw [sizeUp] at how5
    have OG5 := Lib.hid how5
    clear how5
    obtain ⟨aeh, ae0, ae1, ae2, aef, aez⟩ := own3 (g := w.heap.size) hb5 (by first | omega | (simp; omega) | (simp; done)) (by (repeat' first | assumption | (refine heap_at ?_; (simp; done)) | refine heap_drew ?_ | refine heap_drewN ?_ | (refine heap_past ?_ ?_ <;> try (simp; done)) | (refine heap_far ?_ ?_ <;> try (simp; done))))
    obtain ⟨beh, be0, be1, be2, bef, bez⟩ := own3 (g := w3.heap.size) hb5 (by first | omega | (simp; omega) | (simp; done)) (by (repeat' first | assumption | (refine heap_at ?_; (simp; done)) | refine heap_drew ?_ | refine heap_drewN ?_ | (refine heap_past ?_ ?_ <;> try (simp; done)) | (refine heap_far ?_ ?_ <;> try (simp; done))))
    obtain ⟨ceh, ce0, ce1, ce2, cef, cez⟩ := own3 (g := w4.heap.size) hb5 (by first | omega | (simp; omega) | (simp; done)) (by (repeat' first | assumption | (refine heap_at ?_; (simp; done)) | refine heap_drew ?_ | refine heap_drewN ?_ | (refine heap_past ?_ ?_ <;> try (simp; done)) | (refine heap_far ?_ ?_ <;> try (simp; done))))
    clear adh ad0 ad1 ad2 adf adz bdh bd0 bd1 bd2 bdf bdz
    go_wp2_with fail
    refine (l_eqPurse _ _ l2 _ _ _ _ _ (by omega) ((OG5.out.rd.below (by (repeat' first | exact Below.refl _ _ | assumption | refine Below.setCell ?_ (by first | omega | (simp; omega) | (simp; done)) _ | refine Below.alloc ?_ (by first | omega | (simp; omega) | (simp; done)) _ | refine Below.drew ?_ | refine below_drewN ?_ _ | refine Below.trans ?_ (Below.mono (by assumption) (by first | omega | (simp; omega) | (simp; done)))))).more (by first | omega | (simp; omega) | (simp; done))) ((OW3.out.rd.below (by (repeat' first | exact Below.refl _ _ | assumption | refine Below.setCell ?_ (by first | omega | (simp; omega) | (simp; done)) _ | refine Below.alloc ?_ (by first | omega | (simp; omega) | (simp; done)) _ | refine Below.drew ?_ | refine below_drewN ?_ _ | refine Below.trans ?_ (Below.mono (by assumption) (by first | omega | (simp; omega) | (simp; done)))))).more (by first | omega | (simp; omega) | (simp; done)))).mono ?_
    rintro e w6 ⟨rfl, hb6⟩
    have z6 := hb6.size
    try simp at z6
    obtain ⟨afh, af0, af1, af2, aff, afz⟩ := own3 (g := w.heap.size) hb6 (by first | omega | (simp; omega) | (simp; done)) (by (repeat' first | assumption | (refine heap_at ?_; (simp; done)) | refine heap_drew ?_ | refine heap_drewN ?_ | (refine heap_past ?_ ?_ <;> try (simp; done)) | (refine heap_far ?_ ?_ <;> try (simp; done))))
    obtain ⟨bfh, bf0, bf1, bf2, bff, bfz⟩ := own3 (g := w3.heap.size) hb6 (by first | omega | (simp; omega) | (simp; done)) (by (repeat' first | assumption | (refine heap_at ?_; (simp; done)) | refine heap_drew ?_ | refine heap_drewN ?_ | (refine heap_past ?_ ?_ <;> try (simp; done)) | (refine heap_far ?_ ?_ <;> try (simp; done))))
    obtain ⟨cfh, cf0, cf1, cf2, cff, cfz⟩ := own3 (g := w4.heap.size) hb6 (by first | omega | (simp; omega) | (simp; done)) (by (repeat' first | assumption | (refine heap_at ?_; (simp; done)) | refine heap_drew ?_ | refine heap_drewN ?_ | (refine heap_past ?_ ?_ <;> try (simp; done)) | (refine heap_far ?_ ?_ <;> try (simp; done))))
    obtain ⟨dfh, df0, df1, df2, dff, dfz⟩ := own3 (g := w5.heap.size) hb6 (by first | omega | (simp; omega) | (simp; done)) (by (repeat' first | assumption | (refine heap_at ?_; (simp; done)) | refine heap_drew ?_ | refine heap_drewN ?_ | (refine heap_past ?_ ?_ <;> try (simp; done)) | (refine heap_far ?_ ?_ <;> try (simp; done))))
    clear aeh ae0 ae1 ae2 aef aez beh be0 be1 be2 bef bez ceh ce0 ce1 ce2 cef cez
    go_wp2_with fail
    have bx := Lib.hid OX4.out.block
    have bg := Lib.hid OG5.out.block
    have q0 : X < w4.heap.size := (bx.out X rfl).2
    have OX6 := Lib.hid ((OX4.out.below (w' := w6) (by (repeat' first | exact Below.refl _ _ | assumption | refine Below.setCell ?_ (by first | omega | (simp; omega) | (simp; done)) _ | refine Below.alloc ?_ (by first | omega | (simp; omega) | (simp; done)) _ | refine Below.drew ?_ | refine below_drewN ?_ _ | refine Below.trans ?_ (Below.mono (by assumption) (by first | omega | (simp; omega) | (simp; done)))))).more (Nat.zero_le _))
    have OG6 := Lib.hid (OG5.out.below (w' := w6) (by (repeat' first | exact Below.refl _ _ | assumption | refine Below.setCell ?_ (by first | omega | (simp; omega) | (simp; done)) _ | refine Below.alloc ?_ (by first | omega | (simp; omega) | (simp; done)) _ | refine Below.drew ?_ | refine below_drewN ?_ _ | refine Below.trans ?_ (Below.mono (by assumption) (by first | omega | (simp; omega) | (simp; done))))))
    have OW6 := Lib.hid (OW3.out.below (w' := w6) (by (repeat' first | exact Below.refl _ _ | assumption | refine Below.setCell ?_ (by first | omega | (simp; omega) | (simp; done)) _ | refine Below.alloc ?_ (by first | omega | (simp; omega) | (simp; done)) _ | refine Below.drew ?_ | refine below_drewN ?_ _ | refine Below.trans ?_ (Below.mono (by assumption) (by first | omega | (simp; omega) | (simp; done))))))
    clear OX4 OG5 OW3
    go_region_held3 (fun w' => w'.cell? ⟨w4.heap.size, 0, none⟩ = some (.int .i64 x0) ∧ w'.cell? ⟨w4.heap.size, 1, none⟩ = some (.int .i64 x1) ∧ w'.cell? ⟨w4.heap.size, 2, none⟩ = some (.slice (some ⟨X, 0, none⟩) l.length l.length) ∧ w'.cell? ⟨w.heap.size, 0, none⟩ = some (.int .i64 x0) ∧ w'.cell? ⟨w.heap.size, 1, none⟩ = some (.int .i64 x1) ∧ w'.cell? ⟨w.heap.size, 2, none⟩ = some (.slice A l.length cap)) (first | exact ⟨cf0, cf1, cf2, af0, af1, af2⟩ | exact ⟨cg0, cg1, cg2, ag0, ag1, ag2⟩ | exact ⟨cu0, cu1, cu2, au0, au1, au2⟩)
      (first | (go_at_call 17; refine (l_toPurse _ _ l _ _ _ hl ((HR.out.below (by (repeat' first | exact Below.refl _ _ | assumption | refine Below.setCell ?_ (by first | omega | (simp; omega) | (simp; done)) _ | refine Below.alloc ?_ (by first | omega | (simp; omega) | (simp; done)) _ | refine Below.drew ?_ | refine below_drewN ?_ _ | refine Below.trans ?_ (Below.mono (by assumption) (by first | omega | (simp; omega) | (simp; done)))))).more (by first | omega | (simp; omega)))).mono ?_; rintro e w7 ⟨rfl, how7, hb7⟩; have z7 := hb7.size; (try simp at z7); have HO7 := Lib.hid how7.rd; clear how7; obtain ⟨agh, ag0, ag1, ag2, agf, agz⟩ := own3 (g := w.heap.size) hb7 (by first | omega | (simp; omega) | (simp; done)) (by (repeat' first | assumption | (refine heap_at ?_; (simp; done)) | refine heap_drew ?_ | refine heap_drewN ?_ | (refine heap_past ?_ ?_ <;> try (simp; done)) | (refine heap_far ?_ ?_ <;> try (simp; done)))); obtain ⟨bgh, bg0, bg1, bg2, bgf, bgz⟩ := own3 (g := w3.heap.size) hb7 (by first | omega | (simp; omega) | (simp; done)) (by (repeat' first | assumption | (refine heap_at ?_; (simp; done)) | refine heap_drew ?_ | refine heap_drewN ?_ | (refine heap_past ?_ ?_ <;> try (simp; done)) | (refine heap_far ?_ ?_ <;> try (simp; done)))); obtain ⟨cgh, cg0, cg1, cg2, cgf, cgz⟩ := own3 (g := w4.heap.size) hb7 (by first | omega | (simp; omega) | (simp; done)) (by (repeat' first | assumption | (refine heap_at ?_; (simp; done)) | refine heap_drew ?_ | refine heap_drewN ?_ | (refine heap_past ?_ ?_ <;> try (simp; done)) | (refine heap_far ?_ ?_ <;> try (simp; done)))); obtain ⟨dgh, dg0, dg1, dg2, dgf, dgz⟩ := own3 (g := w5.heap.size) hb7 (by first | omega | (simp; omega) | (simp; done)) (by (repeat' first | assumption | (refine heap_at ?_; (simp; done)) | refine heap_drew ?_ | refine heap_drewN ?_ | (refine heap_past ?_ ?_ <;> try (simp; done)) | (refine heap_far ?_ ?_ <;> try (simp; done)))); clear afh af0 af1 af2 aff afz bfh bf0 bf1 bf2 bff bfz cfh cf0 cf1 cf2 cff cfz dfh df0 df1 df2 dff dfz)
             | (go_at_call 19; refine (l_eqPurse _ _ l _ _ _ _ _ hl ((OX6.out.rd.below (by (repeat' first | exact Below.refl _ _ | assumption | refine Below.setCell ?_ (by first | omega | (simp; omega) | (simp; done)) _ | refine Below.alloc ?_ (by first | omega | (simp; omega) | (simp; done)) _ | refine Below.drew ?_ | refine below_drewN ?_ _ | refine Below.trans ?_ (Below.mono (by assumption) (by first | omega | (simp; omega) | (simp; done)))))).more (by first | omega | (simp; omega))) ((HO7.out.below (by (repeat' first | exact Below.refl _ _ | assumption | refine Below.setCell ?_ (by first | omega | (simp; omega) | (simp; done)) _ | refine Below.alloc ?_ (by first | omega | (simp; omega) | (simp; done)) _ | refine Below.drew ?_ | refine below_drewN ?_ _ | refine Below.trans ?_ (Below.mono (by assumption) (by first | omega | (simp; omega) | (simp; done)))))).more (by first | omega | (simp; omega)))).mono ?_; rintro e w8 ⟨rfl, hb8⟩; have z8 := hb8.size; (try simp at z8); obtain ⟨auh, au0, au1, au2, auf, auz⟩ := own3 (g := w.heap.size) hb8 (by first | omega | (simp; omega) | (simp; done)) (by (repeat' first | assumption | (refine heap_at ?_; (simp; done)) | refine heap_drew ?_ | refine heap_drewN ?_ | (refine heap_past ?_ ?_ <;> try (simp; done)) | (refine heap_far ?_ ?_ <;> try (simp; done)))); obtain ⟨buh, bu0, bu1, bu2, buf, buz⟩ := own3 (g := w3.heap.size) hb8 (by first | omega | (simp; omega) | (simp; done)) (by (repeat' first | assumption | (refine heap_at ?_; (simp; done)) | refine heap_drew ?_ | refine heap_drewN ?_ | (refine heap_past ?_ ?_ <;> try (simp; done)) | (refine heap_far ?_ ?_ <;> try (simp; done)))); obtain ⟨cuh, cu0, cu1, cu2, cuf, cuz⟩ := own3 (g := w4.heap.size) hb8 (by first | omega | (simp; omega) | (simp; done)) (by (repeat' first | assumption | (refine heap_at ?_; (simp; done)) | refine heap_drew ?_ | refine heap_drewN ?_ | (refine heap_past ?_ ?_ <;> try (simp; done)) | (refine heap_far ?_ ?_ <;> try (simp; done)))); obtain ⟨duh, du0, du1, du2, duf, duz⟩ := own3 (g := w5.heap.size) hb8 (by first | omega | (simp; omega) | (simp; done)) (by (repeat' first | assumption | (refine heap_at ?_; (simp; done)) | refine heap_drew ?_ | refine heap_drewN ?_ | (refine heap_past ?_ ?_ <;> try (simp; done)) | (refine heap_far ?_ ?_ <;> try (simp; done)))); clear agh ag0 ag1 ag2 agf agz bgh bg0 bg1 bg2 bgf bgz cgh cg0 cg1 cg2 cgf cgz dgh dg0 dg1 dg2 dgf dgz))
    go_wp2_with fail
    have OX8 := Lib.hid (OX6.out.below (w' := w8) (by (repeat' first | exact Below.refl _ _ | assumption | refine Below.setCell ?_ (by first | omega | (simp; omega) | (simp; done)) _ | refine Below.alloc ?_ (by first | omega | (simp; omega) | (simp; done)) _ | refine Below.drew ?_ | refine below_drewN ?_ _ | refine Below.trans ?_ (Below.mono (by assumption) (by first | omega | (simp; omega) | (simp; done))))))
    have OG8 := Lib.hid (OG6.out.below (w' := w8) (by (repeat' first | exact Below.refl _ _ | assumption | refine Below.setCell ?_ (by first | omega | (simp; omega) | (simp; done)) _ | refine Below.alloc ?_ (by first | omega | (simp; omega) | (simp; done)) _ | refine Below.drew ?_ | refine below_drewN ?_ _ | refine Below.trans ?_ (Below.mono (by assumption) (by first | omega | (simp; omega) | (simp; done))))))
    have OW8 := Lib.hid (OW6.out.below (w' := w8) (by (repeat' first | exact Below.refl _ _ | assumption | refine Below.setCell ?_ (by first | omega | (simp; omega) | (simp; done)) _ | refine Below.alloc ?_ (by first | omega | (simp; omega) | (simp; done)) _ | refine Below.drew ?_ | refine below_drewN ?_ _ | refine Below.trans ?_ (Below.mono (by assumption) (by first | omega | (simp; omega) | (simp; done))))))
    have hbw8 : Below w.heap.size w w8 := by (repeat' first | exact Below.refl _ _ | assumption | refine Below.setCell ?_ (by first | omega | (simp; omega) | (simp; done)) _ | refine Below.alloc ?_ (by first | omega | (simp; omega) | (simp; done)) _ | refine Below.drew ?_ | refine below_drewN ?_ _ | refine Below.trans ?_ (Below.mono (by assumption) (by first | omega | (simp; omega) | (simp; done))))
    clear OX6 OG6 OW6
    refine (l_markPurse 0 _ _ _ (l.map Coin.cells) _ _ (by decide) (by decide) (by rw [List.length_map]; exact hl) OX8.out).mono ?_
    rintro e w9 ⟨he, -, hgr9⟩
    rw [HLX.out] at he
    subst he
    have hgr9' : w8.grownBy w9 (some X) := hgr9
    have z9 := hgr9'.size
    obtain ⟨avh, av0, av1, av2, avf, avz⟩ := ownG3 hgr9' (by simp; omega) auh
    obtain ⟨bvh, bv0, bv1, bv2, bvf, bvz⟩ := ownG3 hgr9' (by simp; omega) buh
    obtain ⟨cvh, cv0, cv1, cv2, cvf, cvz⟩ := ownG3 hgr9' (by simp; omega) cuh
    obtain ⟨dvh, dv0, dv1, dv2, dvf, dvz⟩ := ownG3 hgr9' (by simp; omega) duh
    have OG9 := Lib.hid (OG8.out.grown hgr9' (.inr (fun e => by have := bg.out _ e; omega)))
    have OW9 := Lib.hid (OW8.out.grown hgr9' (.inr (fun e => by have := bw.out _ e; omega)))
    have hbw9 : Below w.heap.size w w9 := hbw8.grown hgr9' (by omega) (fun k e => by cases e; omega)
    clear OX8 OG8 OW8 hgr9 hgr9' auh au0 au1 au2 auf auz buh bu0 bu1 bu2 buf buz cuh cu0 cu1 cu2 cuf cuz duh du0 du1 du2 duf duz
    go_wp2_with fail
    refine (l_eqPurse _ _ l2 _ _ _ _ _ (by omega) (OG9.out.rd.more (by omega)) (OW9.out.rd.more (by omega))).mono ?_
    rintro e w10 ⟨rfl, hb10⟩
    have z10 := hb10.size
    obtain ⟨amh, am0, am1, am2, amf, amz⟩ := own3 (g := w.heap.size) hb10 (by first | omega | (simp; omega) | (simp; done)) (by (repeat' first | assumption | (refine heap_at ?_; (simp; done)) | refine heap_drew ?_ | refine heap_drewN ?_ | (refine heap_past ?_ ?_ <;> try (simp; done)) | (refine heap_far ?_ ?_ <;> try (simp; done))))
    obtain ⟨bmh, bm0, bm1, bm2, bmf, bmz⟩ := own3 (g := w3.heap.size) hb10 (by first | omega | (simp; omega) | (simp; done)) (by (repeat' first | assumption | (refine heap_at ?_; (simp; done)) | refine heap_drew ?_ | refine heap_drewN ?_ | (refine heap_past ?_ ?_ <;> try (simp; done)) | (refine heap_far ?_ ?_ <;> try (simp; done))))
    obtain ⟨dmh, dm0, dm1, dm2, dmf, dmz⟩ := own3 (g := w5.heap.size) hb10 (by first | omega | (simp; omega) | (simp; done)) (by (repeat' first | assumption | (refine heap_at ?_; (simp; done)) | refine heap_drew ?_ | refine heap_drewN ?_ | (refine heap_past ?_ ?_ <;> try (simp; done)) | (refine heap_far ?_ ?_ <;> try (simp; done))))
    have OG10 := Lib.hid (OG9.out.below hb10)
    have OW10 := Lib.hid (OW9.out.below hb10)
    have hbw10 : Below w.heap.size w w10 := by (repeat' first | exact Below.refl _ _ | assumption | refine Below.setCell ?_ (by first | omega | (simp; omega) | (simp; done)) _ | refine Below.alloc ?_ (by first | omega | (simp; omega) | (simp; done)) _ | refine Below.drew ?_ | refine below_drewN ?_ _ | refine Below.trans ?_ (Below.mono (by assumption) (by first | omega | (simp; omega) | (simp; done))))
    clear OG9 OW9 avh av0 av1 av2 avf avz bvh bv0 bv1 bv2 bvf bvz cvh cv0 cv1 cv2 cvf cvz dvh dv0 dv1 dv2 dvf dvz
    go_wp2_with fail
    refine (l_markPurse (w4.heap.size + 1) _ _ _ (l2.map Coin.cells) _ _ (by decide) (by decide) (by rw [List.length_map]; omega) OG10.out).mono ?_
    rintro e w11 ⟨he, hmk, hgr11⟩
    rw [List.length_map] at he hmk
    rw [HLG.out] at he
    subst he
    have HMK := Lib.hid (hmk _ _ _ rfl)
    have z11 := hgr11.size
    obtain ⟨anh, an0, an1, an2, anf, anz⟩ := ownG3 hgr11 (OG10.out.ne_ amh (by decide)) amh
    obtain ⟨bnh, bn0, bn1, bn2, bnf, bnz⟩ := ownG3 hgr11 (OG10.out.ne_ bmh (by decide)) bmh
    obtain ⟨dnh, dn0, dn1, dn2, dnf, dnz⟩ := ownG3 hgr11 (OG10.out.ne_ dmh (by decide)) dmh
    have OW11 := Lib.hid (OW10.out.grown hgr11 (by
      cases hv : (Value.slice A3 l2.length cap3).ownBlock with
      | none => exact .inl rfl
      | some k =>
        refine .inr (fun e => ?_)
        have h1 := bw.out k hv
        have h2 := bg.out k e.symm
        omega))
    have hbw11 : Below w.heap.size w w11 := hbw10.grown hgr11 (by omega) (fun k e => by have := (bg.out k e).1; omega)
    clear OG10 OW10 hmk hgr11 amh am0 am1 am2 amf amz bmh bm0 bm1 bm2 bmf bmz dmh dm0 dm1 dm2 dmf dmz
    go_wp2_with fail
    refine (l_heldPurse _ _ _ _ _ _ _ (by decide) (by decide) (by omega) HMK.out).mono ?_
    rintro e w12 ⟨he, hb12⟩
    rw [HLG.out] at he
    subst he
    have z12 := hb12.size
    obtain ⟨aoh, ao0, ao1, ao2, aof, aoz⟩ := own3 (g := w.heap.size) hb12 (by first | omega | (simp; omega) | (simp; done)) (by (repeat' first | assumption | (refine heap_at ?_; (simp; done)) | refine heap_drew ?_ | refine heap_drewN ?_ | (refine heap_past ?_ ?_ <;> try (simp; done)) | (refine heap_far ?_ ?_ <;> try (simp; done))))
    obtain ⟨boh, bo0, bo1, bo2, bof, boz⟩ := own3 (g := w3.heap.size) hb12 (by first | omega | (simp; omega) | (simp; done)) (by (repeat' first | assumption | (refine heap_at ?_; (simp; done)) | refine heap_drew ?_ | refine heap_drewN ?_ | (refine heap_past ?_ ?_ <;> try (simp; done)) | (refine heap_far ?_ ?_ <;> try (simp; done))))
    obtain ⟨dOh, dO0, dO1, dO2, dOf, dOz⟩ := own3 (g := w5.heap.size) hb12 (by first | omega | (simp; omega) | (simp; done)) (by (repeat' first | assumption | (refine heap_at ?_; (simp; done)) | refine heap_drew ?_ | refine heap_drewN ?_ | (refine heap_past ?_ ?_ <;> try (simp; done)) | (refine heap_far ?_ ?_ <;> try (simp; done))))
    clear anh an0 an1 an2 anf anz bnh bn0 bn1 bn2 bnf bnz dnh dn0 dn1 dn2 dnf dnz
    go_wp2_with fail
    refine (l_toPurse _ _ l _ _ _ hl ((HR.out.below (by (repeat' first | exact Below.refl _ _ | assumption | refine Below.setCell ?_ (by first | omega | (simp; omega) | (simp; done)) _ | refine Below.alloc ?_ (by first | omega | (simp; omega) | (simp; done)) _ | refine Below.drew ?_ | refine below_drewN ?_ _ | refine Below.trans ?_ (Below.mono (by assumption) (by first | omega | (simp; omega) | (simp; done)))))).more (by omega))).mono ?_
    rintro e w13 ⟨rfl, how13, hb13⟩
    have z13 := hb13.size
    have HO13 := Lib.hid how13.rd
    clear how13
    obtain ⟨aph, ap0, ap1, ap2, apf, apz⟩ := own3 (g := w.heap.size) hb13 (by first | omega | (simp; omega) | (simp; done)) (by (repeat' first | assumption | (refine heap_at ?_; (simp; done)) | refine heap_drew ?_ | refine heap_drewN ?_ | (refine heap_past ?_ ?_ <;> try (simp; done)) | (refine heap_far ?_ ?_ <;> try (simp; done))))
    obtain ⟨bph, bp0, bp1, bp2, bpf, bpz⟩ := own3 (g := w3.heap.size) hb13 (by first | omega | (simp; omega) | (simp; done)) (by (repeat' first | assumption | (refine heap_at ?_; (simp; done)) | refine heap_drew ?_ | refine heap_drewN ?_ | (refine heap_past ?_ ?_ <;> try (simp; done)) | (refine heap_far ?_ ?_ <;> try (simp; done))))
    obtain ⟨dph, dp0, dp1, dp2, dpf, dpz⟩ := own3 (g := w5.heap.size) hb13 (by first | omega | (simp; omega) | (simp; done)) (by (repeat' first | assumption | (refine heap_at ?_; (simp; done)) | refine heap_drew ?_ | refine heap_drewN ?_ | (refine heap_past ?_ ?_ <;> try (simp; done)) | (refine heap_far ?_ ?_ <;> try (simp; done))))
    clear aoh ao0 ao1 ao2 aof aoz boh bo0 bo1 bo2 bof boz dOh dO0 dO1 dO2 dOf dOz
    go_wp2_with fail
    refine (HI.out _ _ _ HO13.out).mono ?_
    rintro e w14 ⟨A14, cap14, rfl, how14, hb14⟩
    have z14 := hb14.size
    have OH14 := Lib.hid how14
    clear how14
    obtain ⟨aqh, aq0, aq1, aq2, aqf, aqz⟩ := own3 (g := w.heap.size) hb14 (by first | omega | (simp; omega) | (simp; done)) (by (repeat' first | assumption | (refine heap_at ?_; (simp; done)) | refine heap_drew ?_ | refine heap_drewN ?_ | (refine heap_past ?_ ?_ <;> try (simp; done)) | (refine heap_far ?_ ?_ <;> try (simp; done))))
    obtain ⟨bqh, bq0, bq1, bq2, bqf, bqz⟩ := own3 (g := w3.heap.size) hb14 (by first | omega | (simp; omega) | (simp; done)) (by (repeat' first | assumption | (refine heap_at ?_; (simp; done)) | refine heap_drew ?_ | refine heap_drewN ?_ | (refine heap_past ?_ ?_ <;> try (simp; done)) | (refine heap_far ?_ ?_ <;> try (simp; done))))
    obtain ⟨dqh, dq0, dq1, dq2, dqf, dqz⟩ := own3 (g := w5.heap.size) hb14 (by first | omega | (simp; omega) | (simp; done)) (by (repeat' first | assumption | (refine heap_at ?_; (simp; done)) | refine heap_drew ?_ | refine heap_drewN ?_ | (refine heap_past ?_ ?_ <;> try (simp; done)) | (refine heap_far ?_ ?_ <;> try (simp; done))))
    clear aph ap0 ap1 ap2 apf apz bph bp0 bp1 bp2 bpf bpz dph dp0 dp1 dp2 dpf dpz
    go_wp2_with fail
    refine (l_eqPurse _ _ l2 _ _ _ _ _ (by omega) ((OH14.out.rd.below (by (repeat' first | exact Below.refl _ _ | assumption | refine Below.setCell ?_ (by first | omega | (simp; omega) | (simp; done)) _ | refine Below.alloc ?_ (by first | omega | (simp; omega) | (simp; done)) _ | refine Below.drew ?_ | refine below_drewN ?_ _ | refine Below.trans ?_ (Below.mono (by assumption) (by first | omega | (simp; omega) | (simp; done)))))).more (by first | omega | (simp; omega) | (simp; done))) ((OW11.out.rd.below (by (repeat' first | exact Below.refl _ _ | assumption | refine Below.setCell ?_ (by first | omega | (simp; omega) | (simp; done)) _ | refine Below.alloc ?_ (by first | omega | (simp; omega) | (simp; done)) _ | refine Below.drew ?_ | refine below_drewN ?_ _ | refine Below.trans ?_ (Below.mono (by assumption) (by first | omega | (simp; omega) | (simp; done)))))).more (by first | omega | (simp; omega) | (simp; done)))).mono ?_
    rintro e w15 ⟨rfl, hb15⟩
    have z15 := hb15.size
    try simp at z15
    obtain ⟨drh, dr0, dr1, dr2, drf, drz⟩ := own3 (g := w5.heap.size) hb15 (by first | omega | (simp; omega) | (simp; done)) (by (repeat' first | assumption | (refine heap_at ?_; (simp; done)) | refine heap_drew ?_ | refine heap_drewN ?_ | (refine heap_past ?_ ?_ <;> try (simp; done)) | (refine heap_far ?_ ?_ <;> try (simp; done))))
    clear aqh aq0 aq1 aq2 aqf aqz bqh bq0 bq1 bq2 bqf bqz dqh dq0 dq1 dq2 dqf dqz
    go_wp2_with fail
    refine (l_heldPurse _ _ _ _ _ _ _ (by decide) (by decide) (by omega) (HMK.out.below (by (repeat' first | exact Below.refl _ _ | assumption | refine Below.setCell ?_ (by first | omega | (simp; omega) | (simp; done)) _ | refine Below.alloc ?_ (by first | omega | (simp; omega) | (simp; done)) _ | refine Below.drew ?_ | refine below_drewN ?_ _ | refine Below.trans ?_ (Below.mono (by assumption) (by first | omega | (simp; omega) | (simp; done))))))).mono ?_
    rintro e w16 ⟨he, hb16⟩
    rw [HLG.out] at he
    subst he
    have z16 := hb16.size
    go_wp2_with fail
    go_ret
    refine ⟨rfl, ?_⟩
    (repeat' first | exact Below.refl _ _ | assumption | refine Below.setCell ?_ (by first | omega | (simp; omega) | (simp; done)) _ | refine Below.alloc ?_ (by first | omega | (simp; omega) | (simp; done)) _ | refine Below.drew ?_ | refine below_drewN ?_ _ | refine Below.trans ?_ (Below.mono (by assumption) (by first | omega | (simp; omega) | (simp; done))))
  · have hl' : (1048576 : Int) < (l.length : Int) := by omega
    go_enter Try.func12, Try.ntmps12
    go_wp2_with fail
    refine (l_szPurse_no _ _ _ _ _ _ _ (by omega) HM.out hl').mono ?_
    rintro e w1 ⟨rfl, hb1⟩
    have z1 := hb1.size
    try simp at z1
    go_wp2_with fail
    go_ret
    refine ⟨rfl, ?_⟩
    (repeat' first | exact Below.refl _ _ | assumption | refine Below.setCell ?_ (by first | omega | (simp; omega) | (simp; done)) _ | refine Below.alloc ?_ (by first | omega | (simp; omega) | (simp; done)) _ | refine Below.drew ?_ | refine below_drewN ?_ _ | refine Below.trans ?_ (Below.mono (by assumption) (by first | omega | (simp; omega) | (simp; done))))
theorem FnExactSpend_own : ownKnob Try.prog.godebug = none := by kernel_rfl
theorem FnExactSpend_laidOut : laidOutB Try.prog = true := by kernel_rfl
set_option maxRecDepth 100000 in
theorem FnExactSpend_lifted (os : Os) (started : os.Started) (H : Type) (enc : TypeId × Value → H) :
    ReturnsInHanded {} Try.checked os 12 .any (Rows.fnExactSpendSpec.pre6 enc Try.prog Try.f12 Rows.fnExactSpendRow.domain false) (Rows.fnExactSpendSpec.post enc Try.prog Try.f12 false true false false) := by
  refine returnsInHanded_of_change (C := Try.checked) FnExactSpend_own started (by kernel_rfl) Try.func12
    (ChangeSpec.witness6 (enc := enc) (C := Try.checked) false ⟨#[], #[.agg #[.int .i64 0, .int .i64 0, .slice none 0 0], .int .i64 0, .int .i64 0], []⟩ 8 (by kernel_rfl) (by kernel_rfl) (by kernel_rfl) (by kernel_rfl)) ?_
  intro W base args ds gs before hval0 hW hcnd _
  have hval : ∀ (j : Nat) t v, Try.f12.params[j]? = some t → args[j]? = some v → Value.okWide Try.prog W .any base t v := hval0
  have hW' := hW
  obtain ⟨p, q, hA0, hV, rfl, hfz, hnd⟩ := hW
  have hA : DataW.TrodAll enc Try.prog W 0 (fun _ => true) true Try.f12.params.toList args.toList ds p := hA0
  rw [Try.params12] at hA hval
  obtain ⟨v0, vs0, d0, ds0, p0, q0, hargs, rfl, rfl, h0, r0⟩ := trodAll_cons hA
  obtain ⟨v1, vs1, d1, ds1, p1, q1, rfl, rfl, rfl, h1, r1⟩ := trodAll_cons r0
  obtain ⟨v2, vs2, d2, ds2, p2, q2, rfl, rfl, rfl, h2, r2⟩ := trodAll_cons r1
  obtain ⟨rfl, rfl, rfl⟩ := trodAll_nil r2
  obtain rfl : args = #[v0, v1, v2] := by cases args; simp_all
  obtain ⟨c0_0, c0_1, c0_2, y0_0, y0_1, y0_2, m0, rfl, _, _, hy0_0, hy0_1, hy0_2⟩ := Go.Joins.open_agg3 Try.underlying24 (by kernel_rfl) (by kernel_rfl) (hval 0 24 v0 rfl rfl) h0
  obtain ⟨a0_0, e0_0, _, _⟩ := DataW.trod_int Try.underlying3 hy0_0
  simp only [List.cons.injEq, and_true] at e0_0
  subst e0_0
  obtain ⟨a0_1, e0_1, _, _⟩ := DataW.trod_int Try.underlying3 hy0_1
  simp only [List.cons.injEq, and_true] at e0_1
  subst e0_1
  obtain ⟨A0, len0, cap0, rows0, rfl, hlen0, hflat0, hrd0, hlc0, hcm0⟩ := rd_of_trod' (n := 4) (ks := [true, true]) Try.underlying22 (by kernel_rfl) (by kernel_rfl) (by decide) hy0_2
  obtain ⟨l0, rfl, _⟩ := rows_of Coin.cells (fun _ => True) rows0 (fun r hr => Coin.of_flat (hflat0 r hr))
  rw [List.length_map] at hlen0
  subst hlen0
  obtain ⟨x1, rfl, _, _, w1⟩ := open_int Try.underlying3 (hval 1 3 v1 rfl rfl) h1
  obtain ⟨x2, rfl, _, _, w2⟩ := open_int Try.underlying3 (hval 2 3 v2 rfl rfl) h2
  refine (l_FnExactSpend a0_0 a0_1 l0 A0 cap0 x1 x2 W (by omega) w1 w2 hrd0).mono fun e W' ⟨he, hb⟩ => ⟨_, he, ?_⟩
  exact law_post FnExactSpend_laidOut (by kernel_rfl) (tb := 4) rfl Try.underlying4 rfl (fun ds' hl => by match ds', hl with | [_, _, _], _ => rfl) hW' hb

theorem FnExactSpend_holds : Rows.FnExactSpendSaid :=
  OpenClaim.holds_of_wide 12 Try.f12 rfl rfl rfl rfl rfl rfl rfl ⟨rfl, rfl, rfl, rfl, rfl⟩ rfl rfl rfl rfl rfl (by kernel_rfl) Try.func12 (by kernel_rfl)
    (of_decide_eq_true (by kernel_rfl)) (by unfold Func.isWrapper; first | (rw [if_pos (by decide +kernel)]; kernel_rfl) | (rw [if_neg (by decide +kernel)]; exact ⟨rfl, rfl⟩))
    (fun os started H enc _ => FnExactSpend_lifted os started H enc)
#print axioms FnExactSpend_holds
end Go.Proofs.Ytkgnipaponfbkaa
