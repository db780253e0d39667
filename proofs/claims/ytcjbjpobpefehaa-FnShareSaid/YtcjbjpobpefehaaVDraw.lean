/- Draws: the cursor over the bytes of a draw. -/
import Derived.Test.YtcjbjpobpefehaaVBase
import Derived.Test.YtcjbjpobpefehaaVM1
import Derived.Deep.QuietTactic
import Derived.BigQuiet
import Derived.Laws.Bits128
namespace Go.Proofs.Ytcjbjpobpefehaa
open Go.ChangeShapes Go.WideShapes Go.RowKit
def byteC (z : Int) : List Value := [.int .u8 z]
theorem bytes_uni (l : List Int) : ∀ r ∈ l.map byteC, r.length = 1 := by
 intro r hr
 obtain ⟨d, _, rfl⟩ := List.mem_map.1 hr
 rfl
theorem bytes_rd {w : World} {B : Nat} {A : Option Addr} {l : List Int} (h : Rd w B 1 A (l.map byteC)) {k : Nat} (hk : k < l.length) :
  ∃ b off, A = some ⟨b, off, none⟩ ∧ b < B ∧ w.cell? ⟨b, off + k, none⟩ = some (.int .u8 l[k]) := by
 obtain ⟨b, off, e, hb, hc⟩ := h.2 (by rw [List.length_map]; omega)
 have hk' : (l.map byteC)[k]? = some (byteC l[k]) := by rw [List.getElem?_map, List.getElem?_eq_getElem hk]; rfl
 have := hc k _ 0 _ hk' rfl
 rw [Nat.mul_one, Nat.add_zero] at this
 exact ⟨b, off, e, hb, this⟩
def Code (w : World) (B : Nat) (A : Option Addr) (n cap : Nat) : Prop := ∃ zs : List Int, zs.length = n ∧ n ≤ cap ∧ n ≤ 1048576 ∧ (∀ z ∈ zs, 0 ≤ z ∧ z ≤ 255) ∧ Rd w B 1 A (zs.map byteC)
theorem Code.below {w w' : World} {B : Nat} {A : Option Addr} {n cap : Nat} (h : Code w B A n cap) (hb : Below B w w') : Code w' B A n cap := by
 obtain ⟨zs, h1, h2, h3, h4, h5⟩ := h
 exact ⟨zs, h1, h2, h3, h4, h5.below hb⟩
theorem Code.more {w : World} {B B' : Nat} {A : Option Addr} {n cap : Nat} (h : Code w B A n cap) (hB : B ≤ B') : Code w B' A n cap := by
 obtain ⟨zs, h1, h2, h3, h4, h5⟩ := h
 exact ⟨zs, h1, h2, h3, h4, h5.more hB⟩
theorem Code.at_ {w : World} {B : Nat} {A : Option Addr} {n cap : Nat} (h : Code w B A n cap) {k : Nat} (hk : k < n) : ∃ b off z, A = some ⟨b, off, none⟩ ∧ b < B ∧ w.cell? ⟨b, off + k, none⟩ = some (.int .u8 z) ∧ 0 ≤ z ∧ z ≤ 255 := by
 obtain ⟨zs, h1, h2, h3, h4, h5⟩ := h
 subst h1
 obtain ⟨b, off, e, hb, hc⟩ := bytes_rd h5 hk
 have := h4 _ (List.getElem_mem hk)
 exact ⟨b, off, _, e, hb, hc, this.1, this.2⟩
def CodeIn (w : World) (A : Option Addr) (n cap : Nat) : Prop := ∃ zs : List Int, zs.length = n ∧ n ≤ cap ∧ cap ≤ maxLen ∧ (∀ z ∈ zs, 0 ≤ z ∧ z ≤ 255) ∧ Rd w w.heap.size 1 A (zs.map byteC)
theorem CodeIn.code {w : World} {A : Option Addr} {n cap : Nat} (h : CodeIn w A n cap) (hn : n ≤ 1048576) : Code w w.heap.size A n cap := by
 obtain ⟨zs, h1, h2, _, h4, h5⟩ := h
 exact ⟨zs, h1, h2, hn, h4, h5⟩
theorem CodeIn.len {w : World} {A : Option Addr} {n cap : Nat} (h : CodeIn w A n cap) : n ≤ maxLen := by
 obtain ⟨zs, h1, h2, h3, _⟩ := h
 exact Nat.le_trans h2 h3
theorem wf_u8_le {x : Int} (h : (Lit.int .u8 x).wf = true) : 0 ≤ x ∧ x ≤ 255 := by
 simp [Lit.wf, IntKind.min, IntKind.max, IntKind.signed, IntKind.bits] at h
 omega
theorem code_of_trod {H : Type} {enc : TypeId × Value → H} {P : Program} {w : World} {base : Nat} {spare : Nat → Bool} {held : Bool} {t e : TypeId} {fuel : Nat} {A : Option Addr} {len cap : Nat} {x : DataW H × List MemPlace}
  (hu : P.underlying t = some (.slice e)) (he : P.underlying e = some (.int .u8)) (hc : P.cellsOf e = 1) (h : DataW.trod enc P w base spare held fuel t [.slice A len cap] = some x) : CodeIn w A len cap := by
 rcases open_ints hu he hc h with ⟨hcs, _⟩ | ⟨a, len', cap', zs, hcs, _, hl, hm, hz, _, hcell, hwz⟩
 ·
  simp only [List.cons.injEq, Value.slice.injEq, and_true] at hcs
  obtain ⟨rfl, rfl, rfl⟩ := hcs
  exact ⟨[], rfl, Nat.le_refl _, Nat.zero_le _, by simp, Rd.nil_⟩
 ·
  simp only [List.cons.injEq, Value.slice.injEq, and_true] at hcs
  obtain ⟨rfl, rfl, rfl⟩ := hcs
  have hle : len ≤ zs.length := by rw [hz]; split <;> omega
  refine ⟨zs.take len, by rw [List.length_take]; omega, hl, hm, fun z hz' => wf_u8_le (hwz z (List.mem_of_mem_take hz')), bytes_uni _, fun hn => ?_⟩
  rw [List.length_map, List.length_take] at hn
  obtain ⟨b, off, spot⟩ := a
  have hc0 := hcell 0 (by omega)
  have hspot : spot = none := by simpa [Addr.add] using World.cell?_spot hc0
  subst hspot
  have hadd : ∀ k, (⟨b, off, none⟩ : Addr).add k = ⟨b, off + k, none⟩ := by intro k; unfold Addr.add; split <;> simp_all
  refine ⟨b, off, rfl, ?_, ?_⟩
  ·
   rw [hadd] at hc0
   by_cases hb : b < w.heap.size
   ·
    exact hb
   ·
    simp [World.cell?, Array.getElem?_eq_none (show w.heap.size ≤ b by omega)] at hc0
  ·
   intro i r j v hr hv
   rw [List.getElem?_map] at hr
   have hi : i < (zs.take len).length := by
    refine Nat.lt_of_not_le fun hh => ?_
    rw [List.getElem?_eq_none hh] at hr
    cases hr
   have hi2 : i < zs.length := by rw [List.length_take] at hi; omega
   rw [List.getElem?_eq_getElem hi] at hr
   simp only [Option.map_some, Option.some.injEq, List.getElem_take] at hr
   subst hr
   match j, hv with
   | 0, hv =>
    simp only [byteC, List.getElem?_cons_zero, Option.some.injEq] at hv
    subst hv
    have := hcell i hi2
    rw [hadd, List.getD_eq_getElem?_getD, List.getElem?_eq_getElem hi2] at this
    rw [Nat.mul_one, Nat.add_zero]
    exact this
   | j + 1, hv => simp [byteC] at hv
def Crs (w : World) (g : Nat) : Prop := ∃ (A : Option Addr) (n cap : Nat) (i : Nat) (h : Int), i ≤ n ∧ w.heap[g]? = some (.cells #[.slice A n cap, .int .i64 i, .int .i64 h] 79 (0, 0)) ∧ Code w g A n cap
theorem Crs.lt {w : World} {g : Nat} (h : Crs w g) : g < w.heap.size := by
 obtain ⟨_, _, _, _, _, _, h, _⟩ := h
 exact (gz_ h).1
theorem Crs.grown {w w' : World} {g : Nat} {row : Option Nat} (h : Crs w g) (hg : w.grownBy w' row) (hr : ∀ k, row = some k → g < k) : Crs w' g := by
 have hlt := h.lt
 obtain ⟨A, n, cap, i, x, h1, h2, h3⟩ := h
 exact ⟨A, n, cap, i, x, h1, zqe hg (fun e => by have := hr _ e.symm; omega) h2, h3.below ((Below.refl g w).grown hg (by omega) (fun k e => by have := hr k e; omega))⟩
theorem Crs.below {w w' : World} {g : Nat} (h : Crs w g) (hb : Below w.heap.size w w') : Crs w' g := h.grown (row := none) (grown_of_below hb) (fun _ e => by cases e)
theorem Crs.alloc {w : World} {g : Nat} (h : Crs w g) (o : Obj) : Crs (w.alloc o) g := h.below ((Below.refl _ _).alloc (Nat.le_refl _) o)
theorem Crs.set {w : World} {g b i : Nat} {u : Value} (h : Crs w g) (hb : g < b) : Crs (w.setCell ⟨b, i, none⟩ u) g := h.grown (zqg (World.grownBy.refl w (some b)) i u) (fun k e => by cases e; exact hb)
def DrewI (g : Nat) (w : World) (lo hi : Int) (e : Ending) (w' : World) : Prop := ∃ x : Int, lo ≤ x ∧ x ≤ hi ∧ e = .returned (.int .i64 x) ∧ Crs w' g ∧ w.grownBy w' (some g)
theorem wrap64_le (x : Int) : -9223372036854775808 ≤ wrap64 x ∧ wrap64 x ≤ 9223372036854775807 := by
 unfold wrap64
 omega
theorem i64_and255 (n : Int) : bits .and .i64 n 255 = n % 256 := by
 have h255 : (BitVec.ofInt 64 255).toNat = 2 ^ 8 - 1 := by decide
 have key : (BitVec.ofInt 64 n &&& BitVec.ofInt 64 255).toNat = (n % ((2 ^ 64 : Nat) : Int)).toNat % 2 ^ 8 := by
  rw [BitVec.toNat_and, BitVec.toNat_ofInt, h255, Nat.and_two_pow_sub_one_eq_mod]
 show IntKind.i64.wrap ((BitVec.ofInt 64 n &&& BitVec.ofInt 64 255).toNat : Nat) = n % 256
 rw [key, IntKind.wrap_i64]
 omega
set_option maxRecDepth 100000 in
set_option maxHeartbeats 2000000 in
theorem s_l01New (A : Option Addr) (n cap : Nat) (w : World) (hc : Code w w.heap.size A n cap) :
  Calls Try.prog 22 #[.slice A n cap] w fun e w' => e = .returned (.pointer (some ⟨w.heap.size, 0, none⟩)) ∧ Crs w' w.heap.size ∧ Below w.heap.size w w' ∧ w'.heap.size = w.heap.size + 1 := by
 have HC := Lib.hid hc
 have hn : n ≤ 1048576 := by obtain ⟨_, _, _, h, _⟩ := hc; exact h
 clear hc
 go_enter Try.func22, Try.ntmps22
 go_wp2_with fail
 go_loop [3, 4] (fun h i => ∃ (k : Nat) (H : Int), k ≤ n ∧ i = .int .i64 k ∧ h = .int .i64 H) (fun _ i => n - (intOf i).toNat)
 case atStart => exact ⟨0, _, Nat.zero_le _, rfl, rfl⟩
 case round =>
  obtain ⟨k, H, hk, rfl, rfl⟩ := hrel
  by_cases hlt : k < n
  ·
   obtain ⟨b, off, z, rfl, hb, c0, z1, z2⟩ := HC.out.at_ hlt
   have i1 : (0 : Int) ≤ (k : Int) := by omega
   have i2 : (k : Int) < (n : Int) := by omega
   by_cases h4 : (k : Int) < 4000
   ·
    go_wp2_with fail
    go_round
    case rel => exact ⟨k + 1, _, by omega, by go_num, rfl⟩
    case measure => simp [intOf]; omega
   ·
    go_wp2_with fail
    go_ret
    exact ⟨rfl, ⟨_, n, cap, 0, H, Nat.zero_le _, zxc rfl, HC.out.below ((Below.refl _ _).alloc (Nat.le_refl _) _)⟩, (Below.refl _ _).alloc (Nat.le_refl _) _, by simp⟩
  ·
   obtain rfl : k = n := by omega
   go_wp2_with fail
   go_ret
   exact ⟨rfl, ⟨A, k, cap, 0, H, Nat.zero_le _, zxc rfl, HC.out.below ((Below.refl _ _).alloc (Nat.le_refl _) _)⟩, (Below.refl _ _).alloc (Nat.le_refl _) _, by simp⟩
theorem grown_drewN {a w : World} {r : Option Nat} (h : a.grownBy w r) (n : Nat) : a.grownBy (w.drewN n) r := ⟨h.os, h.tape, h.output, h.size, h.block⟩
set_option maxRecDepth 100000 in
set_option maxHeartbeats 4000000 in
theorem s_l01Byte (g : Nat) (w : World) (hc : Crs w g) :
  Calls Try.prog 76 #[.pointer (some ⟨g, 0, none⟩)] w (DrewI g w 0 255) := by
 have hlt0 := hc.lt
 obtain ⟨A, n, cap, i, h, hin, hh, hcode⟩ := hc
 obtain ⟨kh, k0, k1, k2, kf, kz⟩ := own3 (Below.refl w.heap.size w) (gz_ hh).1 hh
 have hn : n ≤ 1048576 := by obtain ⟨_, _, _, h, _⟩ := hcode; exact h
 have KH := Lib.hid kh
 have HC := Lib.hid hcode
 have AND := fun X => i64_and255 X
 clear kh hh hcode
 by_cases hlt : i < n
 ·
  obtain ⟨b, off, z, rfl, hb, c0, z1, z2⟩ := HC.out.at_ hlt
  have c1 : ∀ v, (w.setCell ⟨g, 2, none⟩ v).cell? ⟨b, off + i, none⟩ = some (.int .u8 z) := fun v => by
   rw [((Below.refl g w).setCell (p := ⟨g, 2, none⟩) (Nat.le_refl _) v).cell hb]
   exact c0
  have i1 : (0 : Int) ≤ (i : Int) := by omega
  have i2 : (i : Int) < (n : Int) := by omega
  go_enter Try.func76, Try.ntmps76
  go_wp2_with fail
  go_quiet (fail)
  go_wp2_with fail
  go_quiet (fail)
  go_wp2_with fail
  go_quiet (fail)
  go_wp2_with fail
  go_ret
  refine ⟨_, ?_, ?_, rfl, ?_, ?_⟩
  ·
   exact Int.emod_nonneg _ (by decide)
  ·
   exact Int.le_of_lt_add_one (Int.emod_lt_of_pos _ (by decide))
  ·
   have e1 : ((i + 1 : Nat) : Int) = (i : Int) + 1 := by omega
   refine ⟨?A, n, cap, i + 1, ?h, by omega, ?c1, ?c2⟩
   case c1 =>
    rw [e1]
    exact zkf (zqa (zqa KH.out))
   case c2 =>
    refine HC.out.below ?_
    exact zwj (((Below.refl g w).setCell (p := ⟨g, 2, none⟩) (Nat.le_refl _) _).setCell (p := ⟨g, 1, none⟩) (Nat.le_refl _) _) _
  ·
   exact grown_drewN (zqg (zqg (World.grownBy.refl w (some g)) 2 _) 1 _) _
 ·
  obtain rfl : i = n := by omega
  go_enter Try.func76, Try.ntmps76
  go_wp2_with fail
  go_quiet (fail)
  go_wp2_with fail
  go_quiet (fail)
  go_wp2_with fail
  go_ret
  refine ⟨_, ?_, ?_, rfl, ?_, ?_⟩
  ·
   exact Int.emod_nonneg _ (by decide)
  ·
   exact Int.le_of_lt_add_one (Int.emod_lt_of_pos _ (by decide))
  ·
   refine ⟨A, i, cap, i, _, Nat.le_refl _, zkf (zqa KH.out), HC.out.below ?_⟩
   exact zwj (zwj ((Below.refl g w).setCell (p := ⟨g, 2, none⟩) (Nat.le_refl _) _) _) _
  ·
   exact grown_drewN (grown_drewN (zqg (World.grownBy.refl w (some g)) 2 _) _) _
set_option maxRecDepth 100000 in
set_option maxHeartbeats 2000000 in
theorem zxd (g : Nat) (n : Int) (w : World) (hc : Crs w g) (h1 : 1 ≤ n) (h2 : n ≤ 9223372036854775807) :
  Calls Try.prog 44 #[.pointer (some ⟨g, 0, none⟩), .int .i64 n] w (DrewI g w 0 (n - 1)) := by
 by_cases hs : n ≤ 256
 ·
  go_enter Try.func44, Try.ntmps44
  go_wp2_with fail
  refine (s_l01Byte g _ hc).mono ?_
  rintro e w1 ⟨x, x1, x2, rfl, hc1, hg1⟩
  go_wp2_with fail
  go_ret
  exact ⟨x % n, Int.emod_nonneg _ (by omega), by have := Int.emod_lt_of_pos x (show 0 < n by omega); omega, rfl, hc1, hg1⟩
 ·
  go_enter Try.func44, Try.ntmps44
  go_wp2_with fail
  refine (s_l01Byte g _ hc).mono ?_
  rintro e w1 ⟨x, x1, x2, rfl, hc1, hg1⟩
  go_wp2_with fail
  refine (s_l01Byte g _ hc1).mono ?_
  rintro e w2 ⟨y, y1, y2, rfl, hc2, hg2⟩
  go_wp2_with fail
  refine (s_l01Byte g _ hc2).mono ?_
  rintro e w3 ⟨z, z1, z2, rfl, hc3, hg3⟩
  go_wp2_with fail
  refine (s_l01Byte g _ hc3).mono ?_
  rintro e w4 ⟨v, v1, v2, rfl, hc4, hg4⟩
  go_wp2_with fail
  go_ret
  exact ⟨(x * 16777216 + y * 65536 + z * 256 + v) % n, Int.emod_nonneg _ (by omega), by have := Int.emod_lt_of_pos (x * 16777216 + y * 65536 + z * 256 + v) (show 0 < n by omega); omega, rfl, hc4, zqj (zqj (zqj hg1 hg2) hg3) hg4⟩
set_option maxRecDepth 100000 in
set_option maxHeartbeats 4000000 in
theorem s_l01Raw (g : Nat) (w : World) (hc : Crs w g) :
  Calls Try.prog 57 #[.pointer (some ⟨g, 0, none⟩)] w (DrewI g w (-9223372036854775808) 9223372036854775807) := by
 go_enter Try.func57, Try.ntmps57
 go_wp2_with fail
 refine (zxd g 11 _ hc (by decide) (by decide)).mono ?_
 rintro e w1 ⟨k, k1, k2, rfl, hc1, hg1⟩
 have hcase : (k < 4) ∨ k = 4 ∨ k = 5 ∨ k = 6 ∨ k = 7 ∨ k = 8 ∨ k = 9 ∨ k = 10 := by omega
 rcases hcase with h | rfl | rfl | rfl | rfl | rfl | rfl | rfl
 ·
  have h' : decide (k < 4) = true := decide_eq_true h
  go_wp2_with fail
  refine (zxd g 30 _ hc1 (by decide) (by decide)).mono ?_
  rintro e w2 ⟨x, x1, x2, rfl, hc2, hg2⟩
  go_wp2_with fail
  go_ret
  exact ⟨_, by omega, by omega, rfl, hc2, zqj hg1 hg2⟩
 ·
  go_wp2_with fail
  refine (zxd g 3 _ hc1 (by decide) (by decide)).mono ?_
  rintro e w2 ⟨x, x1, x2, rfl, hc2, hg2⟩
  go_wp2_with fail
  go_ret
  exact ⟨_, by omega, by omega, rfl, hc2, zqj hg1 hg2⟩
 ·
  go_wp2_with fail
  refine (zxd g 3 _ hc1 (by decide) (by decide)).mono ?_
  rintro e w2 ⟨x, x1, x2, rfl, hc2, hg2⟩
  go_wp2_with fail
  go_ret
  exact ⟨_, by omega, by omega, rfl, hc2, zqj hg1 hg2⟩
 ·
  go_wp2_with fail
  refine (zxd g 2 _ hc1 (by decide) (by decide)).mono ?_
  rintro e w2 ⟨x, x1, x2, rfl, hc2, hg2⟩
  go_wp2_with fail
  go_ret
  exact ⟨_, by omega, by omega, rfl, hc2, zqj hg1 hg2⟩
 ·
  go_wp2_with fail
  refine (zxd g 2 _ hc1 (by decide) (by decide)).mono ?_
  rintro e w2 ⟨x, x1, x2, rfl, hc2, hg2⟩
  go_wp2_with fail
  go_ret
  exact ⟨_, by omega, by omega, rfl, hc2, zqj hg1 hg2⟩
 ·
  go_wp2_with fail
  refine (zxd g 3 _ hc1 (by decide) (by decide)).mono ?_
  rintro e w2 ⟨x, x1, x2, rfl, hc2, hg2⟩
  go_wp2_with fail
  go_ret
  exact ⟨_, by omega, by omega, rfl, hc2, zqj hg1 hg2⟩
 ·
  go_wp2_with fail
  refine (zxd g 51 _ hc1 (by decide) (by decide)).mono ?_
  rintro e w2 ⟨x, x1, x2, rfl, hc2, hg2⟩
  go_wp2_with fail
  go_ret
  exact ⟨_, (wrap64_le _).1, (wrap64_le _).2, rfl, hc2, zqj hg1 hg2⟩
 ·
  go_wp2_with fail
  refine (zxd g 1000000 _ hc1 (by decide) (by decide)).mono ?_
  rintro e w2 ⟨x, x1, x2, rfl, hc2, hg2⟩
  go_wp2_with fail
  refine (zxd g 1000000 _ hc2 (by decide) (by decide)).mono ?_
  rintro e w3 ⟨y, y1, y2, rfl, hc3, hg3⟩
  go_wp2_with fail
  go_ret
  exact ⟨_, (wrap64_le _).1, (wrap64_le _).2, rfl, hc3, zqj (zqj hg1 hg2) hg3⟩
end Go.Proofs.Ytcjbjpobpefehaa
