/- Numbers as text: the reference's walk. -/
import Derived.Test.YtcjbjpobpefehaaGreatDoorRows
import Derived.Test.YtcjbjpobpefehaaGreatDoorM1
import Derived.Laws.IdiomStrings
import Derived.Deep.RegionWith
import Derived.IntWalk
namespace Go.Proofs.YtcjbjpobpefehaaGreatDoor
open Go.RowKit

def NumP (n : Int) (w : World) (e : Ending) (w' : World) : Prop := e = .returned (.string ⟨(numL n).toArray⟩) ∧ Below w.heap.size w w'
theorem dig8 {n : Int} (h1 : 0 ≤ n) (h2 : n < 10) : IntKind.u8.wrap (48 + n) = ((UInt8.ofNat (48 + n.toNat)).toNat : Int) := by
  have e : (UInt8.ofNat (48 + n.toNat)).toNat = 48 + n.toNat := by
    rw [UInt8.toNat_ofNat']
    omega
  rw [e]
  simp [IntKind.wrap, IntKind.signed, IntKind.bits]
  omega
theorem dig8m {n : Int} (h1 : 0 ≤ n) (h2 : n < 10) : (48 + max n 0) % 256 = ((UInt8.ofNat (48 + n.toNat)).toNat : Int) := by
  have e : (UInt8.ofNat (48 + n.toNat)).toNat = 48 + n.toNat := by
    rw [UInt8.toNat_ofNat']
    omega
  rw [e]
  omega
theorem below_undrew {B : Nat} {a w' : World} (h : Below B a.drew w') : Below B a w' := ⟨h.os, h.tape, h.output, h.size, h.block⟩
theorem one_back (W : World) (b : Nat) (x : Int) (c : UInt8) (hx : x = (c.toNat : Int)) (h : W.cell? ⟨b, 0, none⟩ = some (.int .u8 x)) :
    (convert 22 9 (.slice (some ⟨b, 0, none⟩) 1 1)).run Tryz.prog W = .ok (.string ⟨#[c]⟩) W := by
  subst hx
  exact run_convert_bytes_back (P := Tryz.prog) W 22 9 5 ⟨b, 0, none⟩ 1 [c] Tryz.underlying22 Tryz.underlying5 Tryz.underlying9 (fun j hj => by
    have hj0 : j = 0 := by simp at hj; omega
    subst hj0
    exact h)
theorem app_str (a b : List UInt8) : (⟨a.toArray⟩ : ByteArray) ++ ⟨b.toArray⟩ = ⟨(a ++ b).toArray⟩ := by
  rw [ByteArray.mk_append_mk]
theorem dig8n {n : Int} (h1 : 0 ≤ n) (h2 : n < 10) : 48 + n = ((UInt8.ofNat (48 + n.toNat)).toNat : Int) := by
  have e : (UInt8.ofNat (48 + n.toNat)).toNat = 48 + n.toNat := by
    rw [UInt8.toNat_ofNat']
    omega
  rw [e]
  omega
theorem digC (n : Int) (h1 : 0 ≤ n) (h2 : n < 10) : ∃ c : UInt8, 48 + n = (c.toNat : Int) ∧ UInt8.ofNat (48 + n.toNat) = c := ⟨_, dig8n h1 h2, rfl⟩
set_option maxRecDepth 100000 in
set_option maxHeartbeats 1000000 in
theorem s_NumText_small (n : Int) (w : World) (h1 : 0 ≤ n) (h2 : n < 10) : Calls Tryz.prog 61 #[.int .i64 n] w (NumP n w) := by
  obtain ⟨c, hc, hl⟩ := digC n h1 h2
  have hcv := one_back (w.alloc (.cells #[.int .u8 (48 + n)] 5)) w.heap.size _ _ hc (blk_cell (heap_at rfl) 0)
  have HE := Lib.hid (show numL n = [c] by rw [numL_small h1 h2, hl])
  clear hc hl
  go_enter Tryz.func61, Tryz.ntmps61
  go_wp2_with fail
  go_ret
  exact ⟨by rw [HE.out]; rfl, (Below.refl _ _).alloc (Nat.le_refl _) _⟩
set_option maxRecDepth 100000 in
set_option maxHeartbeats 400000 in
theorem s_NumText_big (n : Int) (w : World) (h1 : 10 ≤ n) (h2 : n ≤ 1125899906842624) (ih : ∀ W : World, Calls Tryz.prog 61 #[.int .i64 (n / 10)] W (NumP (n / 10) W)) : Calls Tryz.prog 61 #[.int .i64 n] w (NumP n w) := by
  have m0 : 0 ≤ n % 10 := by omega
  have m1 : n % 10 < 10 := by omega
  obtain ⟨c, hc, hl⟩ := digC (n % 10) m0 m1
  have HE := Lib.hid (show numL n = numL (n / 10) ++ [c] by rw [numL_big h1 h2, hl])
  obtain ⟨s, hs⟩ : ∃ s : ByteArray, (⟨(numL (n / 10)).toArray⟩ : ByteArray) = s := ⟨_, rfl⟩
  have z0 : s.size ≤ 17 := by rw [← hs]; exact numL_len (n / 10)
  have IH := Lib.hid (show ∀ (m : Int) (W : World), m = n / 10 → Calls Tryz.prog 61 #[.int .i64 m] W (NumP (n / 10) W) from fun m W h => by subst h; exact ih W)
  have HC := Lib.hid hc
  have HS := Lib.hid hs
  clear ih hc hl hs
  go_enter Tryz.func61, Tryz.ntmps61
  go_wp2_with fail
  obtain ⟨x, hx⟩ : ∃ x, IntKind.u8.wrap (IntKind.i64.wrap (48 + n.tmod 10)) = x := ⟨_, rfl⟩
  have HX := Lib.hid (show x = (c.toNat : Int) by
    rw [← hx, ← HC.out, Int.tmod_eq_emod_of_nonneg (by omega), IntWalk.i64_in (48 + n % 10) ⟨by omega, by omega⟩]
    simp [IntKind.wrap, IntKind.signed, IntKind.bits]
    omega)
  have HX1 := Lib.hid hx
  clear hx
  have hcv0 := one_back (w.alloc (.cells #[.int .u8 (IntKind.u8.wrap (IntKind.i64.wrap (48 + n.tmod 10)))] 5)).drew w.heap.size _ _ (HX1.out.trans HX.out) (blk_cell (heap_at rfl) 0)
  have HH := Lib.hid (show (w.alloc (.cells #[.int .u8 (IntKind.u8.wrap (IntKind.i64.wrap (48 + n.tmod 10)))] 5)).drew.heap[w.heap.size]? = _ from heap_at rfl)
  have HL := Lib.hid (show w.heap.size < (w.alloc (.cells #[.int .u8 (IntKind.u8.wrap (IntKind.i64.wrap (48 + n.tmod 10)))] 5)).drew.heap.size by simp)
  go_region_with (first
      | (go_at_call 61; refine (IH.out _ _ (by rw [Int.tdiv_eq_ediv_of_nonneg (by omega)]; exact IntWalk.i64_in _ ⟨by omega, by omega⟩)).mono ?_; rintro e w1 ⟨rfl, hb1⟩; have z1 := hb1.size; rw [HS.out]; have hcv1 := one_back (w1.alloc (.cells #[.int .u8 (IntKind.u8.wrap (IntKind.i64.wrap (48 + n.tmod 10)))] 5)) w1.heap.size _ _ (HX1.out.trans HX.out) (blk_cell (heap_at rfl) 0); try (have hx : w1.heap[w.heap.size]? = _ := heap_below hb1 HL.out HH.out; have hcv3 := one_back w1 w.heap.size _ _ (HX1.out.trans HX.out) (blk_cell hx 0))))
  all_goals
    clear hcv0
    clear hcv1
    try clear hcv3
    go_wp2_with fail
    go_ret
    refine ⟨?_, by first | ((first | ((repeat' first | (with_reducible (first | exact Below.refl _ _ | assumption | refine Below.setCell ?_ ?_ _ | refine Below.alloc ?_ ?_ _ | refine Below.drew ?_ | refine below_drewN ?_ _ | refine Below.trans ?_ (Below.mono (by assumption) ?_))) | omega | (simp; omega) | (simp; done)); done) | (repeat' first | exact Below.refl _ _ | assumption | refine Below.setCell ?_ (by first | omega | (simp; omega) | (simp; done)) _ | refine Below.alloc ?_ (by first | omega | (simp; omega) | (simp; done)) _ | refine Below.drew ?_ | refine below_drewN ?_ _ | refine Below.trans ?_ (Below.mono (by assumption) (by first | omega | (simp; omega) | (simp; done))))); done) | exact (below_undrew (a := w) hb1).alloc hb1.size _⟩
    show Ending.returned (.string (s ++ ⟨[c].toArray⟩)) = _
    rw [HE.out, ← HS.out, app_str]
set_option maxRecDepth 100000 in
set_option maxHeartbeats 1000000 in
theorem s_NumText_neg (n : Int) (w : World) (h1 : -1125899906842624 ≤ n) (h2 : n < 0) (ih : ∀ W : World, Calls Tryz.prog 61 #[.int .i64 (-n)] W (NumP (-n) W)) : Calls Tryz.prog 61 #[.int .i64 n] w (NumP n w) := by
  have HE := Lib.hid (numL_neg h1 h2)
  obtain ⟨s, hs⟩ : ∃ s : ByteArray, (⟨(numL (-n)).toArray⟩ : ByteArray) = s := ⟨_, rfl⟩
  have z0 : s.size ≤ 17 := by rw [← hs]; exact numL_len (-n)
  have IH := Lib.hid (show ∀ (m : Int) (W : World), m = -n → Calls Tryz.prog 61 #[.int .i64 m] W (NumP (-n) W) from fun m W h => by subst h; exact ih W)
  have HS := Lib.hid hs
  clear ih hs
  go_enter Tryz.func61, Tryz.ntmps61
  go_wp2_with fail
  refine (IH.out _ _ (by first | rfl | go_num)).mono ?_
  rintro e w1 ⟨rfl, hb1⟩
  have z1 := hb1.size
  rw [HS.out]
  go_wp2_with fail
  go_ret
  refine ⟨?_, by (first | ((repeat' first | (with_reducible (first | exact Below.refl _ _ | assumption | refine Below.setCell ?_ ?_ _ | refine Below.alloc ?_ ?_ _ | refine Below.drew ?_ | refine below_drewN ?_ _ | refine Below.trans ?_ (Below.mono (by assumption) ?_))) | omega | (simp; omega) | (simp; done)); done) | (repeat' first | exact Below.refl _ _ | assumption | refine Below.setCell ?_ (by first | omega | (simp; omega) | (simp; done)) _ | refine Below.alloc ?_ (by first | omega | (simp; omega) | (simp; done)) _ | refine Below.drew ?_ | refine below_drewN ?_ _ | refine Below.trans ?_ (Below.mono (by assumption) (by first | omega | (simp; omega) | (simp; done)))))⟩
  show Ending.returned (.string (⟨[45].toArray⟩ ++ s)) = _
  rw [HE.out, ← HS.out, app_str]
  rfl
theorem s_NumText_out (n : Int) (w : World) (h : ¬ (-1125899906842624 ≤ n ∧ n ≤ 1125899906842624)) : Calls Tryz.prog 61 #[.int .i64 n] w (NumP n w) := by
  have HE := Lib.hid (numL_out h)
  by_cases h1 : -1125899906842624 ≤ n
  · have h2 : (1125899906842624 : Int) < n := by omega
    go_enter Tryz.func61, Tryz.ntmps61
    go_wp2_with fail
    go_ret
    exact ⟨by rw [HE.out]; rfl, by (first | ((repeat' first | (with_reducible (first | exact Below.refl _ _ | assumption | refine Below.setCell ?_ ?_ _ | refine Below.alloc ?_ ?_ _ | refine Below.drew ?_ | refine below_drewN ?_ _ | refine Below.trans ?_ (Below.mono (by assumption) ?_))) | omega | (simp; omega) | (simp; done)); done) | (repeat' first | exact Below.refl _ _ | assumption | refine Below.setCell ?_ (by first | omega | (simp; omega) | (simp; done)) _ | refine Below.alloc ?_ (by first | omega | (simp; omega) | (simp; done)) _ | refine Below.drew ?_ | refine below_drewN ?_ _ | refine Below.trans ?_ (Below.mono (by assumption) (by first | omega | (simp; omega) | (simp; done)))))⟩
  · have h2 : n < (-1125899906842624 : Int) := by omega
    go_enter Tryz.func61, Tryz.ntmps61
    go_wp2_with fail
    go_ret
    exact ⟨by rw [HE.out]; rfl, by (first | ((repeat' first | (with_reducible (first | exact Below.refl _ _ | assumption | refine Below.setCell ?_ ?_ _ | refine Below.alloc ?_ ?_ _ | refine Below.drew ?_ | refine below_drewN ?_ _ | refine Below.trans ?_ (Below.mono (by assumption) ?_))) | omega | (simp; omega) | (simp; done)); done) | (repeat' first | exact Below.refl _ _ | assumption | refine Below.setCell ?_ (by first | omega | (simp; omega) | (simp; done)) _ | refine Below.alloc ?_ (by first | omega | (simp; omega) | (simp; done)) _ | refine Below.drew ?_ | refine below_drewN ?_ _ | refine Below.trans ?_ (Below.mono (by assumption) (by first | omega | (simp; omega) | (simp; done)))))⟩
theorem s_NumText_nn : ∀ (k : Nat) (w : World), (k : Int) ≤ 1125899906842624 → Calls Tryz.prog 61 #[.int .i64 (k : Int)] w (NumP k w) := by
  intro k
  induction k using Nat.strongRecOn with
  | ind k ih =>
    intro w hk
    by_cases h10 : k < 10
    · exact s_NumText_small _ _ (by omega) (by omega)
    · refine s_NumText_big _ _ (by omega) hk (fun W => ?_)
      have e : ((k : Int) / 10) = ((k / 10 : Nat) : Int) := by omega
      rw [e]
      exact ih (k / 10) (by omega) W (by omega)
theorem s_NumText (n : Int) (w : World) : Calls Tryz.prog 61 #[.int .i64 n] w (NumP n w) := by
  by_cases h : -1125899906842624 ≤ n ∧ n ≤ 1125899906842624
  · by_cases h0 : 0 ≤ n
    · obtain ⟨k, rfl⟩ : ∃ k : Nat, n = k := ⟨n.toNat, by omega⟩
      exact s_NumText_nn k w h.2
    · refine s_NumText_neg n w h.1 (by omega) (fun W => ?_)
      obtain ⟨k, hk⟩ : ∃ k : Nat, -n = k := ⟨(-n).toNat, by omega⟩
      rw [hk]
      exact s_NumText_nn k W (by omega)
  · exact s_NumText_out n w h
end Go.Proofs.YtcjbjpobpefehaaGreatDoor
