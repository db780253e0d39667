/- Slices of events as a law's result. -/
import Derived.Test.YtmafdoloidlfeaaRows
import Derived.Test.YtmafdoloidlfeaaBookH0
namespace Go.Proofs.Ytmafdoloidlfeaa
open Go.RowKit

def markVal (k : Int) (j : Nat) : Value := if j % 7 = 6 then .bool (((k + j) % 3 == 0)) else .int .i64 (k + j)
theorem bool3 (x y : Int) (h : x = y) : some (Value.bool (x % 3 == 0)) = some (Value.bool (y % 3 == 0)) := by rw [h]
theorem bool3d (x y : Int) (h : x = y) : some (Value.bool (x % 3 == 0)) = some (Value.bool (decide (y % 3 = 0))) := by
  subst h
  by_cases q : x % 3 = 0 <;> simp [q]
theorem markVal_int (k : Int) {j : Nat} (h : j % 7 ≠ 6) : markVal k j = .int .i64 (k + j) := if_neg h
theorem markVal_bool (k : Int) {j : Nat} (h : j % 7 = 6) : markVal k j = .bool (((k + j) % 3 == 0)) := if_pos h
def MarkedE (w : World) (A : Option Addr) (N : Nat) (k : Int) : Prop := 0 < N → ∃ g, A = some ⟨g, 0, none⟩ ∧ g < w.heap.size ∧ ∀ j : Nat, j < N → w.cell? ⟨g, j, none⟩ = some (markVal k j)
theorem MarkedE.below {w w' : World} {A : Option Addr} {N : Nat} {k : Int} (h : MarkedE w A N k) (hb : Below w.heap.size w w') : MarkedE w' A N k := fun h0 => by
  obtain ⟨g, e, hg, hc⟩ := h h0
  exact ⟨g, e, Nat.lt_of_lt_of_le hg hb.size, fun j hj => (hb.cell (p := ⟨g, j, none⟩) hg).trans (hc j hj)⟩
def markRowE (k : Int) (N : Nat) : List Value := (List.range N).map (markVal k)
theorem markRowE_get (k : Int) {N j : Nat} (h : j < N) : (markRowE k N)[j]? = some (markVal k j) := by simp [markRowE, h]
theorem markRowE_int (k : Int) {N j : Nat} (h : j < N) (h6 : j % 7 ≠ 6) : (markRowE k N)[j]? = some (.int .i64 (k + j)) := by rw [markRowE_get k h, markVal_int k h6]
theorem markRowE_bool (k : Int) {N j : Nat} (h : j < N) (h6 : j % 7 = 6) : (markRowE k N)[j]? = some (.bool (((k + j) % 3 == 0))) := by rw [markRowE_get k h, markVal_bool k h6]
theorem Fill.markedE {w : World} {g N c : Nat} {e : TypeId} {k : Int} (h : Fill w g e N c (markRowE k c)) : MarkedE w (some ⟨g, 0, none⟩) c k := fun _ => by
  obtain ⟨cs, hh, hs, hx⟩ := h
  refine ⟨g, rfl, (Array.getElem?_eq_some_iff.1 hh).1, fun j hj => ?_⟩
  rw [blk_cell hh, hx j hj, markRowE_get k hj]
set_option maxRecDepth 100000 in
set_option maxHeartbeats 1000000 in
theorem l_markEventS (B : Nat) (v : Value) (rows : List (List Value)) (k : Int) (w : World) (h0 : 0 ≤ k) (h1 : k ≤ 1099511627776) (hl : rows.length ≤ 1048576) (how : Ow w B 118 7 v rows) :
    Calls Try.prog 49 #[v, .int .i64 k] w fun e w' => e = .returned (.int .i64 (k + (rows.length * 7 : Nat))) ∧ (∀ A n cap, v = .slice A n cap → MarkedE w' A (rows.length * 7) k) ∧ w.grownBy w' v.ownBlock := by
  rcases how.open_ with ⟨rfl, rfl⟩ | ⟨g, cap, rfl, _, hcap, hgw⟩
  · clear how
    go_enter Try.func49, Try.ntmps49
    go_wp2_with fail
    go_loopw [1, 5] (fun q i wr => i = .int .i64 0 ∧ q = .int .i64 k ∧ wr = w) (fun _ i _ => 0)
    case atStart => exact ⟨rfl, rfl, rfl⟩
    case round =>
      obtain ⟨rfl, rfl, rfl⟩ := hrel
      go_wp2
      go_ret
      exact ⟨by simp, fun A n cap hv h => by simp at h, World.grownBy.refl _ _⟩
  · have hfs : Fill w g 118 (cap * 7) 0 (markRowE k (rows.length * 7)) := Fill.of_ow how
    obtain ⟨m, hm⟩ : ∃ m, rows.length = m := ⟨_, rfl⟩
    rw [hm] at hfs hcap hl ⊢
    have hcm : m * 7 ≤ cap * 7 := Nat.mul_le_mul_right _ hcap
    have HFS := Lib.hid hfs
    clear hfs how hm
    go_enter Try.func49, Try.ntmps49
    go_wp2_with fail
    go_loopw [1, 5] (fun q i wr => ∃ j : Nat, j ≤ m ∧ i = .int .i64 j ∧ q = .int .i64 (k + (j * 7 : Nat)) ∧ Fill wr g 118 (cap * 7) (j * 7) (markRowE k (m * 7)) ∧ w.grownBy wr (some g)) (fun _ i _ => m - (intOf i).toNat)
    case atStart => exact ⟨0, Nat.zero_le _, rfl, by simp, by rw [Nat.zero_mul]; exact HFS.out, World.grownBy.refl _ _⟩
    case round =>
      obtain ⟨i, hi, rfl, rfl, hfill, hgr⟩ := hrel
      have hglt := hfill.lt
      have hff := hfill.frozen
      have HF := Lib.hid hfill
      have HG := Lib.hid hgr
      by_cases hlt : i < m
      · have him : i * 7 + 7 ≤ m * 7 := by
          have := Nat.mul_le_mul_right 7 hlt
          rw [Nat.succ_mul] at this
          exact this
        obtain ⟨o0, q0⟩ := hfill.cell (j := i * 7) (by omega)
        obtain ⟨o1, q1⟩ := hfill.cell (j := i * 7 + 1) (by omega)
        obtain ⟨o2, q2⟩ := hfill.cell (j := i * 7 + 2) (by omega)
        obtain ⟨o3, q3⟩ := hfill.cell (j := i * 7 + 3) (by omega)
        obtain ⟨o4, q4⟩ := hfill.cell (j := i * 7 + 4) (by omega)
        obtain ⟨o5, q5⟩ := hfill.cell (j := i * 7 + 5) (by omega)
        obtain ⟨o6, q6⟩ := hfill.cell (j := i * 7 + 6) (by omega)
        clear hfill hgr HFS
        go_wp2_with fail
        go_roundw
        case rel => exact ⟨i + 1, by omega, by go_num, by congr 1; omega, by rw [Nat.succ_mul]; exact (Fill.set (Fill.set (Fill.set (Fill.set (Fill.set (Fill.set (Fill.set HF.out (by rw [markRowE_int _ (by omega) (by omega)]; congr 2 <;> omega) (by omega)) (by rw [markRowE_int _ (by omega) (by omega)]; congr 2 <;> omega) (by omega)) (by rw [markRowE_int _ (by omega) (by omega)]; congr 2 <;> omega) (by omega)) (by rw [markRowE_int _ (by omega) (by omega)]; congr 2 <;> omega) (by omega)) (by rw [markRowE_int _ (by omega) (by omega)]; congr 2 <;> omega) (by omega)) (by rw [markRowE_int _ (by omega) (by omega)]; congr 2 <;> omega) (by omega)) (by rw [markRowE_bool _ (by omega) (by omega)]; first | rfl | exact bool3 _ _ (by omega) | exact bool3d _ _ (by omega)) (by omega)), (grown_set (grown_set (grown_set (grown_set (grown_set (grown_set (grown_set HG.out _ _) _ _) _ _) _ _) _ _) _ _) _ _)⟩
        case measure => simp [intOf]; omega
      · obtain rfl : i = m := by omega
        clear hfill hgr HFS
        go_wp2
        go_ret
        refine ⟨rfl, fun A n cap' hv => ?_, HG.out⟩
        injection hv with hv1
        rw [← hv1]
        exact Fill.markedE HF.out
set_option maxHeartbeats 1000000 in
theorem l_heldEventS (A : Option Addr) (m cap : Nat) (k : Int) (w : World) (h0 : 0 ≤ k) (h1 : k ≤ 1099511627776) (hl : m ≤ 1048576) (hmk : MarkedE w A (m * 7) k) :
    Calls Try.prog 50 #[.slice A m cap, .int .i64 k] w fun e w' => e = .returned (.int .i64 (k + (m * 7 : Nat))) ∧ w = w' := by
  have HM := Lib.hid hmk
  clear hmk
  go_enter Try.func50, Try.ntmps50
  go_wp2_with fail
  go_loop [1, 5] (fun q i => ∃ j : Nat, j ≤ m ∧ i = .int .i64 j ∧ q = .int .i64 (k + (j * 7 : Nat))) (fun _ i => m - (intOf i).toNat)
  case atStart => exact ⟨0, Nat.zero_le _, rfl, by simp⟩
  case round =>
    obtain ⟨i, hi, rfl, rfl⟩ := hrel
    by_cases hlt : i < m
    · have him : i * 7 + 7 ≤ m * 7 := by
        have := Nat.mul_le_mul_right 7 hlt
        rw [Nat.succ_mul] at this
        exact this
      obtain ⟨g, rfl, hg, hc⟩ := HM.out (by omega)
      have q0 := (hc (i * 7) (by omega)).trans (congrArg some (markVal_int k (j := i * 7) (by omega)))
      have q1 := (hc (i * 7 + 1) (by omega)).trans (congrArg some (markVal_int k (j := i * 7 + 1) (by omega)))
      have q2 := (hc (i * 7 + 2) (by omega)).trans (congrArg some (markVal_int k (j := i * 7 + 2) (by omega)))
      have q3 := (hc (i * 7 + 3) (by omega)).trans (congrArg some (markVal_int k (j := i * 7 + 3) (by omega)))
      have q4 := (hc (i * 7 + 4) (by omega)).trans (congrArg some (markVal_int k (j := i * 7 + 4) (by omega)))
      have q5 := (hc (i * 7 + 5) (by omega)).trans (congrArg some (markVal_int k (j := i * 7 + 5) (by omega)))
      have q6 : w.cell? ⟨g, i * 7 + 6, none⟩ = some (.bool ((k + ((i * 7 : Nat) : Int) + 1 + 1 + 1 + 1 + 1 + 1) % 3 == 0)) := by
        rw [hc (i * 7 + 6) (by omega), markVal_bool k (by omega), show k + ((i * 7 + 6 : Nat) : Int) = k + ((i * 7 : Nat) : Int) + 1 + 1 + 1 + 1 + 1 + 1 by omega]
      clear hc
      go_wp2_with fail
      go_round
      case rel => exact ⟨i + 1, by omega, by go_num, by congr 1; omega⟩
      case measure => simp [intOf]; omega
    · obtain rfl : i = m := by omega
      go_wp2
      go_ret
      exact ⟨rfl, rfl⟩
end Go.Proofs.Ytmafdoloidlfeaa
