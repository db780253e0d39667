/- Books as a law's result: the laws' helpers that mark. -/
import Derived.Test.YtcjbjpobpefehaaGreatDoorRows
import Derived.Test.YtcjbjpobpefehaaGreatDoorBookF
import Derived.Test.YtcjbjpobpefehaaGreatDoorM1
import Derived.IntWalk
namespace Go.Proofs.YtcjbjpobpefehaaGreatDoor
open Go.RowKit

set_option maxRecDepth 100000 in
set_option maxHeartbeats 1000000 in
theorem l_markChanS (B : Nat) (v : Value) (rows : List (List Value)) (k : Int) (w : World) (h0 : 0 ≤ k) (h1 : k ≤ 1099511627776) (hl : rows.length ≤ 1048576) (how : Ow w B 44 7 v rows) :
    Calls Tryz.prog 35 #[v, .int .i64 k] w fun e w' => e = .returned (.int .i64 (k + (rows.length * 7 : Nat))) ∧ (∀ A n cap, v = .slice A n cap → Marked w' A (rows.length * 7) k) ∧ w.grownBy w' v.ownBlock := by
  rcases how.open_ with ⟨rfl, rfl⟩ | ⟨g, cap, rfl, _, hcap, hgw⟩
  · clear how
    go_enter Tryz.func35, Tryz.ntmps35
    go_wp2_with fail
    go_loopw [1, 5] (fun q i wr => i = .int .i64 0 ∧ q = .int .i64 k ∧ wr = w) (fun _ i _ => 0)
    case atStart => exact ⟨rfl, rfl, rfl⟩
    case round =>
      obtain ⟨rfl, rfl, rfl⟩ := hrel
      go_wp2
      go_ret
      exact ⟨by simp, fun A n cap hv h => by simp at h, World.grownBy.refl _ _⟩
  · have hfs : Fill w g 44 (cap * 7) 0 (markRow k (rows.length * 7)) := Fill.of_ow how
    obtain ⟨m, hm⟩ : ∃ m, rows.length = m := ⟨_, rfl⟩
    rw [hm] at hfs hcap hl ⊢
    have hcm : m * 7 ≤ cap * 7 := Nat.mul_le_mul_right _ hcap
    have HFS := Lib.hid hfs
    clear hfs how hm
    go_enter Tryz.func35, Tryz.ntmps35
    go_wp2_with fail
    go_loopw [1, 5] (fun q i wr => ∃ j : Nat, j ≤ m ∧ i = .int .i64 j ∧ q = .int .i64 (k + (j * 7 : Nat)) ∧ Fill wr g 44 (cap * 7) (j * 7) (markRow k (m * 7)) ∧ w.grownBy wr (some g)) (fun _ i _ => m - (intOf i).toNat)
    case atStart => exact ⟨0, Nat.zero_le _, rfl, by simp, by rw [Nat.zero_mul]; exact HFS.out, World.grownBy.refl _ _⟩
    case round =>
      obtain ⟨i, hi, rfl, rfl, hfill, hgr⟩ := hrel
      have hglt := hfill.lt
      have hff := hfill.frozen
      have HF := Lib.hid hfill
      have HG := Lib.hid hgr
      by_cases hlt : i < m
      · have him : i * 7 + 7 ≤ m * 7 := by
          have := Nat.mul_le_mul_right 7 hlt
          rw [Nat.succ_mul] at this
          exact this
        obtain ⟨o0, q0⟩ := hfill.cell (j := i * 7) (by omega)
        obtain ⟨o1, q1⟩ := hfill.cell (j := i * 7 + 1) (by omega)
        obtain ⟨o2, q2⟩ := hfill.cell (j := i * 7 + 2) (by omega)
        obtain ⟨o3, q3⟩ := hfill.cell (j := i * 7 + 3) (by omega)
        obtain ⟨o4, q4⟩ := hfill.cell (j := i * 7 + 4) (by omega)
        obtain ⟨o5, q5⟩ := hfill.cell (j := i * 7 + 5) (by omega)
        obtain ⟨o6, q6⟩ := hfill.cell (j := i * 7 + 6) (by omega)
        clear hfill hgr HFS
        go_wp2_with fail
        go_roundw
        case rel => exact ⟨i + 1, by omega, by go_num, by congr 1; omega, by rw [Nat.succ_mul]; exact (Fill.set (Fill.set (Fill.set (Fill.set (Fill.set (Fill.set (Fill.set HF.out (by rw [markRow_get _ (by omega)]; congr 2 <;> omega) (by omega)) (by rw [markRow_get _ (by omega)]; congr 2 <;> omega) (by omega)) (by rw [markRow_get _ (by omega)]; congr 2 <;> omega) (by omega)) (by rw [markRow_get _ (by omega)]; congr 2 <;> omega) (by omega)) (by rw [markRow_get _ (by omega)]; congr 2 <;> omega) (by omega)) (by rw [markRow_get _ (by omega)]; congr 2 <;> omega) (by omega)) (by rw [markRow_get _ (by omega)]; congr 2 <;> omega) (by omega)), (grown_set (grown_set (grown_set (grown_set (grown_set (grown_set (grown_set HG.out _ _) _ _) _ _) _ _) _ _) _ _) _ _)⟩
        case measure => simp [intOf]; omega
      · obtain rfl : i = m := by omega
        clear hfill hgr HFS
        go_wp2
        go_ret
        refine ⟨rfl, fun A n cap' hv => ?_, HG.out⟩
        injection hv with hv1
        rw [← hv1]
        exact Fill.marked HF.out
set_option maxHeartbeats 1000000 in
theorem l_heldChanS (A : Option Addr) (m cap : Nat) (k : Int) (w : World) (h0 : 0 ≤ k) (h1 : k ≤ 1099511627776) (hl : m ≤ 1048576) (hmk : Marked w A (m * 7) k) :
    Calls Tryz.prog 38 #[.slice A m cap, .int .i64 k] w fun e w' => e = .returned (.int .i64 (k + (m * 7 : Nat))) ∧ w = w' := by
  have HM := Lib.hid hmk
  clear hmk
  go_enter Tryz.func38, Tryz.ntmps38
  go_wp2_with fail
  go_loop [1, 5] (fun q i => ∃ j : Nat, j ≤ m ∧ i = .int .i64 j ∧ q = .int .i64 (k + (j * 7 : Nat))) (fun _ i => m - (intOf i).toNat)
  case atStart => exact ⟨0, Nat.zero_le _, rfl, by simp⟩
  case round =>
    obtain ⟨i, hi, rfl, rfl⟩ := hrel
    by_cases hlt : i < m
    · have him : i * 7 + 7 ≤ m * 7 := by
        have := Nat.mul_le_mul_right 7 hlt
        rw [Nat.succ_mul] at this
        exact this
      obtain ⟨g, rfl, hg, hc⟩ := HM.out (by omega)
      have q0 := hc (i * 7) (by omega)
      have q1 := hc (i * 7 + 1) (by omega)
      have q2 := hc (i * 7 + 2) (by omega)
      have q3 := hc (i * 7 + 3) (by omega)
      have q4 := hc (i * 7 + 4) (by omega)
      have q5 := hc (i * 7 + 5) (by omega)
      have q6 := hc (i * 7 + 6) (by omega)
      clear hc
      go_wp2_with fail
      go_round
      case rel => exact ⟨i + 1, by omega, by go_num, by congr 1; omega⟩
      case measure => simp [intOf]; omega
    · obtain rfl : i = m := by omega
      go_wp2
      go_ret
      exact ⟨rfl, rfl⟩
set_option maxRecDepth 100000 in
set_option maxHeartbeats 1000000 in
theorem l_markCircleS (B : Nat) (v : Value) (rows : List (List Value)) (k : Int) (w : World) (h0 : 0 ≤ k) (h1 : k ≤ 1099511627776) (hl : rows.length ≤ 1048576) (how : Ow w B 49 5 v rows) :
    Calls Tryz.prog 37 #[v, .int .i64 k] w fun e w' => e = .returned (.int .i64 (k + (rows.length * 5 : Nat))) ∧ (∀ A n cap, v = .slice A n cap → Marked w' A (rows.length * 5) k) ∧ w.grownBy w' v.ownBlock := by
  rcases how.open_ with ⟨rfl, rfl⟩ | ⟨g, cap, rfl, _, hcap, hgw⟩
  · clear how
    go_enter Tryz.func37, Tryz.ntmps37
    go_wp2_with fail
    go_loopw [1, 5] (fun q i wr => i = .int .i64 0 ∧ q = .int .i64 k ∧ wr = w) (fun _ i _ => 0)
    case atStart => exact ⟨rfl, rfl, rfl⟩
    case round =>
      obtain ⟨rfl, rfl, rfl⟩ := hrel
      go_wp2
      go_ret
      exact ⟨by simp, fun A n cap hv h => by simp at h, World.grownBy.refl _ _⟩
  · have hfs : Fill w g 49 (cap * 5) 0 (markRow k (rows.length * 5)) := Fill.of_ow how
    obtain ⟨m, hm⟩ : ∃ m, rows.length = m := ⟨_, rfl⟩
    rw [hm] at hfs hcap hl ⊢
    have hcm : m * 5 ≤ cap * 5 := Nat.mul_le_mul_right _ hcap
    have HFS := Lib.hid hfs
    clear hfs how hm
    go_enter Tryz.func37, Tryz.ntmps37
    go_wp2_with fail
    go_loopw [1, 5] (fun q i wr => ∃ j : Nat, j ≤ m ∧ i = .int .i64 j ∧ q = .int .i64 (k + (j * 5 : Nat)) ∧ Fill wr g 49 (cap * 5) (j * 5) (markRow k (m * 5)) ∧ w.grownBy wr (some g)) (fun _ i _ => m - (intOf i).toNat)
    case atStart => exact ⟨0, Nat.zero_le _, rfl, by simp, by rw [Nat.zero_mul]; exact HFS.out, World.grownBy.refl _ _⟩
    case round =>
      obtain ⟨i, hi, rfl, rfl, hfill, hgr⟩ := hrel
      have hglt := hfill.lt
      have hff := hfill.frozen
      have HF := Lib.hid hfill
      have HG := Lib.hid hgr
      by_cases hlt : i < m
      · have him : i * 5 + 5 ≤ m * 5 := by
          have := Nat.mul_le_mul_right 5 hlt
          rw [Nat.succ_mul] at this
          exact this
        obtain ⟨o0, q0⟩ := hfill.cell (j := i * 5) (by omega)
        obtain ⟨o1, q1⟩ := hfill.cell (j := i * 5 + 1) (by omega)
        obtain ⟨o2, q2⟩ := hfill.cell (j := i * 5 + 2) (by omega)
        obtain ⟨o3, q3⟩ := hfill.cell (j := i * 5 + 3) (by omega)
        obtain ⟨o4, q4⟩ := hfill.cell (j := i * 5 + 4) (by omega)
        clear hfill hgr HFS
        go_wp2_with fail
        go_roundw
        case rel => exact ⟨i + 1, by omega, by go_num, by congr 1; omega, by rw [Nat.succ_mul]; exact (Fill.set (Fill.set (Fill.set (Fill.set (Fill.set HF.out (by rw [markRow_get _ (by omega)]; congr 2 <;> omega) (by omega)) (by rw [markRow_get _ (by omega)]; congr 2 <;> omega) (by omega)) (by rw [markRow_get _ (by omega)]; congr 2 <;> omega) (by omega)) (by rw [markRow_get _ (by omega)]; congr 2 <;> omega) (by omega)) (by rw [markRow_get _ (by omega)]; congr 2 <;> omega) (by omega)), (grown_set (grown_set (grown_set (grown_set (grown_set HG.out _ _) _ _) _ _) _ _) _ _)⟩
        case measure => simp [intOf]; omega
      · obtain rfl : i = m := by omega
        clear hfill hgr HFS
        go_wp2
        go_ret
        refine ⟨rfl, fun A n cap' hv => ?_, HG.out⟩
        injection hv with hv1
        rw [← hv1]
        exact Fill.marked HF.out
set_option maxHeartbeats 1000000 in
theorem l_heldCircleS (A : Option Addr) (m cap : Nat) (k : Int) (w : World) (h0 : 0 ≤ k) (h1 : k ≤ 1099511627776) (hl : m ≤ 1048576) (hmk : Marked w A (m * 5) k) :
    Calls Tryz.prog 40 #[.slice A m cap, .int .i64 k] w fun e w' => e = .returned (.int .i64 (k + (m * 5 : Nat))) ∧ w = w' := by
  have HM := Lib.hid hmk
  clear hmk
  go_enter Tryz.func40, Tryz.ntmps40
  go_wp2_with fail
  go_loop [1, 5] (fun q i => ∃ j : Nat, j ≤ m ∧ i = .int .i64 j ∧ q = .int .i64 (k + (j * 5 : Nat))) (fun _ i => m - (intOf i).toNat)
  case atStart => exact ⟨0, Nat.zero_le _, rfl, by simp⟩
  case round =>
    obtain ⟨i, hi, rfl, rfl⟩ := hrel
    by_cases hlt : i < m
    · have him : i * 5 + 5 ≤ m * 5 := by
        have := Nat.mul_le_mul_right 5 hlt
        rw [Nat.succ_mul] at this
        exact this
      obtain ⟨g, rfl, hg, hc⟩ := HM.out (by omega)
      have q0 := hc (i * 5) (by omega)
      have q1 := hc (i * 5 + 1) (by omega)
      have q2 := hc (i * 5 + 2) (by omega)
      have q3 := hc (i * 5 + 3) (by omega)
      have q4 := hc (i * 5 + 4) (by omega)
      clear hc
      go_wp2_with fail
      go_round
      case rel => exact ⟨i + 1, by omega, by go_num, by congr 1; omega⟩
      case measure => simp [intOf]; omega
    · obtain rfl : i = m := by omega
      go_wp2
      go_ret
      exact ⟨rfl, rfl⟩
def markValH (k : Int) (j : Nat) : Value := if j % 7 = 5 then .bool (((k + j) % 3 == 0)) else .int .i64 (k + j)
theorem boolH3 (x y : Int) (h : x = y) : some (Value.bool (x % 3 == 0)) = some (Value.bool (y % 3 == 0)) := by rw [h]
theorem boolH3d (x y : Int) (h : x = y) : some (Value.bool (x % 3 == 0)) = some (Value.bool (decide (y % 3 = 0))) := by
  subst h
  by_cases q : x % 3 = 0 <;> simp [q]
theorem markValH_int (k : Int) {j : Nat} (h : j % 7 ≠ 5) : markValH k j = .int .i64 (k + j) := if_neg h
theorem markValH_bool (k : Int) {j : Nat} (h : j % 7 = 5) : markValH k j = .bool (((k + j) % 3 == 0)) := if_pos h
def MarkedH (w : World) (A : Option Addr) (N : Nat) (k : Int) : Prop := 0 < N → ∃ g, A = some ⟨g, 0, none⟩ ∧ g < w.heap.size ∧ ∀ j : Nat, j < N → w.cell? ⟨g, j, none⟩ = some (markValH k j)
theorem MarkedH.below {w w' : World} {A : Option Addr} {N : Nat} {k : Int} (h : MarkedH w A N k) (hb : Below w.heap.size w w') : MarkedH w' A N k := fun h0 => by
  obtain ⟨g, e, hg, hc⟩ := h h0
  exact ⟨g, e, Nat.lt_of_lt_of_le hg hb.size, fun j hj => (hb.cell (p := ⟨g, j, none⟩) hg).trans (hc j hj)⟩
theorem MarkedH.grown {w w' : World} {A : Option Addr} {N n cap : Nat} {k : Int} {row : Option Nat} (h : MarkedH w A N k) (hg : w.grownBy w' row) (hne : (Value.slice A n cap).ownBlock = none ∨ (Value.slice A n cap).ownBlock ≠ row) : MarkedH w' A N k := fun h0 => by
  obtain ⟨g, rfl, hgl, hc⟩ := h h0
  have hne' : some g ≠ row := by
    rcases hne with h | h
    · simp [Value.ownBlock] at h
    · simpa [Value.ownBlock] using h
  exact ⟨g, rfl, Nat.lt_of_lt_of_le hgl hg.size, fun j hj => (hg.cell_far ⟨g, j, none⟩ hgl hne').trans (hc j hj)⟩
theorem Marked.grown {w w' : World} {A : Option Addr} {N n cap : Nat} {k : Int} {row : Option Nat} (h : Marked w A N k) (hg : w.grownBy w' row) (hne : (Value.slice A n cap).ownBlock = none ∨ (Value.slice A n cap).ownBlock ≠ row) : Marked w' A N k := fun h0 => by
  obtain ⟨g, rfl, hgl, hc⟩ := h h0
  have hne' : some g ≠ row := by
    rcases hne with h | h
    · simp [Value.ownBlock] at h
    · simpa [Value.ownBlock] using h
  exact ⟨g, rfl, Nat.lt_of_lt_of_le hgl hg.size, fun j hj => (hg.cell_far ⟨g, j, none⟩ hgl hne').trans (hc j hj)⟩
theorem Ow.differ_ {w : World} {B B' n n' : Nat} {e e' : TypeId} {v v' : Value} {rows rows' : List (List Value)} (h : Ow w B e n v rows) (h' : Ow w B' e' n' v' rows') (hne : e ≠ e') : v.ownBlock = none ∨ v.ownBlock ≠ v'.ownBlock := by
  rcases h.2.2 with ⟨rfl, _⟩ | ⟨g, cap, cur, rfl, _, hh, _⟩
  · exact .inl rfl
  · exact .inr (h'.ne_ hh (fun e => hne e.symm))
def markRowH (k : Int) (N : Nat) : List Value := (List.range N).map (markValH k)
theorem markRowH_get (k : Int) {N j : Nat} (h : j < N) : (markRowH k N)[j]? = some (markValH k j) := by simp [markRowH, h]
theorem markRowH_int (k : Int) {N j : Nat} (h : j < N) (h6 : j % 7 ≠ 5) : (markRowH k N)[j]? = some (.int .i64 (k + j)) := by rw [markRowH_get k h, markValH_int k h6]
theorem markRowH_bool (k : Int) {N j : Nat} (h : j < N) (h6 : j % 7 = 5) : (markRowH k N)[j]? = some (.bool (((k + j) % 3 == 0))) := by rw [markRowH_get k h, markValH_bool k h6]
theorem Fill.markedH {w : World} {g N c : Nat} {e : TypeId} {k : Int} (h : Fill w g e N c (markRowH k c)) : MarkedH w (some ⟨g, 0, none⟩) c k := fun _ => by
  obtain ⟨cs, hh, hs, hx⟩ := h
  refine ⟨g, rfl, (Array.getElem?_eq_some_iff.1 hh).1, fun j hj => ?_⟩
  rw [blk_cell hh, hx j hj, markRowH_get k hj]
set_option maxRecDepth 100000 in
set_option maxHeartbeats 1000000 in
theorem l_markHtlcS (B : Nat) (v : Value) (rows : List (List Value)) (k : Int) (w : World) (h0 : 0 ≤ k) (h1 : k ≤ 1099511627776) (hl : rows.length ≤ 1048576) (how : Ow w B 46 7 v rows) :
    Calls Tryz.prog 36 #[v, .int .i64 k] w fun e w' => e = .returned (.int .i64 (k + (rows.length * 7 : Nat))) ∧ (∀ A n cap, v = .slice A n cap → MarkedH w' A (rows.length * 7) k) ∧ w.grownBy w' v.ownBlock := by
  rcases how.open_ with ⟨rfl, rfl⟩ | ⟨g, cap, rfl, _, hcap, hgw⟩
  · clear how
    go_enter Tryz.func36, Tryz.ntmps36
    go_wp2_with fail
    go_loopw [1, 5] (fun q i wr => i = .int .i64 0 ∧ q = .int .i64 k ∧ wr = w) (fun _ i _ => 0)
    case atStart => exact ⟨rfl, rfl, rfl⟩
    case round =>
      obtain ⟨rfl, rfl, rfl⟩ := hrel
      go_wp2
      go_ret
      exact ⟨by simp, fun A n cap hv h => by simp at h, World.grownBy.refl _ _⟩
  · have hfs : Fill w g 46 (cap * 7) 0 (markRowH k (rows.length * 7)) := Fill.of_ow how
    obtain ⟨m, hm⟩ : ∃ m, rows.length = m := ⟨_, rfl⟩
    rw [hm] at hfs hcap hl ⊢
    have hcm : m * 7 ≤ cap * 7 := Nat.mul_le_mul_right _ hcap
    have HFS := Lib.hid hfs
    clear hfs how hm
    go_enter Tryz.func36, Tryz.ntmps36
    go_wp2_with fail
    go_loopw [1, 5] (fun q i wr => ∃ j : Nat, j ≤ m ∧ i = .int .i64 j ∧ q = .int .i64 (k + (j * 7 : Nat)) ∧ Fill wr g 46 (cap * 7) (j * 7) (markRowH k (m * 7)) ∧ w.grownBy wr (some g)) (fun _ i _ => m - (intOf i).toNat)
    case atStart => exact ⟨0, Nat.zero_le _, rfl, by simp, by rw [Nat.zero_mul]; exact HFS.out, World.grownBy.refl _ _⟩
    case round =>
      obtain ⟨i, hi, rfl, rfl, hfill, hgr⟩ := hrel
      have hglt := hfill.lt
      have hff := hfill.frozen
      have HF := Lib.hid hfill
      have HG := Lib.hid hgr
      by_cases hlt : i < m
      · have him : i * 7 + 7 ≤ m * 7 := by
          have := Nat.mul_le_mul_right 7 hlt
          rw [Nat.succ_mul] at this
          exact this
        obtain ⟨o0, q0⟩ := hfill.cell (j := i * 7) (by omega)
        obtain ⟨o1, q1⟩ := hfill.cell (j := i * 7 + 1) (by omega)
        obtain ⟨o2, q2⟩ := hfill.cell (j := i * 7 + 2) (by omega)
        obtain ⟨o3, q3⟩ := hfill.cell (j := i * 7 + 3) (by omega)
        obtain ⟨o4, q4⟩ := hfill.cell (j := i * 7 + 4) (by omega)
        obtain ⟨o5, q5⟩ := hfill.cell (j := i * 7 + 5) (by omega)
        obtain ⟨o6, q6⟩ := hfill.cell (j := i * 7 + 6) (by omega)
        clear hfill hgr HFS
        go_wp2_with fail
        go_roundw
        case rel => exact ⟨i + 1, by omega, by go_num, by congr 1; omega, by rw [Nat.succ_mul]; exact (Fill.set (Fill.set (Fill.set (Fill.set (Fill.set (Fill.set (Fill.set HF.out (by rw [markRowH_int _ (by omega) (by omega)]; congr 2 <;> omega) (by omega)) (by rw [markRowH_int _ (by omega) (by omega)]; congr 2 <;> omega) (by omega)) (by rw [markRowH_int _ (by omega) (by omega)]; congr 2 <;> omega) (by omega)) (by rw [markRowH_int _ (by omega) (by omega)]; congr 2 <;> omega) (by omega)) (by rw [markRowH_int _ (by omega) (by omega)]; congr 2 <;> omega) (by omega)) (by rw [markRowH_bool _ (by omega) (by omega)]; first | rfl | exact boolH3 _ _ (by omega) | exact boolH3d _ _ (by omega)) (by omega)) (by rw [markRowH_int _ (by omega) (by omega)]; congr 2 <;> omega) (by omega)), (grown_set (grown_set (grown_set (grown_set (grown_set (grown_set (grown_set HG.out _ _) _ _) _ _) _ _) _ _) _ _) _ _)⟩
        case measure => simp [intOf]; omega
      · obtain rfl : i = m := by omega
        clear hfill hgr HFS
        go_wp2
        go_ret
        refine ⟨rfl, fun A n cap' hv => ?_, HG.out⟩
        injection hv with hv1
        rw [← hv1]
        exact Fill.markedH HF.out
set_option maxHeartbeats 1000000 in
theorem l_heldHtlcS (A : Option Addr) (m cap : Nat) (k : Int) (w : World) (h0 : 0 ≤ k) (h1 : k ≤ 1099511627776) (hl : m ≤ 1048576) (hmk : MarkedH w A (m * 7) k) :
    Calls Tryz.prog 39 #[.slice A m cap, .int .i64 k] w fun e w' => e = .returned (.int .i64 (k + (m * 7 : Nat))) ∧ w = w' := by
  have HM := Lib.hid hmk
  clear hmk
  go_enter Tryz.func39, Tryz.ntmps39
  go_wp2_with fail
  go_loop [1, 5] (fun q i => ∃ j : Nat, j ≤ m ∧ i = .int .i64 j ∧ q = .int .i64 (k + (j * 7 : Nat))) (fun _ i => m - (intOf i).toNat)
  case atStart => exact ⟨0, Nat.zero_le _, rfl, by simp⟩
  case round =>
    obtain ⟨i, hi, rfl, rfl⟩ := hrel
    by_cases hlt : i < m
    · have him : i * 7 + 7 ≤ m * 7 := by
        have := Nat.mul_le_mul_right 7 hlt
        rw [Nat.succ_mul] at this
        exact this
      obtain ⟨g, rfl, hg, hc⟩ := HM.out (by omega)
      have q0 := (hc (i * 7) (by omega)).trans (congrArg some (markValH_int k (j := i * 7) (by omega)))
      have q1 := (hc (i * 7 + 1) (by omega)).trans (congrArg some (markValH_int k (j := i * 7 + 1) (by omega)))
      have q2 := (hc (i * 7 + 2) (by omega)).trans (congrArg some (markValH_int k (j := i * 7 + 2) (by omega)))
      have q3 := (hc (i * 7 + 3) (by omega)).trans (congrArg some (markValH_int k (j := i * 7 + 3) (by omega)))
      have q4 := (hc (i * 7 + 4) (by omega)).trans (congrArg some (markValH_int k (j := i * 7 + 4) (by omega)))
      have q5 : w.cell? ⟨g, i * 7 + 5, none⟩ = some (.bool ((k + ((i * 7 : Nat) : Int) + 1 + 1 + 1 + 1 + 1) % 3 == 0)) := by
        rw [hc (i * 7 + 5) (by omega), markValH_bool k (by omega), show k + ((i * 7 + 5 : Nat) : Int) = k + ((i * 7 : Nat) : Int) + 1 + 1 + 1 + 1 + 1 by omega]
      have q6 := (hc (i * 7 + 6) (by omega)).trans (congrArg some (markValH_int k (j := i * 7 + 6) (by omega)))
      clear hc
      go_wp2_with fail
      go_round
      case rel => exact ⟨i + 1, by omega, by go_num, by congr 1; omega⟩
      case measure => simp [intOf]; omega
    · obtain rfl : i = m := by omega
      go_wp2
      go_ret
      exact ⟨rfl, rfl⟩
/-- the three slices of a book are marked -/
structure MarkedB (w : World) (A1 A2 A3 : Option Addr) (n1 n2 n3 : Nat) (k : Int) : Prop where
  c : Marked w A1 (n1 * 7) k
  h : MarkedH w A2 (n2 * 7) (k + (n1 * 7 : Nat))
  o : Marked w A3 (n3 * 5) (k + (n1 * 7 : Nat) + (n2 * 7 : Nat))
theorem MarkedB.below {w w' : World} {A1 A2 A3 : Option Addr} {n1 n2 n3 : Nat} {k : Int} (h : MarkedB w A1 A2 A3 n1 n2 n3 k) (hb : Below w.heap.size w w') : MarkedB w' A1 A2 A3 n1 n2 n3 k := ⟨h.c.below hb, h.h.below hb, h.o.below hb⟩
set_option maxRecDepth 100000 in
set_option maxHeartbeats 2000000 in
theorem l_markBookO (bt bn bw : Int) (B : Nat) (cs : List Chan) (hs : List Htlc) (os : List Circle) (A1 A2 A3 : Option Addr) (p1 p2 p3 : Nat) (k : Int) (w : World) (h0 : 0 ≤ k) (h1 : k ≤ 1048576) (l1 : cs.length ≤ 1048576) (l2 : hs.length ≤ 1048576) (l3 : os.length ≤ 1048576) (hB : B ≤ w.heap.size)
    (f1 : Ow w B 44 7 (.slice A1 cs.length p1) (cs.map Chan.cells)) (f2 : Ow w B 46 7 (.slice A2 hs.length p2) (hs.map Htlc.cells)) (f3 : Ow w B 49 5 (.slice A3 os.length p3) (os.map Circle.cells)) :
    Calls Tryz.prog 14 #[.agg #[.int .i64 bt, .int .i64 bn, .int .i64 bw, .slice A1 cs.length p1, .slice A2 hs.length p2, .slice A3 os.length p3], .int .i64 k] w fun e w' => e = .returned (.int .i64 (k + (cs.length * 7 : Nat) + (hs.length * 7 : Nat) + (os.length * 5 : Nat))) ∧ MarkedB w' A1 A2 A3 cs.length hs.length os.length k ∧ Below B w w' ∧ Fr [44, 46, 49] w w' := by
  have F1 := Lib.hid (f1.alloc (.cells #[.int .i64 bt, .int .i64 bn, .int .i64 bw, .slice A1 cs.length p1, .slice A2 hs.length p2, .slice A3 os.length p3] 27))
  have F2 := Lib.hid (f2.alloc (.cells #[.int .i64 bt, .int .i64 bn, .int .i64 bw, .slice A1 cs.length p1, .slice A2 hs.length p2, .slice A3 os.length p3] 27))
  have F3 := Lib.hid (f3.alloc (.cells #[.int .i64 bt, .int .i64 bn, .int .i64 bw, .slice A1 cs.length p1, .slice A2 hs.length p2, .slice A3 os.length p3] 27))
  have E1 : (cs.map Chan.cells).length = cs.length := List.length_map ..
  have E2 : (hs.map Htlc.cells).length = hs.length := List.length_map ..
  have E3 : (os.map Circle.cells).length = os.length := List.length_map ..
  have HE1 := Lib.hid E1
  have HE2 := Lib.hid E2
  have HE3 := Lib.hid E3
  clear f1 f2 f3 E1 E2 E3
  go_enter Tryz.func14, Tryz.ntmps14
  go_wp2_with fail
  refine (l_markChanS B _ (cs.map Chan.cells) k _ h0 (by omega) (by rw [HE1.out]; exact l1) F1.out).mono ?_
  rintro e w1 ⟨rfl, hm1, hg1⟩
  rw [HE1.out] at hm1 ⊢
  obtain ⟨kh, k0, k1, k2, k3, k4, k5, kf, kz⟩ := ownG6 hg1 (g := w.heap.size) (F1.out.ne_ (heap_at rfl) (by decide)) (heap_at rfl)
  have hm1' := hm1 _ _ _ rfl
  have M1 := Lib.hid hm1'
  have G1 := Lib.hid hg1
  have G2 := Lib.hid (F2.out.apart_ F1.out (by decide) hg1)
  have G3 := Lib.hid (F3.out.apart_ F1.out (by decide) hg1)
  have D12 := Lib.hid (Ow.differ_ F1.out F2.out (by decide))
  have D13 := Lib.hid (Ow.differ_ F1.out F3.out (by decide))
  have D23 := Lib.hid (Ow.differ_ F2.out F3.out (by decide))
  have hbA : Below B w w1 := ((Below.refl B w).alloc hB _).grown hg1 (by simp; omega) (fun k e => (F1.out.block k e).1)
  have hfA : Fr [44, 46, 49] w w1 := ((Fr.refl _ _).alloc _).grown F1.out (by decide) hg1
  have HB1 := Lib.hid hbA
  have HF1 := Lib.hid hfA
  have KH := Lib.hid kh
  clear hg1 kh F1 F2 F3 hm1 hm1' hbA hfA
  go_wp2_with fail
  refine (l_markHtlcS B _ (hs.map Htlc.cells) _ _ (by omega) (by omega) (by rw [HE2.out]; exact l2) G2.out).mono ?_
  rintro e w2 ⟨rfl, hm2, hg2⟩
  rw [HE2.out] at hm2 ⊢
  obtain ⟨jh, j0, j1, j2, j3, j4, j5, jf, jz⟩ := ownG6 hg2 (g := w.heap.size) (G2.out.ne_ KH.out (by decide)) KH.out
  have M1b := Lib.hid (Marked.grown (n := cs.length) (cap := p1) M1.out hg2 D12.out)
  have M2 := Lib.hid (hm2 _ _ _ rfl)
  have H3 := Lib.hid (G3.out.apart_ G2.out (by decide) hg2)
  have hbB : Below B w w2 := HB1.out.grown hg2 (by have := HB1.out.size; omega) (fun k e => (G2.out.block k e).1)
  have HB2 := Lib.hid hbB
  have HF2 := Lib.hid (HF1.out.grown G2.out (by decide) hg2)
  clear hg2 jh k0 k1 k2 k3 k4 k5 kf kz KH G2 G3 hm2 hbB M1 G1
  go_wp2_with fail
  refine (l_markCircleS B _ (os.map Circle.cells) _ _ (by omega) (by omega) (by rw [HE3.out]; exact l3) H3.out).mono ?_
  rintro e w3 ⟨rfl, hm3, hg3⟩
  rw [HE3.out] at hm3 ⊢
  have M1c := Lib.hid (Marked.grown (n := cs.length) (cap := p1) M1b.out hg3 D13.out)
  have M2c := Lib.hid (MarkedH.grown (n := hs.length) (cap := p2) M2.out hg3 D23.out)
  have M3 := Lib.hid (hm3 _ _ _ rfl)
  have HB3 := Lib.hid (HB2.out.grown hg3 (by have := HB2.out.size; omega) (fun k e => (H3.out.block k e).1))
  have HF3 := Lib.hid (HF2.out.grown H3.out (by decide) hg3)
  clear hg3 hm3
  go_wp2_with fail
  go_ret
  exact ⟨rfl, ⟨M1c.out, M2c.out, M3.out⟩, HB3.out, HF3.out⟩
set_option maxRecDepth 100000 in
set_option maxHeartbeats 2000000 in
theorem l_heldBookO (bt bn bw : Int) (A1 A2 A3 : Option Addr) (n1 n2 n3 p1 p2 p3 : Nat) (k : Int) (w : World) (h0 : 0 ≤ k) (h1 : k ≤ 1048576) (l1 : n1 ≤ 1048576) (l2 : n2 ≤ 1048576) (l3 : n3 ≤ 1048576) (hm : MarkedB w A1 A2 A3 n1 n2 n3 k) :
    Calls Tryz.prog 15 #[.agg #[.int .i64 bt, .int .i64 bn, .int .i64 bw, .slice A1 n1 p1, .slice A2 n2 p2, .slice A3 n3 p3], .int .i64 k] w fun e w' => e = .returned (.int .i64 (k + (n1 * 7 : Nat) + (n2 * 7 : Nat) + (n3 * 5 : Nat))) ∧ Below w.heap.size w w' := by
  have HM := Lib.hid hm
  have q1 : decide (k + ((n1 * 7 : Nat) : Int) < 0) = false := decide_eq_false (by omega)
  have q2 : decide (k + ((n1 * 7 : Nat) : Int) + ((n2 * 7 : Nat) : Int) < 0) = false := decide_eq_false (by omega)
  have q3 : decide (k + ((n1 * 7 : Nat) : Int) + ((n2 * 7 : Nat) : Int) + ((n3 * 5 : Nat) : Int) < 0) = false := decide_eq_false (by omega)
  clear hm
  go_enter Tryz.func15, Tryz.ntmps15
  go_wp2_with (first | (go_at_call 38; refine (l_heldChanS _ _ _ _ _ h0 (by omega) l1 (HM.out.c.below (by (first | ((repeat' first | (with_reducible (first | exact Below.refl _ _ | assumption | refine Below.setCell ?_ ?_ _ | refine Below.alloc ?_ ?_ _ | refine Below.drew ?_ | refine below_drewN ?_ _ | refine Below.trans ?_ (Below.mono (by assumption) ?_))) | omega | (simp; omega) | (simp; done)); done) | (repeat' first | exact Below.refl _ _ | assumption | refine Below.setCell ?_ (by first | omega | (simp; omega) | (simp; done)) _ | refine Below.alloc ?_ (by first | omega | (simp; omega) | (simp; done)) _ | refine Below.drew ?_ | refine below_drewN ?_ _ | refine Below.trans ?_ (Below.mono (by assumption) (by first | omega | (simp; omega) | (simp; done)))))))).mono ?_; rintro e w' ⟨rfl, rfl⟩) | (go_at_call 39; refine (l_heldHtlcS _ _ _ _ _ (by omega) (by omega) l2 (HM.out.h.below (by (first | ((repeat' first | (with_reducible (first | exact Below.refl _ _ | assumption | refine Below.setCell ?_ ?_ _ | refine Below.alloc ?_ ?_ _ | refine Below.drew ?_ | refine below_drewN ?_ _ | refine Below.trans ?_ (Below.mono (by assumption) ?_))) | omega | (simp; omega) | (simp; done)); done) | (repeat' first | exact Below.refl _ _ | assumption | refine Below.setCell ?_ (by first | omega | (simp; omega) | (simp; done)) _ | refine Below.alloc ?_ (by first | omega | (simp; omega) | (simp; done)) _ | refine Below.drew ?_ | refine below_drewN ?_ _ | refine Below.trans ?_ (Below.mono (by assumption) (by first | omega | (simp; omega) | (simp; done)))))))).mono ?_; rintro e w' ⟨rfl, rfl⟩) | (go_at_call 40; refine (l_heldCircleS _ _ _ _ _ (by omega) (by omega) l3 (HM.out.o.below (by (first | ((repeat' first | (with_reducible (first | exact Below.refl _ _ | assumption | refine Below.setCell ?_ ?_ _ | refine Below.alloc ?_ ?_ _ | refine Below.drew ?_ | refine below_drewN ?_ _ | refine Below.trans ?_ (Below.mono (by assumption) ?_))) | omega | (simp; omega) | (simp; done)); done) | (repeat' first | exact Below.refl _ _ | assumption | refine Below.setCell ?_ (by first | omega | (simp; omega) | (simp; done)) _ | refine Below.alloc ?_ (by first | omega | (simp; omega) | (simp; done)) _ | refine Below.drew ?_ | refine below_drewN ?_ _ | refine Below.trans ?_ (Below.mono (by assumption) (by first | omega | (simp; omega) | (simp; done)))))))).mono ?_; rintro e w' ⟨rfl, rfl⟩))
  go_ret
  refine ⟨rfl, ?_⟩
  (first | ((repeat' first | (with_reducible (first | exact Below.refl _ _ | assumption | refine Below.setCell ?_ ?_ _ | refine Below.alloc ?_ ?_ _ | refine Below.drew ?_ | refine below_drewN ?_ _ | refine Below.trans ?_ (Below.mono (by assumption) ?_))) | omega | (simp; omega) | (simp; done)); done) | (repeat' first | exact Below.refl _ _ | assumption | refine Below.setCell ?_ (by first | omega | (simp; omega) | (simp; done)) _ | refine Below.alloc ?_ (by first | omega | (simp; omega) | (simp; done)) _ | refine Below.drew ?_ | refine below_drewN ?_ _ | refine Below.trans ?_ (Below.mono (by assumption) (by first | omega | (simp; omega) | (simp; done)))))
end Go.Proofs.YtcjbjpobpefehaaGreatDoor
