/- Draws of debts, alone. -/
import Derived.Test.YtgpledgjpjifcaaGreatDoorRows
import Derived.Test.YtgpledgjpjifcaaGreatDoorDraw
import Derived.Test.YtgpledgjpjifcaaGreatDoorDebt
import Derived.Test.YtgpledgjpjifcaaGreatDoorApp
import Derived.IntWalk
import Derived.Deep.RegionHeld3
namespace Go.Proofs.YtgpledgjpjifcaaGreatDoor
open Go.RowKit

theorem info_debt1 : (Tryz.prog.info? 38).map (fun i => (i.zero, i.size, i.bytes)) = some (some (.agg #[.int .i64 0, .int .i64 0, .int .i64 0]), 3, 24) := by kernel_rfl
def lenV : Value → Nat
  | .slice _ n _ => n
  | _ => 0
theorem sizeUp1 (w : World) (o : Obj) : (w.alloc o).heap.size = w.heap.size + 1 := by simp
theorem someNe {a b : Nat} (h : a ≠ b) : some a ≠ some b := fun e => h (Option.some.inj e)
theorem grown_alloc {a w : World} {r : Option Nat} (h : a.grownBy w r) (o : Obj) : a.grownBy (w.alloc o) r := grown_trans h (grown_of_below ((Below.refl _ _).alloc (Nat.le_refl _) o))
theorem grown_setNew {a w : World} {r : Option Nat} {b : Nat} (h : a.grownBy w r) (hb : a.heap.size ≤ b) (i : Nat) (u : Value) : a.grownBy (w.setCell ⟨b, i, none⟩ u) r :=
  ⟨h.os, h.tape, h.output, by simpa [World.setCell] using h.size, fun k hk hne => (Below.heap_setCell w ⟨b, i, none⟩ u k (fun e => by simp only at e; omega)).trans (h.block k hk hne)⟩
/-- A store or an append into a block of the call's own, between two of the cursor's steps. -/
theorem grown_own {a w w' : World} {r : Option Nat} {v : Option Nat} (h : a.grownBy w r) (hg : w.grownBy w' v) (hv : ∀ k, v = some k → a.heap.size ≤ k) : a.grownBy w' r :=
  ⟨hg.os.trans h.os, hg.tape.trans h.tape, hg.output.trans h.output, Nat.le_trans h.size hg.size, fun k hk hne => (hg.block k (Nat.lt_of_lt_of_le hk h.size) (fun e => by have := hv _ e.symm; omega)).trans (h.block k hk hne)⟩
def DrewDs (g : Nat) (w : World) (e : Ending) (w' : World) : Prop := ∃ (l : List Debt) (A : Option Addr) (cap : Nat), e = .returned (.slice A l.length cap) ∧ l.length ≤ 70 ∧ Ow w' w.heap.size 38 3 (.slice A l.length cap) (l.map Debt.cells) ∧ Crs w' g ∧ w.grownBy w' (some g)
def setAmt (l : List Debt) (x : Int) : List Debt := match l with
  | [] => []
  | d :: t => ⟨d.From, d.To, x⟩ :: t
def setTo (l : List Debt) (x : Int) : List Debt := match l with
  | [] => []
  | d :: t => ⟨d.From, x, d.Amt⟩ :: t
theorem Ow.setAmt {w : World} {B g n cap : Nat} {e : TypeId} {l : List Debt} (h : Ow w B e 3 (.slice (some ⟨g, 0, none⟩) n cap) (l.map Debt.cells)) (hl : 0 < l.length) (x : Int) :
    Ow (w.setCell ⟨g, 2, none⟩ (.int .i64 x)) B e 3 (.slice (some ⟨g, 0, none⟩) n cap) ((setAmt l x).map Debt.cells) := by
  match l, hl with
  | d :: t, _ =>
    have := h.stored (i := 0) (j := 2) (r := d.cells) rfl (by omega) (.int .i64 x)
    rw [Nat.zero_mul, Nat.zero_add] at this
    exact this
theorem Ow.setTo {w : World} {B g n cap : Nat} {e : TypeId} {l : List Debt} (h : Ow w B e 3 (.slice (some ⟨g, 0, none⟩) n cap) (l.map Debt.cells)) (hl : 0 < l.length) (x : Int) :
    Ow (w.setCell ⟨g, 1, none⟩ (.int .i64 x)) B e 3 (.slice (some ⟨g, 0, none⟩) n cap) ((setTo l x).map Debt.cells) := by
  match l, hl with
  | d :: t, _ =>
    have := h.stored (i := 0) (j := 1) (r := d.cells) rfl (by omega) (.int .i64 x)
    rw [Nat.zero_mul, Nat.zero_add] at this
    exact this
theorem setAmt_len (l : List Debt) (x : Int) : (setAmt l x).length = l.length := by cases l <;> rfl
theorem setTo_len (l : List Debt) (x : Int) : (setTo l x).length = l.length := by cases l <;> rfl
theorem Ow.cells0 {w : World} {B g n cap : Nat} {e : TypeId} {l : List Debt} (h : Ow w B e 3 (.slice (some ⟨g, 0, none⟩) n cap) (l.map Debt.cells)) (hl : 0 < l.length) :
    w.cell? ⟨g, 0, none⟩ = some (.int .i64 l[0].From) ∧ w.cell? ⟨g, 1, none⟩ = some (.int .i64 l[0].To) ∧ w.cell? ⟨g, 2, none⟩ = some (.int .i64 l[0].Amt) := by
  have hk' : (l.map Debt.cells)[0]? = some l[0].cells := by rw [List.getElem?_map, List.getElem?_eq_getElem hl]; rfl
  have h0 := h.cellAt (i := 0) (j := 0) hk' (by omega)
  have h1 := h.cellAt (i := 0) (j := 1) hk' (by omega)
  have h2 := h.cellAt (i := 0) (j := 2) hk' (by omega)
  rw [Nat.zero_mul, Nat.zero_add] at h0 h1 h2
  exact ⟨h0, h1, h2⟩
set_option maxRecDepth 100000 in
set_option maxHeartbeats 4000000 in
theorem s_l19Debts (g : Nat) (w : World) (hc : Crs w g) :
    Calls Tryz.prog 89 #[.pointer (some ⟨g, 0, none⟩)] w (DrewDs g w) := by
  have hgw := hc.lt
  obtain ⟨i0, hi, hz0, hz1, hz2⟩ := info_parts info_debt1
  have HI := Lib.hid hi
  have HZ0 := Lib.hid hz0
  have HZ1 := Lib.hid hz1
  have HZ2 := Lib.hid hz2
  clear hi hz0 hz1 hz2
  have HE0 := Lib.hid (Ow.empty_ (w := w) (g := w.heap.size) (e := 38) (size := 3) (B := w.heap.size) rfl (Nat.le_refl _))
  go_enter Tryz.func89, Tryz.ntmps89
  go_wp2_with fail
  refine (s_l01Below g 10 _ (hc.alloc _) (by decide) (by decide)).mono ?_
  rintro e w1 ⟨N0, n1, n2, rfl, hc1, hg1⟩
  have z1 := hg1.size
  rw [sizeUp1] at z1
  have HE1 := Lib.hid (HE0.out.grown hg1 (.inr (fun e => by simp [Value.ownBlock] at e; omega)))
  have hG1 : w.grownBy w1 (some g) := grown_trans (grown_alloc (World.grownBy.refl _ _) _) hg1
  clear hg1
  go_wp2_with fail
  go_loopw [3, 4] (fun vk i wr => ∃ (N : Int) (L : List Debt) (B : Option Addr) (cp : Nat), 0 ≤ N ∧ N ≤ 9 ∧ i = .int .i64 N ∧ vk = .slice B L.length cp ∧ (L.length : Int) + N ≤ 10 ∧ Ow wr w.heap.size 38 3 (.slice B L.length cp) (L.map Debt.cells) ∧ Crs wr g ∧ w.grownBy wr (some g)) (fun _ i _ => (intOf i).toNat)
  case atStart => exact ⟨N0, [], some ⟨w.heap.size, 0, none⟩, 0, n1, by omega, rfl, rfl, by simp; omega, HE1.out, hc1, hG1⟩
  case round =>
    clear hc1 hG1 z1
    obtain ⟨N, L, B, cp, hN1, hN2, rfl, rfl, hLN, how, hcr, hG⟩ := hrel
    have hbz := hG.size
    have OB := Lib.hid how.block
    have HW := Lib.hid how
    clear how
    by_cases hlt : 0 < N
    · go_wp2_with fail
      refine (s_l01Below g 5 _ hcr (by decide) (by decide)).mono ?_
      rintro e w2 ⟨x, x1, x2, rfl, hc2, hg2⟩
      have z2 := hg2.size
      have HW2 := Lib.hid (HW.out.grown hg2 (by
        cases hv : (Value.slice B L.length cp).ownBlock with
        | none => exact .inl rfl
        | some k => exact .inr (someNe (by have := (OB.out k hv).1; omega))))
      go_wp2_with fail
      refine (s_l01Below g 900 _ hc2 (by decide) (by decide)).mono ?_
      rintro e w3 ⟨y, y1, y2, rfl, hc3, hg3⟩
      have z3 := hg3.size
      have HW3 := Lib.hid (HW2.out.grown hg3 (by
        cases hv : (Value.slice B L.length cp).ownBlock with
        | none => exact .inl rfl
        | some k => exact .inr (someNe (by have := (OB.out k hv).1; omega))))
      have hG3 : w.grownBy w3 (some g) := grown_trans (grown_trans hG hg2) hg3
      clear hg2 hg3 hc2 hG HW2
      go_wp2_with fail
      have c0 : (w3.alloc (.cells #[.int .i64 (1 + x), .int .i64 0, .int .i64 (1 + y)] 38)).cell? ⟨w3.heap.size, 0, none⟩ = some (.int .i64 (1 + x)) := blk_cell (heap_at rfl) 0
      go_region_held3 (fun w' => w'.cell? ⟨w3.heap.size, 0, none⟩ = some (.int .i64 (1 + x))) (first | exact c0 | exact d0 | exact e0 _)
        ((go_at_call 74; refine (s_l01Below g 4 _ ((hc3.alloc _).below ((Below.refl _ _).drew)) (by decide) (by decide)).mono ?_; rintro e w4 ⟨u, u1, u2, rfl, hc4, hg4⟩; have hg4' := grown_undrew hg4; have b4 := heap_grown hg4' (someNe (show w3.heap.size ≠ g by omega)) (heap_at rfl); have d0 := blk_cell b4 0; have d1 := blk_cell b4 1; have d2 := blk_cell b4 2; have dd := blk_frozen b4; simp only [List.getElem?_toArray, List.getElem?_cons_zero, List.getElem?_cons_succ] at d0 d1 d2; have e0 := fun v => blk_cell (heap_set (i := 1) (u := v) b4) 0))
      obtain ⟨V, hV⟩ : ∃ V, IntKind.i64.wrap (1 + (IntKind.i64.wrap (1 + x + u)).tmod 5) = V := ⟨_, rfl⟩
      rw [hV]
      have z4 := hg4'.size
      rw [sizeUp1] at z4
      have OB3 := Lib.hid HW3.out.block
      have HW4 := Lib.hid ((HW3.out.alloc (.cells #[.int .i64 (1 + x), .int .i64 0, .int .i64 (1 + y)] 38)).grown hg4' (by
        cases hv : (Value.slice B L.length cp).ownBlock with
        | none => exact .inl rfl
        | some k => exact .inr (someNe (by have := (OB.out k hv).1; omega))))
      have b5 : (w4.setCell ⟨w3.heap.size, 1, none⟩ (.int .i64 V)).heap[w3.heap.size]? = some (.cells #[.int .i64 (1 + x), .int .i64 V, .int .i64 (1 + y)] 38 (0, 0)) := heap_set b4
      have q0 := blk_cell b5 0
      have q1 := blk_cell b5 1
      have q2 := blk_cell b5 2
      simp only [List.getElem?_toArray, List.getElem?_cons_zero, List.getElem?_cons_succ] at q0 q1 q2
      have HW5 := Lib.hid (HW4.out.grown (grown_set (World.grownBy.refl w4 (some w3.heap.size)) 1 (.int .i64 V)) (by
        cases hv : (Value.slice B L.length cp).ownBlock with
        | none => exact .inl rfl
        | some k => exact .inr (someNe (by have := (OB3.out k hv).2; omega))))
      have hG5 : w.grownBy (w4.setCell ⟨w3.heap.size, 1, none⟩ (.int .i64 V)) (some g) := grown_setNew (grown_trans (grown_alloc hG3 _) hg4') (by omega) _ _
      have hc5 : Crs (w4.setCell ⟨w3.heap.size, 1, none⟩ (.int .i64 V)) g := hc4.set (by omega)
      have hrl : L.length ≤ 10 := by omega
      have KG := Lib.hid (fun o1 (w6 : World) (hgr : ((w4.setCell ⟨w3.heap.size, 1, none⟩ (.int .i64 V)).alloc o1).grownBy w6 (Value.slice B L.length cp).ownBlock) => And.intro (grown_own (grown_alloc hG5 o1) hgr (fun k e => (OB.out k e).1)) ((hc5.alloc o1).grown hgr (fun k e => by have := (OB.out k e).1; omega)))
      clear hV e0 d0 d1 d2 b4 b5 hg4 hg4' hG3 hc3 HW3 HW4
      go_wp2_with (at_builtin; refine wpList_app1 rfl _ _ _ rfl w.heap.size 38 i0 _ 3 24 Tryz.underlying79 HI.out HZ0.out HZ1.out HZ2.out rfl (by decide) (.slice B L.length cp) (L.map Debt.cells) rfl (HW5.out.alloc _) w4.heap.size 1 [.int .i64 (1 + x), .int .i64 V, .int .i64 (1 + y)] 38 rfl (heap_at (by simp)) rfl (by simp [Value.oneCell']) (by rw [List.length_map]; omega) (by decide) (by simp; omega) ?_; intro g6 cap6 w6 how6 hgr6 hat6 hlt6; rw [List.length_map] at how6; rw [List.length_map]; obtain ⟨hG6, hc6⟩ := KG.out _ _ hgr6; have O6 := Lib.hid how6; clear how6 hgr6 hat6)
      go_roundw
      case rel =>
        refine ⟨N - 1, L ++ [⟨1 + x, V, 1 + y⟩], some ⟨g6, 0, none⟩, cap6, by omega, by omega, rfl, by simp, by simp; omega, ?_, hc6, hG6⟩
        rw [List.map_append, List.length_append]
        exact O6.out
      case measure => simp [intOf]; omega
    · obtain rfl : N = 0 := by omega
      have h10 : L.length ≤ 10 := by omega
      go_wp2_with fail
      refine (s_l01Below g 14 _ hcr (by decide) (by decide)).mono ?_
      rintro e w2 ⟨k, k1, k2, rfl, hc2, hg2⟩
      have z2 := hg2.size
      have HW2 := Lib.hid (HW.out.grown hg2 (by
          cases hv : (Value.slice B L.length cp).ownBlock with
          | none => exact .inl rfl
          | some k => exact .inr (someNe (by have := (OB.out k hv).1; omega))))
      have hG2 : w.grownBy w2 (some g) := grown_trans hG hg2
      clear hg2 hG HW hcr hLN hlt
      by_cases hL : L.length = 0
      · have hnil := List.eq_nil_of_length_eq_zero hL
        clear hL
        subst hnil
        rw [show ([] : List Debt).length = 0 from rfl]
        have hcase : k = 0 ∨ k = 1 ∨ k = 2 ∨ k = 3 ∨ 4 ≤ k := by omega
        rcases hcase with rfl | rfl | rfl | rfl | hk
        case inr.inr.inr.inr =>
          have t0 : (k == 0) = false := by simp; omega
          have t1 : (k == 1) = false := by simp; omega
          have t2 : (k == 2) = false := by simp; omega
          have t3 : (k == 3) = false := by simp; omega
          go_wp2_with fail
          go_ret
          exact ⟨[], B, cp, rfl, by decide, HW2.out, hc2, hG2⟩
        all_goals
          go_wp2_with fail
          go_ret
          exact ⟨[], B, cp, rfl, by decide, HW2.out, hc2, hG2⟩
      · have hL' : 0 < L.length := by omega
        have l0 : decide ((0 : Int) < (L.length : Int)) = true := decide_eq_true (by omega)
        obtain ⟨gs, rfl, hgs⟩ : ∃ gs, B = some ⟨gs, 0, none⟩ ∧ w.heap.size ≤ gs := by
          rcases HW2.out.open_ with ⟨h0, _⟩ | ⟨gs, cap', hv, hB, _⟩
          · rw [List.map_eq_nil_iff] at h0
            subst h0
            exact absurd rfl hL
          · injection hv with hv
            exact ⟨gs, hv, hB⟩
        have hne : some gs ≠ some g := someNe (by omega)
        have i1 : (0 : Int) < (L.length : Int) := by omega
        clear hL OB
        have hcase : k = 0 ∨ k = 1 ∨ k = 2 ∨ k = 3 ∨ 4 ≤ k := by omega
        rcases hcase with rfl | rfl | rfl | rfl | hk
        · go_wp2_with fail
          refine (s_l01Raw g _ hc2).mono ?_
          rintro e w3 ⟨v, v1, v2, rfl, hc3, hg3⟩
          have HW3 := Lib.hid (HW2.out.grown hg3 (.inr hne))
          have hG3 := grown_trans hG2 hg3
          obtain ⟨c0, c1, c2⟩ := HW3.out.cells0 hL'
          have ff := HW3.out.frozenAt
          clear hg3
          go_wp2_with fail
          go_ret
          refine ⟨setAmt L v, some ⟨gs, 0, none⟩, cp, by rw [setAmt_len]; rfl, by rw [setAmt_len]; omega, ?_, hc3.set (by omega), grown_setNew hG3 hgs _ _⟩
          rw [setAmt_len]
          exact HW3.out.setAmt hL' v
        · go_wp2_with fail
          refine (s_l01Raw g _ hc2).mono ?_
          rintro e w3 ⟨v, v1, v2, rfl, hc3, hg3⟩
          have HW3 := Lib.hid (HW2.out.grown hg3 (.inr hne))
          have hG3 := grown_trans hG2 hg3
          obtain ⟨c0, c1, c2⟩ := HW3.out.cells0 hL'
          have ff := HW3.out.frozenAt
          clear hg3
          go_wp2_with fail
          go_ret
          refine ⟨setTo L v, some ⟨gs, 0, none⟩, cp, by rw [setTo_len]; rfl, by rw [setTo_len]; omega, ?_, hc3.set (by omega), grown_setNew hG3 hgs _ _⟩
          rw [setTo_len]
          exact HW3.out.setTo hL' v
        · obtain ⟨c0, c1, c2⟩ := HW2.out.cells0 hL'
          have ff := HW2.out.frozenAt
          go_wp2_with fail
          go_ret
          refine ⟨setAmt L 1000000000, some ⟨gs, 0, none⟩, cp, by rw [setAmt_len]; rfl, by rw [setAmt_len]; omega, ?_, hc2.set (by omega), grown_setNew hG2 hgs _ _⟩
          rw [setAmt_len]
          exact HW2.out.setAmt hL' 1000000000
        · go_wp2_with fail
          refine (s_l01Below g 3 _ hc2 (by decide) (by decide)).mono ?_
          rintro e w3 ⟨v, v1, v2, rfl, hc3, hg3⟩
          have HW3 := Lib.hid (HW2.out.grown hg3 (.inr hne))
          have hG3 := grown_trans hG2 hg3
          clear hg3
          cases hv0 : (v == 0)
          · go_wp2_with fail
            go_ret
            exact ⟨L, _, cp, rfl, by omega, HW3.out, hc3, hG3⟩
          · go_wp2_with fail
            go_loopw [3] (fun vk wr => ∃ (L : List Debt) (gs cp : Nat), vk = .slice (some ⟨gs, 0, none⟩) L.length cp ∧ 0 < L.length ∧ L.length ≤ 61 ∧ w.heap.size ≤ gs ∧ Ow wr w.heap.size 38 3 (.slice (some ⟨gs, 0, none⟩) L.length cp) (L.map Debt.cells) ∧ Crs wr g ∧ w.grownBy wr (some g)) (fun v _ => 62 - lenV v)
            case atStart => exact ⟨L, gs, cp, rfl, hL', by omega, hgs, HW3.out, hc3, hG3⟩
            case round =>
              clear l0 i1 hc3 hG3
              obtain ⟨L, gs, cp, rfl, hL, hL61, hgs, how, hcr, hG⟩ := hrel
              have HW := Lib.hid how
              clear how
              have hne : some gs ≠ some g := someNe (by omega)
              go_wp2_with fail
              refine (s_l01Below g 2 _ hcr (by decide) (by decide)).mono ?_
              rintro e w4 ⟨u, u1, u2, rfl, hc4, hg4⟩
              have z4 := hg4.size
              have HW4 := Lib.hid (HW.out.grown hg4 (.inr hne))
              have hG4 := grown_trans hG hg4
              have hG4s := hG4.size
              clear hg4 hG hcr HW
              by_cases hlt : (L.length : Int) < 60 + u
              · obtain ⟨c0, c1, c2⟩ := HW4.out.cells0 hL
                have i1 : (0 : Int) < (L.length : Int) := by omega
                have hlt' : decide ((L.length : Int) < 60 + u) = true := decide_eq_true hlt
                have KG := Lib.hid (fun o1 (w6 : World) (hgr : (w4.alloc o1).grownBy w6 (Value.slice (some ⟨gs, 0, none⟩) L.length cp).ownBlock) => And.intro (grown_own (grown_alloc hG4 o1) hgr (fun k e => by have : gs = k := (by simpa [Value.ownBlock] using e); omega)) ((hc4.alloc o1).grown hgr (fun k e => by have : gs = k := (by simpa [Value.ownBlock] using e); omega)))
                go_wp2_with (at_builtin; refine wpList_app1 rfl _ _ _ rfl w.heap.size 38 i0 _ 3 24 Tryz.underlying79 HI.out HZ0.out HZ1.out HZ2.out rfl (by decide) (.slice (some ⟨gs, 0, none⟩) L.length cp) (L.map Debt.cells) rfl (HW4.out.alloc _) w4.heap.size 1 [.int .i64 L[0].From, .int .i64 L[0].To, .int .i64 L[0].Amt] 38 rfl (heap_at (by first | rfl | (simp; done))) rfl (by simp [Value.oneCell']) (by rw [List.length_map]; omega) (by decide) (by simp; omega) ?_; intro g6 cap6 w6 how6 hgr6 hat6 hlt6; rw [List.length_map] at how6; rw [List.length_map]; obtain ⟨hG6, hc6⟩ := KG.out _ _ hgr6; have hb6 := how6.block g6 rfl; have O6 := Lib.hid how6; clear how6 hgr6 hat6)
                go_roundw
                case rel =>
                  refine ⟨L ++ [⟨L[0].From, L[0].To, L[0].Amt⟩], g6, cap6, by simp, by simp, by simp; omega, hb6.1, ?_, hc6, hG6⟩
                  rw [List.map_append, List.length_append]
                  exact O6.out
                case measure => simp only [lenV]; omega
              · have hlt' : decide ((L.length : Int) < 60 + u) = false := decide_eq_false hlt
                go_wp2_with fail
                go_ret
                exact ⟨L, _, cp, rfl, by omega, HW4.out, hc4, hG4⟩
        · have t0 : (k == 0) = false := by simp; omega
          have t1 : (k == 1) = false := by simp; omega
          have t2 : (k == 2) = false := by simp; omega
          have t3 : (k == 3) = false := by simp; omega
          go_wp2_with fail
          go_ret
          exact ⟨L, _, cp, rfl, by omega, HW2.out, hc2, hG2⟩
end Go.Proofs.YtgpledgjpjifcaaGreatDoor
