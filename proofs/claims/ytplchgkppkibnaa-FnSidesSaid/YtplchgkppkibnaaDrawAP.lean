/- Draws of lists of postings, and of what the laws on them take. -/
import Derived.Test.YtplchgkppkibnaaRows
import Derived.Test.YtplchgkppkibnaaDrawPo
import Derived.Test.YtplchgkppkibnaaPstL
namespace Go.Proofs.Ytplchgkppkibnaa
open Go.RowKit

theorem Ow.differL {w : World} {B B' n n' : Nat} {e e' : TypeId} {v v' : Value} {rows rows' : List (List Value)} (h : Ow w B e n v rows) (h' : Ow w B' e' n' v' rows') (hne : e ≠ e') : v.ownBlock = none ∨ v.ownBlock ≠ v'.ownBlock := by
  rcases h.2.2 with ⟨rfl, _⟩ | ⟨g, cap, cur, rfl, _, hh, _⟩
  · exact .inl rfl
  · exact .inr (h'.ne_ hh (Ne.symm hne))
/-- Postings of the call's own; their lines' slices are of the call's own too. -/
def OwW (w : World) (B : Nat) (A : Option Addr) (cap : Nat) (ps : List Pst) : Prop := Ow w B 69 2 (.slice A ps.length cap) (ps.map Pst.cells) ∧ ∀ p ∈ ps, Ow w B 97 3 p.val (p.L.map Line.cells) ∧ p.L.length ≤ 15
section
variable {w w' : World} {B cap : Nat} {A : Option Addr} {ps : List Pst}
theorem OwW.pastL {g : Nat} (h : OwW w B A cap ps) (hg : w.grownBy w' (some g)) (hB : g < B) : OwW w' B A cap ps := ⟨h.1.pastL hg hB, fun p hp => ⟨(h.2 p hp).1.pastL hg hB, (h.2 p hp).2⟩⟩
theorem OwW.alloc (h : OwW w B A cap ps) (o : Obj) : OwW (w.alloc o) B A cap ps := ⟨h.1.alloc o, fun p hp => ⟨(h.2 p hp).1.alloc o, (h.2 p hp).2⟩⟩
theorem OwW.aside {X i : Nat} {u : Value} {cs : Array Value} (h : OwW w B A cap ps) (hx : w.heap[X]? = some (.cells cs 69 (0, 0))) (hX : ∀ k, (Value.slice A ps.length cap).ownBlock = some k → k < X) : OwW (w.setCell ⟨X, i, none⟩ u) B A cap ps :=
  ⟨h.1.grown (grown_set (World.grownBy.refl w (some X)) i u) (by
    cases hv : (Value.slice A ps.length cap).ownBlock with
    | none => exact .inl rfl
    | some k => exact .inr (someNeL (by have := hX k hv; omega))),
   fun p hp => ⟨(h.2 p hp).1.grown (grown_set (World.grownBy.refl w (some X)) i u) (.inr (Ne.symm ((h.2 p hp).1.ne_ hx (by decide)))), (h.2 p hp).2⟩⟩
theorem OwW.rd (h : OwW w B A cap ps) : RdP w w.heap.size A ps := ⟨h.1.rd, fun p hp => (h.2 p hp).1.rd⟩
theorem OwW.far (h : OwW w B A cap ps) {a : Addr} (ha : a.block < B) (u : Value) : OwW (w.setCell a u) B A cap ps := ⟨h.1.far ha u, fun p hp => ⟨(h.2 p hp).1.far ha u, (h.2 p hp).2⟩⟩
end
def DrewPs (g : Nat) (w : World) (e : Ending) (w' : World) : Prop := ∃ (ps : List Pst) (A : Option Addr) (cap : Nat), e = .returned (.slice A ps.length cap) ∧ ps.length ≤ 5 ∧ OwW w' w.heap.size A cap ps ∧ Crs w' g ∧ w.grownBy w' (some g)
set_option maxRecDepth 100000 in
set_option maxHeartbeats 2000000 in
theorem s_l02Postings (g : Nat) (w : World) (hc : Crs w g) :
    Calls Try.prog 87 #[.pointer (some ⟨g, 0, none⟩)] w (DrewPs g w) := by
  have hgw := hc.lt
  obtain ⟨i0, hi, hz0, hz1, hz2⟩ := info_parts info_Posting
  have HI := Lib.hid hi
  have HZ0 := Lib.hid hz0
  have HZ1 := Lib.hid hz1
  have HZ2 := Lib.hid hz2
  clear hi hz0 hz1 hz2
  have HE0 := Lib.hid (Ow.empty_ (w := w) (g := w.heap.size) (e := 69) (size := 2) (B := w.heap.size) rfl (Nat.le_refl _))
  go_enter Try.func87, Try.ntmps87
  go_wp2_with fail
  refine (s_l01Below g 6 _ (hc.alloc _) (by decide) (by decide)).mono ?_
  rintro e w1 ⟨x, x1, x2, rfl, hc1, hg1⟩
  have z1 := hg1.size
  rw [sizeUpL] at z1
  have HE1 := Lib.hid (show OwW w1 w.heap.size (some ⟨w.heap.size, 0, none⟩) 0 [] from ⟨HE0.out.pastL hg1 hgw, fun p hp => by cases hp⟩)
  have hG1 : w.grownBy w1 (some g) := grown_trans (grown_allocL (World.grownBy.refl _ _) _) hg1
  clear hg1
  go_wp2_with fail
  go_loopw [3, 4, 5] (fun vp vi vn wr => ∃ (N id : Int) (ps : List Pst) (B : Option Addr) (cp : Nat), 0 ≤ N ∧ vn = .int .i64 N ∧ vi = .int .i64 id ∧ vp = .slice B ps.length cp ∧ (ps.length : Int) + N ≤ 5 ∧ OwW wr w.heap.size B cp ps ∧ Crs wr g ∧ w.grownBy wr (some g)) (fun _ _ vn _ => (intOf vn).toNat)
  case atStart => exact ⟨x, 0, [], some ⟨w.heap.size, 0, none⟩, 0, by omega, rfl, rfl, rfl, by simp; omega, HE1.out, hc1, hG1⟩
  case round =>
    clear hc1 hG1 z1
    obtain ⟨N, id, ps, B, cp, n1, rfl, rfl, rfl, hLN, how, hcr, hG⟩ := hrel
    have hbz := hG.size
    have HW := Lib.hid how
    clear how
    by_cases hlt : 0 < N
    · go_wp2_with fail
      refine (s_l01Below g 2 _ hcr (by decide) (by decide)).mono ?_
      rintro e w2 ⟨y, y1, y2, rfl, hc2, hg2⟩
      have z2 := hg2.size
      have HW2 := Lib.hid (HW.out.pastL hg2 hgw)
      have hG2 := grown_trans hG hg2
      clear hg2 hG hcr HW
      go_wp2_with fail
      refine (s_l02Posting g _ _ hc2).mono ?_
      rintro e w3 ⟨z, L, A, lc, rfl, hl, hown, hc3, hg3⟩
      have z3 := hg3.size
      have HW3 := Lib.hid (HW2.out.pastL hg3 hgw)
      have hG3 := grown_trans hG2 hg3
      have HL3 := Lib.hid (hown.more (B' := w.heap.size) (by omega))
      have OB := Lib.hid HW3.out.1.block
      clear hg3 hG2 hc2 HW2 hown
      go_wp2_with fail
      refine (s_l01Below g 8 _ (hc3.alloc _) (by decide) (by decide)).mono ?_
      rintro e w4 ⟨v, v1, v2, rfl, hc4, hg4⟩
      have z4 := hg4.size
      rw [sizeUpL] at z4
      have p4 : w4.heap[w3.heap.size]? = some (.cells #[.int .i64 z, .slice A L.length lc] 69 (0, 0)) := heap_grown hg4 (someNeL (by omega)) (heap_at rfl)
      have HW4 := Lib.hid ((HW3.out.alloc (.cells #[.int .i64 z, .slice A L.length lc] 69)).pastL hg4 hgw)
      have HL4 := Lib.hid ((HL3.out.alloc (.cells #[.int .i64 z, .slice A L.length lc] 69)).pastL hg4 hgw)
      have hG4 := grown_trans (grown_allocL hG3 _) hg4
      obtain ⟨P, hP⟩ : ∃ P, w3.heap.size = P := ⟨_, rfl⟩
      rw [hP] at p4 z4 OB ⊢
      have hPw : w.heap.size ≤ P := by omega
      clear hg4 hG3 hc3 HW3 HL3 hP
      obtain ⟨_, p0, p1, pf, pz⟩ := own2 (Below.refl w4.heap.size w4) (Array.getElem?_eq_some_iff.1 p4).1 p4
      have key : ∀ (id : Int) (W : World), OwW W w.heap.size B cp ps → Ow W w.heap.size 97 3 (.slice A L.length lc) (L.map Line.cells) → Crs W g → w.grownBy W (some g) →
          ∀ (g6 cap6 : Nat) (w6 : World), Ow w6 w.heap.size 69 2 (.slice (some ⟨g6, 0, none⟩) (ps.length + 1) cap6) (ps.map Pst.cells ++ [[.int .i64 id, .slice A L.length lc]]) → ∀ o : Obj, (W.alloc o).grownBy w6 (Value.slice B ps.length cp).ownBlock →
          OwW w6 w.heap.size (some ⟨g6, 0, none⟩) cap6 (ps ++ [⟨id, A, lc, L⟩]) ∧ Crs w6 g ∧ w.grownBy w6 (some g) := by
        intro id W h1 h2 h3 h4 g6 cap6 w6 h5 o h6
        have h4s := h4.size
        refine ⟨⟨?_, fun p hp => ?_⟩, (h3.alloc _).grown h6 (fun k e => by have := (h1.1.block k e).1; omega), ?_⟩
        · rw [List.map_append, List.length_append]
          exact h5
        · rcases List.mem_append.1 hp with hp | hp
          · exact ⟨((h1.2 p hp).1.alloc o).grown h6 (((h1.2 p hp).1.alloc o).differL (h1.1.alloc o) (by decide)), (h1.2 p hp).2⟩
          · rw [List.mem_singleton.1 hp]
            exact ⟨(h2.alloc o).grown h6 ((h2.alloc o).differL (h1.1.alloc o) (by decide)), hl⟩
        · exact ⟨h6.os.trans h4.os, h6.tape.trans h4.tape, h6.output.trans h4.output, Nat.le_trans h4.size (Nat.le_trans (by simp) h6.size), fun k hk hne => (h6.block k (by simp; omega) (fun e => by have := (h1.1.block k e.symm).1; omega)).trans ((heap_past (by omega) (Array.getElem?_eq_getElem (by omega))).trans ((Array.getElem?_eq_getElem (by omega)).symm.trans (h4.block k hk hne)))⟩
      have KEY := Lib.hid key
      clear key
      cases hv : (v == 0)
      · go_wp2_with (at_builtin; refine wpList_app1 rfl _ _ _ rfl w.heap.size 69 i0 _ 2 32 Try.underlying38 HI.out HZ0.out HZ1.out HZ2.out rfl (by decide) (.slice B ps.length cp) (ps.map Pst.cells) rfl (HW4.out.1.alloc _) w4.heap.size 1 [.int .i64 z, .slice A L.length lc] 69 rfl (heap_at (by first | rfl | (simp; done))) rfl (by simp [Value.oneCell']) (by rw [List.length_map]; omega) (by decide) (by simp; omega) ?_; intro g6 cap6 w6 how6 hgr6 hat6 hlt6; rw [List.length_map] at how6; rw [List.length_map]; obtain ⟨o6, hc6, hG6⟩ := KEY.out z w4 HW4.out HL4.out hc4 hG4 g6 cap6 w6 how6 _ hgr6; have O6 := Lib.hid o6; clear o6 how6 hgr6 hat6)
        go_roundw
        case rel => exact ⟨N - 1, _, ps ++ [⟨z, A, lc, L⟩], some ⟨g6, 0, none⟩, cap6, by omega, by go_num, rfl, by rw [List.length_append]; rfl, by rw [List.length_append, List.length_singleton]; omega, O6.out, hc6, hG6⟩
        case measure => simp [intOf]; omega
      · have HW5 := Lib.hid (HW4.out.aside (i := 0) (u := .int .i64 1) p4 (fun k e => (OB.out k e).2))
        have HL5 := Lib.hid (HL4.out.grown (grown_set (World.grownBy.refl w4 (some P)) 0 (.int .i64 1)) (.inr (Ne.symm (HL4.out.ne_ p4 (by decide)))))
        have hc5 := hc4.set (b := P) (i := 0) (u := .int .i64 1) (by omega)
        have hG5 := grown_setL hG4 hPw 0 (.int .i64 1)
        have h5s : (w4.setCell ⟨P, 0, none⟩ (.int .i64 1)).heap.size = w4.heap.size := by simp [World.setCell]
        go_wp2_with (at_builtin; refine wpList_app1 rfl _ _ _ rfl w.heap.size 69 i0 _ 2 32 Try.underlying38 HI.out HZ0.out HZ1.out HZ2.out rfl (by decide) (.slice B ps.length cp) (ps.map Pst.cells) rfl (HW5.out.1.alloc _) w4.heap.size 1 [.int .i64 1, .slice A L.length lc] 69 rfl (heap_at (by first | rfl | (simp; done) | (simp [World.setCell]; done))) rfl (by simp [Value.oneCell']) (by rw [List.length_map]; omega) (by decide) (by first | (simp; omega) | (simp [World.setCell]; omega)) ?_; intro g6 cap6 w6 how6 hgr6 hat6 hlt6; rw [List.length_map] at how6; rw [List.length_map]; obtain ⟨o6, hc6, hG6⟩ := KEY.out 1 _ HW5.out HL5.out hc5 hG5 g6 cap6 w6 how6 _ hgr6; have O6 := Lib.hid o6; clear o6 how6 hgr6 hat6)
        go_roundw
        case rel => exact ⟨N - 1, _, ps ++ [⟨1, A, lc, L⟩], some ⟨g6, 0, none⟩, cap6, by omega, by go_num, rfl, by rw [List.length_append]; rfl, by rw [List.length_append, List.length_singleton]; omega, O6.out, hc6, hG6⟩
        case measure => simp [intOf]; omega
    · obtain rfl : N = 0 := by omega
      go_wp2_with fail
      go_ret
      exact ⟨ps, B, cp, rfl, by omega, HW.out, hcr, hG⟩
end Go.Proofs.Ytplchgkppkibnaa
