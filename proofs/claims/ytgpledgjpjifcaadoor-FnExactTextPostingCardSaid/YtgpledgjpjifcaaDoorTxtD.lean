/- TextDebt: the walks of both. -/
import Derived.Test.YtgpledgjpjifcaaDoorRows
import Derived.Test.YtgpledgjpjifcaaDoorCuts
import Derived.Test.YtgpledgjpjifcaaDoorTxtR
import Derived.Test.YtgpledgjpjifcaaDoorDebtT
import Derived.Test.YtgpledgjpjifcaaDoorApp
namespace Go.Proofs.YtgpledgjpjifcaaDoor
open Go.RowKit

theorem replace_len (l : List UInt8) : (Lib.replace l [62] [32] 1).length = l.length := by
  by_cases h : (62 : UInt8) ∈ l
  · obtain ⟨x, y, rfl, hx⟩ := List.eq_append_cons_of_mem h
    rw [replace_mid hx (by decide)]
    simp
  · have h0 : Lib.count l [62] = 0 := Lib.count_miss (index_not h)
    have h1 : Lib.replaceNum l [62] 1 = 0 := by
      unfold Lib.replaceNum
      rw [h0, if_pos (Or.inr (by decide))]
    unfold Lib.replace
    rw [if_neg (by decide), h1]
    rfl
theorem debt_hit {d : Debt} {s : List UInt8} (hs : s ≠ []) (h : debtL d = s) : DebtIs s d true := by
  refine Or.inl ⟨rfl, ?_, h⟩
  cases hd : debtOk d with
  | true => rfl
  | false =>
    exfalso
    refine hs ?_
    rw [← h]
    unfold debtL
    rw [hd]
    rfl
theorem debt_miss_i {s : List UInt8} (h : ∀ a b c, parts 32 (Lib.replace s [62] [32] 1) = [a, b, c] → [a, b, c].all numOk = true → debtL ⟨numOf a, numOf b, numOf c⟩ ≠ s) : DebtIs s ⟨0, 0, 0⟩ false := by
  refine Or.inr ⟨rfl, rfl, fun d hd e => ?_⟩
  subst e
  obtain ⟨h1, h2, h3⟩ := debt_nums hd
  have k := h _ _ _ (debt_words hd) (by simp [num_at h1, num_at h2, num_at h3])
  rw [(num_at h1).1, (num_at h2).1, (num_at h3).1] at k
  exact k rfl
theorem debt_miss_s {s : List UInt8} (h : ∀ x y a b, parts 32 s = [x, y] → parts 62 x = [a, b] → debtL ⟨numOf a, numOf b, numOf y⟩ ≠ s) : DebtIs s ⟨0, 0, 0⟩ false := by
  refine Or.inr ⟨rfl, rfl, fun d hd e => ?_⟩
  subst e
  obtain ⟨h1, h2, h3⟩ := debt_nums hd
  have k := h _ _ _ _ (debt_parts hd) (debt_peers d)
  rw [(num_at h1).1, (num_at h2).1, (num_at h3).1] at k
  exact k rfl
theorem parts_many {b : UInt8} {s : List UInt8} (h : (parts b s).length ≠ 1) : s ≠ [] := by
  rintro rfl
  exact h rfl
theorem list3 {α : Type} {l : List α} (h : l.length = 3) : ∃ a b c, l = [a, b, c] := by
  match l, h with
  | [a, b, c], _ => exact ⟨a, b, c, rfl⟩
theorem list2 {α : Type} {l : List α} (h : l.length = 2) : ∃ a b, l = [a, b] := by
  match l, h with
  | [a, b], _ => exact ⟨a, b, rfl⟩
/-- a debt that is read -/
def TdP (s : ByteArray) (w : World) (e : Ending) (w' : World) : Prop :=
  ∃ (d : Debt) (ok : Bool), e = .returned (.tuple #[.agg #[.int .i64 d.From, .int .i64 d.To, .int .i64 d.Amt], .bool ok]) ∧ DebtIs s.data.toList d ok ∧ Below w.heap.size w w'
theorem heap_set3 {w : World} {g : Nat} {t : TypeId} {a b c : Value} (h : w.heap[g]? = some (.cells #[a, b, c] t (0, 0))) (u : Value) :
    (w.setCell ⟨g, 0, none⟩ u).heap[g]? = some (.cells #[u, b, c] t (0, 0)) ∧ (w.setCell ⟨g, 1, none⟩ u).heap[g]? = some (.cells #[a, u, c] t (0, 0)) ∧ (w.setCell ⟨g, 2, none⟩ u).heap[g]? = some (.cells #[a, b, u] t (0, 0)) :=
  ⟨heap_set h, heap_set h, heap_set h⟩
theorem i_Replace1 (s : ByteArray) (w : World) (h : Ld w) (hs : s.size ≤ 1048576) : Calls Tryd.prog 74 #[.string s, .string ⟨#[62]⟩, .string ⟨#[32]⟩, .int .i64 1] w fun e w' =>
    e = .returned (.string ⟨(Lib.replace s.data.toList [62] [32] 1).toArray⟩) ∧ Below w.heap.size w w' := by
  obtain ⟨m, hm⟩ := h.ml
  have hc := Lib.countB_le ⟨#[62]⟩ (Nat.le_refl 1) s.size s (Nat.le_refl _)
  refine Tryd.strings_Replace s ⟨#[62]⟩ ⟨#[32]⟩ 1 m w (by omega) hm (Nat.le_refl 1) ?_
  show s.size + Lib.countB s ⟨#[62]⟩ * 1 ≤ _
  omega
set_option maxRecDepth 100000 in
set_option maxHeartbeats 2000000 in
theorem i_TextDebt (s : ByteArray) (w : World) (hld : Le w) (hs : s.size ≤ 1048576) : Calls Tryd.prog 32 #[.string s] w (TdP s w) := by
  have HLD := Lib.hid hld
  have hz : s.data.toList.length = s.size := Array.length_toList
  obtain ⟨R, hR', hR⟩ := str_of (Lib.replace s.data.toList [62] [32] 1)
  have hRs : R.size ≤ 1048576 := by
    rw [hR.out.size, replace_len, hz]
    exact hs
  have hpl := parts_len 32 R.data.toList
  have hps := parts_sub 32 R.data.toList
  have hrz : R.data.toList.length = R.size := Array.length_toList
  have HRD := Lib.hid hR.out.data
  have HRe := Lib.hid (show ∀ W : World, Ld W → Calls Tryd.prog 74 #[.string s, .string ⟨#[62]⟩, .string ⟨#[32]⟩, .int .i64 1] W fun e w' => e = .returned (.string R) ∧ Below W.heap.size W w' from fun W h => by
    have := i_Replace1 s W h hs
    rw [hR'] at this
    exact this)
  have HSp := Lib.hid (fun W (h : Ld W) => i_Split R 32 W h (by omega))
  have HMiss := Lib.hid (debt_miss_i (s := s.data.toList))
  rw [← HRD.out] at HMiss
  have HNe := Lib.hid (show (parts 32 R.data.toList).length = 3 → s.data.toList ≠ [] from fun h e => by
    rw [HRD.out, e] at h
    exact absurd h (by decide))
  obtain ⟨P, hP⟩ : ∃ P, parts 32 R.data.toList = P := ⟨_, rfl⟩
  rw [hP] at hpl hps HSp HMiss HNe
  have hPl : P.length ≤ 1048577 := by omega
  have HPs := Lib.hid (show ∀ x ∈ P, x.length ≤ 1048576 from fun x hx => by have := hps x hx; omega)
  clear hld hR' hP hpl hps hrz hz
  go_enter Tryd.func32, Tryd.ntmps32
  go_wp2_with fail
  refine (HRe.out _ ((HLD.out.below (by (first | ((repeat' first | (with_reducible (first | exact Below.refl _ _ | assumption | refine Below.setCell ?_ ?_ _ | refine Below.alloc ?_ ?_ _ | refine Below.drew ?_ | refine below_drewN ?_ _ | refine Below.trans ?_ (Below.mono (by assumption) ?_))) | omega | (simp; omega) | (simp; done)); done) | (repeat' first | exact Below.refl _ _ | assumption | refine Below.setCell ?_ (by first | omega | (simp; omega) | (simp; done)) _ | refine Below.alloc ?_ (by first | omega | (simp; omega) | (simp; done)) _ | refine Below.drew ?_ | refine below_drewN ?_ _ | refine Below.trans ?_ (Below.mono (by assumption) (by first | omega | (simp; omega) | (simp; done))))))).toLd)).mono ?_
  rintro e w1 ⟨rfl, hb1⟩
  have z1 := hb1.size
  try simp at z1
  have hbA : Below w.heap.size w w1 := by (first | ((repeat' first | (with_reducible (first | exact Below.refl _ _ | assumption | refine Below.setCell ?_ ?_ _ | refine Below.alloc ?_ ?_ _ | refine Below.drew ?_ | refine below_drewN ?_ _ | refine Below.trans ?_ (Below.mono (by assumption) ?_))) | omega | (simp; omega) | (simp; done)); done) | (repeat' first | exact Below.refl _ _ | assumption | refine Below.setCell ?_ (by first | omega | (simp; omega) | (simp; done)) _ | refine Below.alloc ?_ (by first | omega | (simp; omega) | (simp; done)) _ | refine Below.drew ?_ | refine below_drewN ?_ _ | refine Below.trans ?_ (Below.mono (by assumption) (by first | omega | (simp; omega) | (simp; done)))))
  obtain ⟨ah, a0, a1, a2, af, az⟩ := own3 (g := w.heap.size) hb1 (by first | omega | (simp; omega) | (simp; done)) (by (first | ((repeat' first | (with_reducible (first | assumption | (refine heap_at ?_; (first | rfl | (simp; done))) | refine heap_drew ?_ | refine heap_drewN ?_ | refine heap_past ?_ ?_ | refine heap_far ?_ ?_)) | (simp; done) | (simp; omega)); done) | (repeat' first | assumption | (refine heap_at ?_; (simp; done)) | refine heap_drew ?_ | refine heap_drewN ?_ | (refine heap_past ?_ ?_ <;> try (simp; done)) | (refine heap_far ?_ ?_ <;> try (simp; done)))))
  clear hb1 a0 a1 a2 af
  go_wp2_with fail
  refine (HSp.out _ ((HLD.out.below hbA).toLd)).mono ?_
  rintro e w2 ⟨rfl, how2, hb2⟩
  have z2 := hb2.size
  have HR2 := Lib.hid how2.rd
  have hbB : Below w.heap.size w w2 := by (first | ((repeat' first | (with_reducible (first | exact Below.refl _ _ | assumption | refine Below.setCell ?_ ?_ _ | refine Below.alloc ?_ ?_ _ | refine Below.drew ?_ | refine below_drewN ?_ _ | refine Below.trans ?_ (Below.mono (by assumption) ?_))) | omega | (simp; omega) | (simp; done)); done) | (repeat' first | exact Below.refl _ _ | assumption | refine Below.setCell ?_ (by first | omega | (simp; omega) | (simp; done)) _ | refine Below.alloc ?_ (by first | omega | (simp; omega) | (simp; done)) _ | refine Below.drew ?_ | refine below_drewN ?_ _ | refine Below.trans ?_ (Below.mono (by assumption) (by first | omega | (simp; omega) | (simp; done)))))
  have bh := heap_below hb2 az ah
  clear how2 hb2 ah az hbA
  go_wp2_with fail
  refine (i_numbersOf P _ _ _ (HLD.out.below hbB) hPl HPs.out HR2.out).mono ?_
  rintro e w3 ⟨hcase, hb3⟩
  have z3 := hb3.size
  have hbC : Below w.heap.size w w3 := by (first | ((repeat' first | (with_reducible (first | exact Below.refl _ _ | assumption | refine Below.setCell ?_ ?_ _ | refine Below.alloc ?_ ?_ _ | refine Below.drew ?_ | refine below_drewN ?_ _ | refine Below.trans ?_ (Below.mono (by assumption) ?_))) | omega | (simp; omega) | (simp; done)); done) | (repeat' first | exact Below.refl _ _ | assumption | refine Below.setCell ?_ (by first | omega | (simp; omega) | (simp; done)) _ | refine Below.alloc ?_ (by first | omega | (simp; omega) | (simp; done)) _ | refine Below.drew ?_ | refine below_drewN ?_ _ | refine Below.trans ?_ (Below.mono (by assumption) (by first | omega | (simp; omega) | (simp; done)))))
  have ch := heap_below hb3 (by omega) bh
  obtain ⟨_, c0, c1, c2, cf, cz⟩ := own3 (g := w.heap.size) (Below.refl _ w3) (by omega) ch
  have CH := Lib.hid ch
  clear bh hb3 hbB ch
  rcases hcase with ⟨hall, B, cp, rfl, how⟩ | ⟨hall, rfl⟩
  · have HALL := Lib.hid hall
    clear hall
    by_cases h3 : P.length = 3
    · obtain ⟨a, b, c, rfl⟩ := list3 h3
      have HN2 := Lib.hid (HNe.out rfl)
      obtain ⟨g, off, e1, hgB, d0⟩ := ints_rd (k := 0) how.rd (by simp)
      obtain ⟨g', off', e2, _, d1⟩ := ints_rd (k := 1) how.rd (by simp)
      obtain ⟨g'', off'', e3, _, d2⟩ := ints_rd (k := 2) how.rd (by simp)
      have hcp : 3 ≤ cp := by
        obtain ⟨A', cap'', e1, _, h2, _⟩ := how.form
        simp at h2
        injection e1 with _ _ e3
        omega
      subst e1
      simp only [Option.some.injEq, Addr.mk.injEq, and_true] at e2 e3
      obtain ⟨rfl, rfl⟩ := e2
      obtain ⟨rfl, rfl⟩ := e3
      simp only [List.map_cons, List.map_nil, List.getElem_cons_zero, List.getElem_cons_succ, Nat.add_zero] at d0 d1 d2
      obtain ⟨x, hx⟩ : ∃ x, numOf a = x := ⟨_, rfl⟩
      obtain ⟨y, hy⟩ : ∃ y, numOf b = y := ⟨_, rfl⟩
      obtain ⟨z, hzz⟩ : ∃ z, numOf c = z := ⟨_, rfl⟩
      rw [hx] at d0
      rw [hy] at d1
      rw [hzz] at d2
      have HX := Lib.hid (show debtL ⟨numOf a, numOf b, numOf c⟩ = debtL ⟨x, y, z⟩ by rw [hx, hy, hzz])
      clear hx hy hzz how h3 hPl
      have i3 : ([a, b, c] : List (List UInt8)).length = 3 := rfl
      rw [i3]
      clear i3
      go_wp2_with fail
      go_region_held3 (fun w' => w'.cell? ⟨g, off, none⟩ = some (.int .i64 x) ∧ w'.cell? ⟨g, off + 1, none⟩ = some (.int .i64 y) ∧ w'.cell? ⟨g, off + 2, none⟩ = some (.int .i64 z))
        (first | exact ⟨d0, d1, d2⟩ | exact ⟨cell_past hgB d0, cell_past hgB d1, cell_past hgB d2⟩)
        (fail)
      all_goals
        go_wp2_with fail
        refine (i_DebtText x y z _ (HLD.out.below (by (first | ((repeat' first | (with_reducible (first | exact Below.refl _ _ | assumption | refine Below.setCell ?_ ?_ _ | refine Below.alloc ?_ ?_ _ | refine Below.drew ?_ | refine below_drewN ?_ _ | refine Below.trans ?_ (Below.mono (by assumption) ?_))) | omega | (simp; omega) | (simp; done)); done) | (repeat' first | exact Below.refl _ _ | assumption | refine Below.setCell ?_ (by first | omega | (simp; omega) | (simp; done)) _ | refine Below.alloc ?_ (by first | omega | (simp; omega) | (simp; done)) _ | refine Below.drew ?_ | refine below_drewN ?_ _ | refine Below.trans ?_ (Below.mono (by assumption) (by first | omega | (simp; omega) | (simp; done))))))).toLd).mono ?_
        rintro e w4 ⟨rfl, hb4⟩
        have z4 := hb4.size
        (try simp at z4)
        obtain ⟨t, ht', ht⟩ := str_of (debtL ⟨x, y, z⟩)
        rw [ht']
        clear ht'
        obtain ⟨eh, e0, e1, e2, ef, ez⟩ := own3 (g := w3.heap.size) hb4 (by first | omega | (simp; omega) | (simp; done)) (by (first | ((repeat' first | (with_reducible (first | assumption | (refine heap_at ?_; (first | rfl | (simp; done))) | refine heap_drew ?_ | refine heap_drewN ?_ | refine heap_past ?_ ?_ | refine heap_far ?_ ?_)) | (simp; done) | (simp; omega)); done) | (repeat' first | assumption | (refine heap_at ?_; (simp; done)) | refine heap_drew ?_ | refine heap_drewN ?_ | (refine heap_past ?_ ?_ <;> try (simp; done)) | (refine heap_far ?_ ?_ <;> try (simp; done)))))
        have gh : w4.heap[w.heap.size]? = _ := heap_below hb4 (by simp; omega) (heap_drew (heap_past (by omega) CH.out))
        obtain ⟨_, g0, g1, g2, gf, gz⟩ := own3 (g := w.heap.size) (Below.refl _ w4) (by omega) gh
        have GH := Lib.hid gh
        have hbD : Below w.heap.size w w4 := by (first | ((repeat' first | (with_reducible (first | exact Below.refl _ _ | assumption | refine Below.setCell ?_ ?_ _ | refine Below.alloc ?_ ?_ _ | refine Below.drew ?_ | refine below_drewN ?_ _ | refine Below.trans ?_ (Below.mono (by assumption) ?_))) | omega | (simp; omega) | (simp; done)); done) | (repeat' first | exact Below.refl _ _ | assumption | refine Below.setCell ?_ (by first | omega | (simp; omega) | (simp; done)) _ | refine Below.alloc ?_ (by first | omega | (simp; omega) | (simp; done)) _ | refine Below.drew ?_ | refine below_drewN ?_ _ | refine Below.trans ?_ (Below.mono (by assumption) (by first | omega | (simp; omega) | (simp; done)))))
        clear hb4 gh eh
        by_cases et : t = s
        · have HN := Lib.hid (debt_hit HN2.out (eq_str ht.out et))
          have q := heap_set3 GH.out
          subst et
          go_wp2_with fail
          refine bodyPost_ret (v := .tuple #[.agg #[.int .i64 x, .int .i64 y, .int .i64 z], .bool true]) (by simp [results, Tryd.results32, go_sem, *]) rfl ⟨⟨x, y, z⟩, true, rfl, HN.out, ?_⟩
          (first | ((repeat' first | (with_reducible (first | exact Below.refl _ _ | assumption | refine Below.setCell ?_ ?_ _ | refine Below.alloc ?_ ?_ _ | refine Below.drew ?_ | refine below_drewN ?_ _ | refine Below.trans ?_ (Below.mono (by assumption) ?_))) | omega | (simp; omega) | (simp; done)); done) | (repeat' first | exact Below.refl _ _ | assumption | refine Below.setCell ?_ (by first | omega | (simp; omega) | (simp; done)) _ | refine Below.alloc ?_ (by first | omega | (simp; omega) | (simp; done)) _ | refine Below.drew ?_ | refine below_drewN ?_ _ | refine Below.trans ?_ (Below.mono (by assumption) (by first | omega | (simp; omega) | (simp; done)))))
        · have HN := Lib.hid (HMiss.out (fun a' b' c' h _ => by
            simp only [List.cons.injEq, and_true] at h
            obtain ⟨rfl, rfl, rfl⟩ := h
            rw [HX.out]
            exact ne_str ht.out et))
          have hne := neq_str et
          clear et
          go_wp2_with fail
          refine bodyPost_ret (v := .tuple #[.agg #[.int .i64 0, .int .i64 0, .int .i64 0], .bool false]) (by simp [results, Tryd.results32, go_sem, *]) rfl ⟨⟨0, 0, 0⟩, false, rfl, HN.out, ?_⟩
          (first | ((repeat' first | (with_reducible (first | exact Below.refl _ _ | assumption | refine Below.setCell ?_ ?_ _ | refine Below.alloc ?_ ?_ _ | refine Below.drew ?_ | refine below_drewN ?_ _ | refine Below.trans ?_ (Below.mono (by assumption) ?_))) | omega | (simp; omega) | (simp; done)); done) | (repeat' first | exact Below.refl _ _ | assumption | refine Below.setCell ?_ (by first | omega | (simp; omega) | (simp; done)) _ | refine Below.alloc ?_ (by first | omega | (simp; omega) | (simp; done)) _ | refine Below.drew ?_ | refine below_drewN ?_ _ | refine Below.trans ?_ (Below.mono (by assumption) (by first | omega | (simp; omega) | (simp; done)))))
    · have HN := Lib.hid (HMiss.out (fun a b c h _ => by rw [h] at h3; exact absurd rfl h3))
      have h3' : ((P.length : Int) == 3) = false := by rw [beq_eq_false_iff_ne]; omega
      clear how h3
      go_wp2_with fail
      refine bodyPost_ret (v := .tuple #[.agg #[.int .i64 0, .int .i64 0, .int .i64 0], .bool false]) (by simp [results, Tryd.results32, go_sem, *]) rfl ⟨⟨0, 0, 0⟩, false, rfl, HN.out, ?_⟩
      (first | ((repeat' first | (with_reducible (first | exact Below.refl _ _ | assumption | refine Below.setCell ?_ ?_ _ | refine Below.alloc ?_ ?_ _ | refine Below.drew ?_ | refine below_drewN ?_ _ | refine Below.trans ?_ (Below.mono (by assumption) ?_))) | omega | (simp; omega) | (simp; done)); done) | (repeat' first | exact Below.refl _ _ | assumption | refine Below.setCell ?_ (by first | omega | (simp; omega) | (simp; done)) _ | refine Below.alloc ?_ (by first | omega | (simp; omega) | (simp; done)) _ | refine Below.drew ?_ | refine below_drewN ?_ _ | refine Below.trans ?_ (Below.mono (by assumption) (by first | omega | (simp; omega) | (simp; done)))))
  · have HN := Lib.hid (HMiss.out (fun a b c h h2 => by rw [← h, hall] at h2; cases h2))
    clear hall
    go_wp2_with fail
    refine bodyPost_ret (v := .tuple #[.agg #[.int .i64 0, .int .i64 0, .int .i64 0], .bool false]) (by simp [results, Tryd.results32, go_sem, *]) rfl ⟨⟨0, 0, 0⟩, false, rfl, HN.out, ?_⟩
    (first | ((repeat' first | (with_reducible (first | exact Below.refl _ _ | assumption | refine Below.setCell ?_ ?_ _ | refine Below.alloc ?_ ?_ _ | refine Below.drew ?_ | refine below_drewN ?_ _ | refine Below.trans ?_ (Below.mono (by assumption) ?_))) | omega | (simp; omega) | (simp; done)); done) | (repeat' first | exact Below.refl _ _ | assumption | refine Below.setCell ?_ (by first | omega | (simp; omega) | (simp; done)) _ | refine Below.alloc ?_ (by first | omega | (simp; omega) | (simp; done)) _ | refine Below.drew ?_ | refine below_drewN ?_ _ | refine Below.trans ?_ (Below.mono (by assumption) (by first | omega | (simp; omega) | (simp; done)))))
set_option maxRecDepth 100000 in
set_option maxHeartbeats 2000000 in
theorem s_TextDebt (s : ByteArray) (w : World) (hs : s.size ≤ 1048576) : Calls Tryd.prog 31 #[.string s] w (TdP s w) := by
  have hz : s.data.toList.length = s.size := Array.length_toList
  have hpl := parts_len 32 s.data.toList
  have hps := parts_sub 32 s.data.toList
  have HMiss := Lib.hid (debt_miss_s (s := s.data.toList))
  have HNe := Lib.hid (show (parts 32 s.data.toList).length = 2 → s.data.toList ≠ [] from fun h => parts_many (by rw [h]; decide))
  have H0 := Lib.hid (parts_ne 32 s.data.toList)
  have HSp := Lib.hid (fun W => s_l04Parts s 32 32 W rfl hs)
  unfold PartsP at HSp
  obtain ⟨P, hP⟩ : ∃ P, parts 32 s.data.toList = P := ⟨_, rfl⟩
  rw [hP] at hpl hps HSp HMiss HNe H0
  have hPl : P.length ≤ 1048577 := by omega
  have HPs := Lib.hid (show ∀ x ∈ P, x.length ≤ 1048576 from fun x hx => by have := hps x hx; omega)
  clear hP hpl hps hz
  obtain ⟨p0, P1, rfl⟩ : ∃ p0 P1, P = p0 :: P1 := by
    cases P with
    | nil => exact absurd rfl H0.out
    | cons a r => exact ⟨a, r, rfl⟩
  obtain ⟨x0, hx0', hx0⟩ := str_of p0
  have hx0s : x0.size ≤ 1048576 := by rw [hx0.out.size]; exact HPs.out p0 (by simp)
  have HSq := Lib.hid (fun W => s_l04Parts x0 62 62 W rfl hx0s)
  unfold PartsP at HSq
  rw [hx0.out.data] at HSq
  obtain ⟨N, hN⟩ : ∃ N, (p0 :: P1).length = N := ⟨_, rfl⟩
  obtain ⟨M, hM⟩ : ∃ M, (parts 62 p0).length = M := ⟨_, rfl⟩
  rw [hN] at HSp HNe hPl
  rw [hM] at HSq
  have i1 : (0 : Int) < (N : Int) := by rw [← hN]; simp
  have HN0 := Lib.hid hN
  have HM0 := Lib.hid hM
  clear H0 hN hM
  go_enter Tryd.func31, Tryd.ntmps31
  go_wp2_with fail
  refine (HSp.out _).mono ?_
  rintro e w1 ⟨A1, c1, rfl, how1, hb1⟩
  have z1 := hb1.size
  (try simp at z1)
  have hbA : Below w.heap.size w w1 := by (first | ((repeat' first | (with_reducible (first | exact Below.refl _ _ | assumption | refine Below.setCell ?_ ?_ _ | refine Below.alloc ?_ ?_ _ | refine Below.drew ?_ | refine below_drewN ?_ _ | refine Below.trans ?_ (Below.mono (by assumption) ?_))) | omega | (simp; omega) | (simp; done)); done) | (repeat' first | exact Below.refl _ _ | assumption | refine Below.setCell ?_ (by first | omega | (simp; omega) | (simp; done)) _ | refine Below.alloc ?_ (by first | omega | (simp; omega) | (simp; done)) _ | refine Below.drew ?_ | refine below_drewN ?_ _ | refine Below.trans ?_ (Below.mono (by assumption) (by first | omega | (simp; omega) | (simp; done)))))
  have hc1 : N ≤ c1 := by
    obtain ⟨A', cap'', e1, _, h2, _⟩ := how1.form
    rw [List.length_map, HN0.out] at h2
    injection e1 with _ _ e3
    omega
  obtain ⟨ah, a0, a1, a2, af, az⟩ := own3 (g := w.heap.size) hb1 (by first | omega | (simp; omega) | (simp; done)) (by (first | ((repeat' first | (with_reducible (first | assumption | (refine heap_at ?_; (first | rfl | (simp; done))) | refine heap_drew ?_ | refine heap_drewN ?_ | refine heap_past ?_ ?_ | refine heap_far ?_ ?_)) | (simp; done) | (simp; omega)); done) | (repeat' first | assumption | (refine heap_at ?_; (simp; done)) | refine heap_drew ?_ | refine heap_drewN ?_ | (refine heap_past ?_ ?_ <;> try (simp; done)) | (refine heap_far ?_ ?_ <;> try (simp; done)))))
  have HR1 := Lib.hid how1.rd
  obtain ⟨b, off, rfl, hbB, d0⟩ := strs_rd (k := 0) how1.rd (by simp)
  simp only [List.getElem_cons_zero, Nat.add_zero] at d0
  rw [hx0'] at d0
  clear hb1 how1 a0 a1 a2 af
  go_wp2_with fail
  refine (HSq.out _).mono ?_
  rintro e w2 ⟨A2, c2, rfl, how2, hb2⟩
  have z2 := hb2.size
  have hbC : Below w.heap.size w w2 := by (first | ((repeat' first | (with_reducible (first | exact Below.refl _ _ | assumption | refine Below.setCell ?_ ?_ _ | refine Below.alloc ?_ ?_ _ | refine Below.drew ?_ | refine below_drewN ?_ _ | refine Below.trans ?_ (Below.mono (by assumption) ?_))) | omega | (simp; omega) | (simp; done)); done) | (repeat' first | exact Below.refl _ _ | assumption | refine Below.setCell ?_ (by first | omega | (simp; omega) | (simp; done)) _ | refine Below.alloc ?_ (by first | omega | (simp; omega) | (simp; done)) _ | refine Below.drew ?_ | refine below_drewN ?_ _ | refine Below.trans ?_ (Below.mono (by assumption) (by first | omega | (simp; omega) | (simp; done)))))
  have hc2 : M ≤ c2 := by
    obtain ⟨A', cap'', e1, _, h2, _⟩ := how2.form
    rw [List.length_map, HM0.out] at h2
    injection e1 with _ _ e3
    omega
  have HR2 := Lib.hid how2.rd
  have HR1b := Lib.hid (HR1.out.below hb2)
  have bh := heap_below hb2 (by omega) ah
  obtain ⟨_, g0, g1, g2, gf, gz⟩ := own3 (g := w.heap.size) (Below.refl _ w2) (by omega) bh
  have CH := Lib.hid bh
  clear hb2 how2 ah bh hbA d0
  by_cases h2 : N = 2
  · subst h2
    have h2 := HN0.out
    have HN2 := Lib.hid (HNe.out rfl)
    obtain ⟨p1, rfl⟩ : ∃ p1, P1 = [p1] := by
      cases P1 with
      | nil => simp at h2
      | cons a r => cases r with
        | nil => exact ⟨a, rfl⟩
        | cons _ _ => simp at h2
    by_cases h2' : M = 2
    · subst h2'
      obtain ⟨q0, q1, hq⟩ := list2 HM0.out
      have hqs : ∀ x ∈ [q0, q1], x.length ≤ 1048576 := fun x hx => by
        have := parts_sub 62 p0 x (by rw [hq]; exact hx)
        have := HPs.out p0 (by simp)
        omega
      rw [hq] at HR2
      have HQ := Lib.hid hq
      obtain ⟨y0, hy0', hy0⟩ := str_of q0
      obtain ⟨y1, hy1', hy1⟩ := str_of q1
      obtain ⟨y2, hy2', hy2⟩ := str_of p1
      obtain ⟨k, off2, rfl, hkB, k0⟩ := strs_rd (k := 0) HR2.out (by simp)
      obtain ⟨k', off2', e2, _, k1⟩ := strs_rd (k := 1) HR2.out (by simp)
      obtain ⟨m, off3, e3, hmB, m1⟩ := strs_rd (k := 1) HR1b.out (by simp)
      simp only [Option.some.injEq, Addr.mk.injEq, and_true] at e2 e3
      obtain ⟨rfl, rfl⟩ := e2
      obtain ⟨rfl, rfl⟩ := e3
      simp only [List.getElem_cons_zero, List.getElem_cons_succ, Nat.add_zero] at k0 k1 m1
      rw [hy0'] at k0
      rw [hy1'] at k1
      rw [hy2'] at m1
      clear hq hy0' hy1' hy2' hx0' h2 hqs HR1 HR1b HR2 i1
      go_wp2_with fail
      refine (s_TextNum y0 _).mono ?_
      rintro e w3 ⟨rfl, hb3⟩
      have z3 := hb3.size
      (try simp at z3)
      rw [hy0.out.data]
      obtain ⟨x, hx⟩ : ∃ x, numOf q0 = x := ⟨_, rfl⟩
      rw [hx]
      have hd3 : w3.heap[w2.heap.size]? = some (.cells #[.int .i64 0, .int .i64 0, .int .i64 0] 25 (0, 0)) := heap_below hb3 (by simp) (by (first | ((repeat' first | (with_reducible (first | assumption | (refine heap_at ?_; (first | rfl | (simp; done))) | refine heap_drew ?_ | refine heap_drewN ?_ | refine heap_past ?_ ?_ | refine heap_far ?_ ?_)) | (simp; done) | (simp; omega)); done) | (repeat' first | assumption | (refine heap_at ?_; (simp; done)) | refine heap_drew ?_ | refine heap_drewN ?_ | (refine heap_past ?_ ?_ <;> try (simp; done)) | (refine heap_far ?_ ?_ <;> try (simp; done)))))
      have hr3 := heap_below hb3 (by simp; omega) (heap_past (by omega) CH.out)
      have l1 : w3.cell? ⟨k, off2 + 1, none⟩ = some (.string y1) := (hb3.cell (p := ⟨k, off2 + 1, none⟩) (by simp; omega)).trans (cell_past hkB k1)
      have n1 : w3.cell? ⟨b, off + 1, none⟩ = some (.string y2) := (hb3.cell (p := ⟨b, off + 1, none⟩) (by simp; omega)).trans (cell_past (show b < w2.heap.size by omega) m1)
      have hbD : Below w.heap.size w w3 := by (first | ((repeat' first | (with_reducible (first | exact Below.refl _ _ | assumption | refine Below.setCell ?_ ?_ _ | refine Below.alloc ?_ ?_ _ | refine Below.drew ?_ | refine below_drewN ?_ _ | refine Below.trans ?_ (Below.mono (by assumption) ?_))) | omega | (simp; omega) | (simp; done)); done) | (repeat' first | exact Below.refl _ _ | assumption | refine Below.setCell ?_ (by first | omega | (simp; omega) | (simp; done)) _ | refine Below.alloc ?_ (by first | omega | (simp; omega) | (simp; done)) _ | refine Below.drew ?_ | refine below_drewN ?_ _ | refine Below.trans ?_ (Below.mono (by assumption) (by first | omega | (simp; omega) | (simp; done)))))
      obtain ⟨_, o0, o1, o2, of, oz⟩ := own3 (g := w2.heap.size) (Below.refl _ w3) (by omega) hd3
      have HD3 := Lib.hid (heap_set3 hd3 (.int .i64 x)).1
      have HRr3 := Lib.hid hr3
      have hne1 : k ≠ w2.heap.size := by omega
      have hne2 : b ≠ w2.heap.size := by omega
      clear hb3 hd3 hr3 k0 k1 m1 g0 g1 g2 gf
      go_wp2_with fail
      refine (s_TextNum y1 _).mono ?_
      rintro e w4 ⟨rfl, hb4⟩
      have z4 := hb4.size
      (try simp at z4)
      rw [hy1.out.data]
      obtain ⟨y, hy⟩ : ∃ y, numOf q1 = y := ⟨_, rfl⟩
      rw [hy]
      have hd4 := heap_below hb4 (by simp; omega) HD3.out
      have hr4 := heap_below hb4 (by simp; omega) (heap_far (by show w.heap.size ≠ w2.heap.size; omega) HRr3.out)
      have n4 : w4.cell? ⟨b, off + 1, none⟩ = some (.string y2) := (hb4.cell (p := ⟨b, off + 1, none⟩) (by simp; omega)).trans ((((Below.refl w2.heap.size w3).setCell (p := ⟨w2.heap.size, 0, none⟩) (Nat.le_refl _) (.int .i64 x)).cell (p := ⟨b, off + 1, none⟩) (by show b < w2.heap.size; omega)).trans n1)
      have hbE : Below w.heap.size w w4 := by (first | ((repeat' first | (with_reducible (first | exact Below.refl _ _ | assumption | refine Below.setCell ?_ ?_ _ | refine Below.alloc ?_ ?_ _ | refine Below.drew ?_ | refine below_drewN ?_ _ | refine Below.trans ?_ (Below.mono (by assumption) ?_))) | omega | (simp; omega) | (simp; done)); done) | (repeat' first | exact Below.refl _ _ | assumption | refine Below.setCell ?_ (by first | omega | (simp; omega) | (simp; done)) _ | refine Below.alloc ?_ (by first | omega | (simp; omega) | (simp; done)) _ | refine Below.drew ?_ | refine below_drewN ?_ _ | refine Below.trans ?_ (Below.mono (by assumption) (by first | omega | (simp; omega) | (simp; done)))))
      obtain ⟨_, p0, p1', p2, pf, pz⟩ := own3 (g := w2.heap.size) (Below.refl _ w4) (by omega) hd4
      have HD4 := Lib.hid (heap_set3 hd4 (.int .i64 y)).2.1
      have HRr4 := Lib.hid hr4
      clear hb4 hd4 hr4 o0 o1 o2 of l1 n1 hbD HD3 HRr3
      go_wp2_with fail
      refine (s_TextNum y2 _).mono ?_
      rintro e w5 ⟨rfl, hb5⟩
      have z5 := hb5.size
      (try simp at z5)
      rw [hy2.out.data]
      obtain ⟨z, hzz⟩ : ∃ z, numOf p1 = z := ⟨_, rfl⟩
      rw [hzz]
      have hd5 := heap_below hb5 (by simp; omega) HD4.out
      have hr5 := heap_below hb5 (by simp; omega) (heap_far (by show w.heap.size ≠ w2.heap.size; omega) HRr4.out)
      have hbF : Below w.heap.size w w5 := by (first | ((repeat' first | (with_reducible (first | exact Below.refl _ _ | assumption | refine Below.setCell ?_ ?_ _ | refine Below.alloc ?_ ?_ _ | refine Below.drew ?_ | refine below_drewN ?_ _ | refine Below.trans ?_ (Below.mono (by assumption) ?_))) | omega | (simp; omega) | (simp; done)); done) | (repeat' first | exact Below.refl _ _ | assumption | refine Below.setCell ?_ (by first | omega | (simp; omega) | (simp; done)) _ | refine Below.alloc ?_ (by first | omega | (simp; omega) | (simp; done)) _ | refine Below.drew ?_ | refine below_drewN ?_ _ | refine Below.trans ?_ (Below.mono (by assumption) (by first | omega | (simp; omega) | (simp; done)))))
      obtain ⟨_, r0, r1, r2, rf, rz⟩ := own3 (g := w2.heap.size) (Below.refl _ w5) (by omega) hd5
      have hd5s := (heap_set3 hd5 (.int .i64 z)).2.2
      have HD5 := Lib.hid hd5s
      have HRr5 := Lib.hid hr5
      obtain ⟨_, t0, t1, t2, tf, tz⟩ := own3 (g := w2.heap.size) (Below.refl _ (w5.setCell ⟨w2.heap.size, 2, none⟩ (.int .i64 z))) (by simp; omega) hd5s
      clear hb5 hd5 hr5 hd5s p0 p1' p2 pf n4 hbE HD4 HRr4
      go_wp2_with fail
      refine (s_DebtText x y z _).mono ?_
      rintro e w6 ⟨rfl, hb6⟩
      have z6 := hb6.size
      (try simp at z6)
      obtain ⟨t, ht', ht⟩ := str_of (debtL ⟨x, y, z⟩)
      rw [ht']
      clear ht'
      have hd6 := heap_below hb6 (by simp; omega) HD5.out
      have hr6 := heap_below hb6 (by simp; omega) (heap_far (by show w.heap.size ≠ w2.heap.size; omega) HRr5.out)
      have hbG : Below w.heap.size w w6 := by (first | ((repeat' first | (with_reducible (first | exact Below.refl _ _ | assumption | refine Below.setCell ?_ ?_ _ | refine Below.alloc ?_ ?_ _ | refine Below.drew ?_ | refine below_drewN ?_ _ | refine Below.trans ?_ (Below.mono (by assumption) ?_))) | omega | (simp; omega) | (simp; done)); done) | (repeat' first | exact Below.refl _ _ | assumption | refine Below.setCell ?_ (by first | omega | (simp; omega) | (simp; done)) _ | refine Below.alloc ?_ (by first | omega | (simp; omega) | (simp; done)) _ | refine Below.drew ?_ | refine below_drewN ?_ _ | refine Below.trans ?_ (Below.mono (by assumption) (by first | omega | (simp; omega) | (simp; done)))))
      obtain ⟨_, u0, u1, u2, uf, uz⟩ := own3 (g := w2.heap.size) (Below.refl _ w6) (by omega) hd6
      obtain ⟨_, v0, v1, v2, vf, vz⟩ := own3 (g := w.heap.size) (Below.refl _ w6) (by omega) hr6
      have HX := Lib.hid (show debtL ⟨numOf q0, numOf q1, numOf p1⟩ = debtL ⟨x, y, z⟩ by rw [hx, hy, hzz])
      have GH := Lib.hid hr6
      clear hb6 hd6 hr6 r0 r1 r2 rf t0 t1 t2 tf HD5 HRr5 hbF hx hy hzz
      by_cases et : t = s
      · have HN := Lib.hid (debt_hit HN2.out (eq_str ht.out et))
        have q := heap_set3 GH.out
        subst et
        go_wp2_with fail
        refine bodyPost_ret (v := .tuple #[.agg #[.int .i64 x, .int .i64 y, .int .i64 z], .bool true]) (by simp [results, Tryd.results31, go_sem, *]) rfl ⟨⟨x, y, z⟩, true, rfl, HN.out, ?_⟩
        (first | ((repeat' first | (with_reducible (first | exact Below.refl _ _ | assumption | refine Below.setCell ?_ ?_ _ | refine Below.alloc ?_ ?_ _ | refine Below.drew ?_ | refine below_drewN ?_ _ | refine Below.trans ?_ (Below.mono (by assumption) ?_))) | omega | (simp; omega) | (simp; done)); done) | (repeat' first | exact Below.refl _ _ | assumption | refine Below.setCell ?_ (by first | omega | (simp; omega) | (simp; done)) _ | refine Below.alloc ?_ (by first | omega | (simp; omega) | (simp; done)) _ | refine Below.drew ?_ | refine below_drewN ?_ _ | refine Below.trans ?_ (Below.mono (by assumption) (by first | omega | (simp; omega) | (simp; done)))))
      · have HN := Lib.hid (HMiss.out (fun x' y' a' b' h h' => by
          simp only [List.cons.injEq, and_true] at h
          obtain ⟨rfl, rfl⟩ := h
          rw [HQ.out] at h'
          simp only [List.cons.injEq, and_true] at h'
          obtain ⟨rfl, rfl⟩ := h'
          rw [HX.out]
          exact ne_str ht.out et))
        have hne := neq_str et
        clear et
        go_wp2_with fail
        refine bodyPost_ret (v := .tuple #[.agg #[.int .i64 0, .int .i64 0, .int .i64 0], .bool false]) (by simp [results, Tryd.results31, go_sem, *]) rfl ⟨⟨0, 0, 0⟩, false, rfl, HN.out, ?_⟩
        (first | ((repeat' first | (with_reducible (first | exact Below.refl _ _ | assumption | refine Below.setCell ?_ ?_ _ | refine Below.alloc ?_ ?_ _ | refine Below.drew ?_ | refine below_drewN ?_ _ | refine Below.trans ?_ (Below.mono (by assumption) ?_))) | omega | (simp; omega) | (simp; done)); done) | (repeat' first | exact Below.refl _ _ | assumption | refine Below.setCell ?_ (by first | omega | (simp; omega) | (simp; done)) _ | refine Below.alloc ?_ (by first | omega | (simp; omega) | (simp; done)) _ | refine Below.drew ?_ | refine below_drewN ?_ _ | refine Below.trans ?_ (Below.mono (by assumption) (by first | omega | (simp; omega) | (simp; done)))))
    · have HN := Lib.hid (HMiss.out (fun x' y' a' b' h h' => by
        simp only [List.cons.injEq, and_true] at h
        obtain ⟨rfl, rfl⟩ := h
        have := HM0.out
        rw [h'] at this
        exact (h2' this.symm).elim))
      have h3' : ((M : Int) == 2) = false := by rw [beq_eq_false_iff_ne]; omega
      clear h2' h2
      go_wp2_with fail
      refine bodyPost_ret (v := .tuple #[.agg #[.int .i64 0, .int .i64 0, .int .i64 0], .bool false]) (by simp [results, Tryd.results31, go_sem, *]) rfl ⟨⟨0, 0, 0⟩, false, rfl, HN.out, ?_⟩
      (first | ((repeat' first | (with_reducible (first | exact Below.refl _ _ | assumption | refine Below.setCell ?_ ?_ _ | refine Below.alloc ?_ ?_ _ | refine Below.drew ?_ | refine below_drewN ?_ _ | refine Below.trans ?_ (Below.mono (by assumption) ?_))) | omega | (simp; omega) | (simp; done)); done) | (repeat' first | exact Below.refl _ _ | assumption | refine Below.setCell ?_ (by first | omega | (simp; omega) | (simp; done)) _ | refine Below.alloc ?_ (by first | omega | (simp; omega) | (simp; done)) _ | refine Below.drew ?_ | refine below_drewN ?_ _ | refine Below.trans ?_ (Below.mono (by assumption) (by first | omega | (simp; omega) | (simp; done)))))
  · have HN := Lib.hid (HMiss.out (fun x' y' a' b' h h' => by have := HN0.out; rw [h] at this; exact (h2 this.symm).elim))
    have h3' : ((N : Int) == 2) = false := by rw [beq_eq_false_iff_ne]; omega
    clear h2 i1
    go_wp2_with fail
    refine bodyPost_ret (v := .tuple #[.agg #[.int .i64 0, .int .i64 0, .int .i64 0], .bool false]) (by simp [results, Tryd.results31, go_sem, *]) rfl ⟨⟨0, 0, 0⟩, false, rfl, HN.out, ?_⟩
    (first | ((repeat' first | (with_reducible (first | exact Below.refl _ _ | assumption | refine Below.setCell ?_ ?_ _ | refine Below.alloc ?_ ?_ _ | refine Below.drew ?_ | refine below_drewN ?_ _ | refine Below.trans ?_ (Below.mono (by assumption) ?_))) | omega | (simp; omega) | (simp; done)); done) | (repeat' first | exact Below.refl _ _ | assumption | refine Below.setCell ?_ (by first | omega | (simp; omega) | (simp; done)) _ | refine Below.alloc ?_ (by first | omega | (simp; omega) | (simp; done)) _ | refine Below.drew ?_ | refine below_drewN ?_ _ | refine Below.trans ?_ (Below.mono (by assumption) (by first | omega | (simp; omega) | (simp; done)))))
end Go.Proofs.YtgpledgjpjifcaaDoor
