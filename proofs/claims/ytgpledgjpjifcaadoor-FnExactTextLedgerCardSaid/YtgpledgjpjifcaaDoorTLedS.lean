/- TextLedger and TextPosting: the walks of the reference. -/
import Derived.Test.YtgpledgjpjifcaaDoorRows
import Derived.Test.YtgpledgjpjifcaaDoorTLedI
import Derived.Test.YtgpledgjpjifcaaDoorTxtD
import Derived.Test.YtgpledgjpjifcaaDoorApp
import Derived.Test.YtgpledgjpjifcaaDoorLast
import Derived.Deep.RegionHeld3
namespace Go.Proofs.YtgpledgjpjifcaaDoor
open Go.RowKit Go.Deep

theorem cell_apart {w : World} {X i b j : Nat} {v u : Value} (hne : b ≠ X) (h : w.cell? ⟨b, j, none⟩ = some v) : (w.setCell ⟨X, i, none⟩ u).cell? ⟨b, j, none⟩ = some v :=
  ((grown_set (World.grownBy.refl w (some X)) i u).cell_far ⟨b, j, none⟩ (Lib.lt_of_cell h) (fun e => hne (Option.some.inj e))).trans h
theorem Ow.head {w : World} {B n cap size : Nat} {e : TypeId} {A : Option Addr} {rows : List (List Value)} (h : Ow w B e size (.slice A n cap) rows) (h0 : 0 < rows.length) : ∃ g, A = some ⟨g, 0, none⟩ ∧ B ≤ g := by
  rcases h.open_ with ⟨hr, hv⟩ | ⟨g, cap', hv, hB, _, _⟩
  · rw [hr] at h0
    simp at h0
  · injection hv with h1
    exact ⟨g, h1, hB⟩
theorem led_two {s t : List UInt8} {m : Nat} {q0 q1 : List UInt8} {x : Line} (ht : (parts 10 s)[m + 1]? = some t) (hq : parts 32 t = [q0, q1]) (hp : PairIs q0 q1 x) : ∀ z' l', ledgerB z' l' = true → ledgerL z' l' = s → ∃ hm : m < l'.length, x = l'[m] := by
  intro z' l' h1 h2
  rcases led_part ht z' l' h1 h2 with ⟨hm, rfl⟩ | ⟨_, rfl⟩
  · rw [rowC_parts] at hq
    simp only [List.cons.injEq, and_true] at hq
    have hr := led_row h1 hm
    exact ⟨hm, hp l'[m] hr.1 hr.2 hq.1.symm hq.2.symm⟩
  · simp [parts] at hq
theorem led_not_two {s t : List UInt8} {m : Nat} {z : Int} {L : List Line} (ht : (parts 10 s)[m + 1]? = some t) (hr : RInv ledgerB ledgerL s true m z L) (hn : (parts 32 t).length ≠ 2 ∨ 320 < L.length) : ∀ z' l', ledgerB z' l' = true → ledgerL z' l' = s → l'.length ≤ m := by
  intro z' l' h1 h2
  rcases led_part ht z' l' h1 h2 with ⟨hm, rfl⟩ | ⟨hm, _⟩
  · rw [rowC_parts] at hn
    have h3 := led_short h1
    have h4 := congrArg List.length (hr z' l' h1 h2).2
    rw [List.length_take] at h4
    simp at hn
    omega
  · exact hm
theorem post_two {s t : List UInt8} {m : Nat} {q0 q1 : List UInt8} {x : Line} (ht : (parts 32 s)[m + 2]? = some t) (hq : parts 58 t = [q0, q1]) (hp : PairIs q0 q1 x) : ∀ z' l', postingB z' l' = true → postingL z' l' = s → ∃ hm : m < l'.length, x = l'[m] := by
  intro z' l' h1 h2
  obtain ⟨hm, rfl⟩ := post_part ht z' l' h1 h2
  rw [itemC_parts] at hq
  simp only [List.cons.injEq, and_true] at hq
  have hr := post_row h1 hm
  exact ⟨hm, hp l'[m] hr.1 hr.2 hq.1.symm hq.2.symm⟩
theorem post_not_two {s t : List UInt8} {m : Nat} {z : Int} {L : List Line} (ht : (parts 32 s)[m + 2]? = some t) (hr : RInv postingB postingL s true m z L) (hn : (parts 58 t).length ≠ 2 ∨ 8 < L.length) : ∀ z' l', postingB z' l' = true → postingL z' l' = s → l'.length ≤ m := by
  intro z' l' h1 h2
  obtain ⟨hm, rfl⟩ := post_part ht z' l' h1 h2
  rw [itemC_parts] at hn
  have h3 := post_short h1
  have h4 := congrArg List.length (hr z' l' h1 h2).2
  rw [List.length_take] at h4
  simp at hn
  omega
set_option maxRecDepth 100000 in
set_option maxHeartbeats 4000000 in
theorem s_TextLedger (s : ByteArray) (w : World) (hs : s.size ≤ 1048576) : Calls Tryd.prog 38 #[.string s] w (RdL ledgerB ledgerL s w) := by
  have hz : s.data.toList.length = s.size := Array.length_toList
  have hln := parts_len 10 s.data.toList
  have HSub := Lib.hid (parts_sub 10 s.data.toList)
  have HTwo := Lib.hid (show ∀ (m : Nat) (t q0 q1 : List UInt8) (x : Line), (parts 10 s.data.toList)[m + 1]? = some t → parts 32 t = [q0, q1] → PairIs q0 q1 x → ∀ z' l', ledgerB z' l' = true → ledgerL z' l' = s.data.toList → ∃ hm : m < l'.length, x = l'[m] from fun _ _ _ _ _ h1 h2 h3 => led_two h1 h2 h3)
  have HNot := Lib.hid (show ∀ (m : Nat) (t : List UInt8) (z : Int) (L : List Line), (parts 10 s.data.toList)[m + 1]? = some t → RInv ledgerB ledgerL s.data.toList true m z L → ((parts 32 t).length ≠ 2 ∨ 320 < L.length) → ∀ z' l', ledgerB z' l' = true → ledgerL z' l' = s.data.toList → l'.length ≤ m from fun _ _ _ _ h1 h2 h3 => led_not_two h1 h2 h3)
  have HCnt := Lib.hid (led_pieces (s := s.data.toList))
  have H0 := Lib.hid (parts_ne 10 s.data.toList)
  have HHead := Lib.hid (fun x (h : (parts 10 s.data.toList)[0]? = some x) => led_part0 h)
  have HC := Lib.hid (fun W => s_l04Parts s 10 10 W rfl hs)
  unfold PartsP at HC
  obtain ⟨ti0, hi, hz0, hz1, hz2⟩ := info_parts info_line
  have HI := Lib.hid hi
  have HZ0 := Lib.hid hz0
  have HZ1 := Lib.hid hz1
  have HZ2 := Lib.hid hz2
  obtain ⟨LS, hLS⟩ : ∃ LS, parts 10 s.data.toList = LS := ⟨_, rfl⟩
  rw [hLS] at HSub HTwo HNot HCnt HHead HC hln H0
  obtain ⟨N, hN⟩ : ∃ N, LS.length = N := ⟨_, rfl⟩
  rw [hN] at HCnt hln HC
  have hN1 : N ≤ 1048577 := by omega
  have hN0 : 0 < N := by rw [← hN]; exact List.length_pos_iff.2 H0.out
  have HNL := Lib.hid hN
  have HSz := Lib.hid (show ∀ x ∈ LS, x.length ≤ 1048576 from fun x hx => by have := HSub.out x hx; omega)
  clear hi hz0 hz1 hz2 hz hln hLS hN HSub H0
  go_enter Tryd.func38, Tryd.ntmps38
  go_wp2_with fail
  refine (HC.out _).mono ?_
  rintro e w1 ⟨A1, cap1, rfl, how1, hb1⟩
  have z1 := hb1.size
  (try simp at z1)
  obtain ⟨PB, rfl, hPB⟩ := how1.head (by rw [List.length_map, HNL.out]; exact hN0)
  (try simp at hPB)
  have hcap0 : N ≤ cap1 := by
    obtain ⟨A', cap'', e1, _, h2, _⟩ := how1.form
    rw [List.length_map, HNL.out] at h2
    injection e1 with _ _ e3
    omega
  obtain ⟨cs, hP1, hcs⟩ := how1.strs
  have hR1 := heap_below (n := w.heap.size) hb1 (by simp; omega) (heap_past (by simp) (heap_at rfl))
  have hX1 := heap_below (n := w.heap.size + 1) hb1 (by simp) (heap_at (by simp))
  obtain ⟨X, hX⟩ : ∃ X, X = w.heap.size + 1 := ⟨_, rfl⟩
  have hXR : w.heap.size < X := by omega
  have hXP : X ≠ PB := by omega
  have hRP : w.heap.size ≠ PB := by omega
  rw [← hX] at hX1 ⊢
  have hbA : Below w.heap.size w w1 := by (first | ((repeat' first | (with_reducible (first | exact Below.refl _ _ | assumption | refine Below.setCell ?_ ?_ _ | refine Below.alloc ?_ ?_ _ | refine Below.drew ?_ | refine below_drewN ?_ _ | refine Below.trans ?_ (Below.mono (by assumption) ?_))) | omega | (simp; omega) | (simp; done)); done) | (repeat' first | exact Below.refl _ _ | assumption | refine Below.setCell ?_ (by first | omega | (simp; omega) | (simp; done)) _ | refine Below.alloc ?_ (by first | omega | (simp; omega) | (simp; done)) _ | refine Below.drew ?_ | refine below_drewN ?_ _ | refine Below.trans ?_ (Below.mono (by assumption) (by first | omega | (simp; omega) | (simp; done)))))
  have hPl : PB < w1.heap.size := (Array.getElem?_eq_some_iff.1 hP1).1
  have HCS := Lib.hid hcs
  have HR1 := Lib.hid hR1
  have HX1 := Lib.hid hX1
  have HP1 := Lib.hid hP1
  clear hb1 hR1 hX1 hP1 hcs hX HC how1
  go_wp2_with fail
  go_loopw [12] (fun i wr => ∃ (k : Nat) (z : Int) (L : List Line) (Bk : Option Addr) (cp : Nat), k ≤ N ∧ i = .int .i64 k ∧ Hid (RInv ledgerB ledgerL s.data.toList (decide (1 ≤ k)) (k - 1) z L) ∧ L.length ≤ 321 ∧ Ow wr (w.heap.size + 1) 82 3 (.slice Bk L.length cp) (L.map Line.cells) ∧ wr.heap[X]? = some (.cells #[.int .i64 z, .slice Bk L.length cp] 35 (0, 0)) ∧ wr.heap[w.heap.size]? = some (.cells #[.int .i64 0, .slice none 0 0] 35 (0, 0)) ∧ wr.heap[PB]? = some (.cells cs 9 (0, 0)) ∧ Below w.heap.size w wr) (fun i _ => N - (intOf i).toNat)
  case atStart => exact ⟨0, 0, [], none, 0, Nat.zero_le _, rfl, Lib.hid RInv.start, by simp, Ow.nil_, HX1.out, HR1.out, HP1.out, hbA⟩
  case round =>
    obtain ⟨k, z, L, Bk, cp, hk, rfl, HInv, hL, how, hX, hR, hP, hbw⟩ := hrel
    have hbz := hbw.size
    have hXl := (Array.getElem?_eq_some_iff.1 hX).1
    have hRl := (Array.getElem?_eq_some_iff.1 hR).1
    have hPl2 := (Array.getElem?_eq_some_iff.1 hP).1
    have HX := Lib.hid hX
    have HR := Lib.hid hR
    have HP := Lib.hid hP
    have HW := Lib.hid how
    clear how hX hR hP HX1 HR1 HP1 hbA
    by_cases hlt : k < N
    · have hkL : k < LS.length := by rw [HNL.out]; omega
      have HXT := Lib.hid (rd_tail hkL)
      obtain ⟨t, ht', ht⟩ := str_of LS[k]
      have hts : t.size ≤ 1048576 := by rw [ht.out.size]; exact HSz.out _ (List.getElem_mem hkL)
      have c0 : wr.cell? ⟨PB, k, none⟩ = some (.string t) := by rw [blk_cell HP.out, HCS.out _ _ HXT.out, ht']
      obtain ⟨T, hT⟩ : ∃ T, LS[k] = T := ⟨_, rfl⟩
      rw [hT] at HXT ht
      have HTD := Lib.hid ht.out.data
      have HSp := Lib.hid (fun W => s_l04Parts t 32 32 W rfl hts)
      unfold PartsP at HSp
      have hqz := Lib.hid (show ∀ q ∈ parts 32 T, q.length ≤ 1048576 from fun q hq => by
        have h1 := parts_sub 32 T q hq
        have h2 : T.length ≤ 1048576 := by rw [← ht.out.size]; exact hts
        omega)
      have hq0 := Lib.hid (parts_ne 32 T)
      have hql := parts_len 32 T
      have htl : T.length ≤ 1048576 := by rw [← ht.out.size]; exact hts
      rw [HTD.out] at HSp
      obtain ⟨M, hM⟩ : ∃ M, (parts 32 T).length = M := ⟨_, rfl⟩
      rw [hM] at HSp hql
      have hM0 : 0 < M := by rw [← hM]; exact List.length_pos_iff.2 hq0.out
      have HML := Lib.hid hM
      clear hT ht' ht hkL hM hq0
      have i0 : (0 : Int) ≤ (k : Int) := by omega
      have i1 : (k : Int) < (N : Int) := by omega
      go_wp2_with fail
      refine (HSp.out _).mono ?_
      rintro e w2 ⟨A2, cap2, rfl, how2, hb2⟩
      have z2 := hb2.size
      obtain ⟨Q, rfl, hQB⟩ := how2.head (by rw [List.length_map, HML.out]; exact hM0)
      have hcap2 : M ≤ cap2 := by
        obtain ⟨A', cap'', e1, _, h2, _⟩ := how2.form
        rw [List.length_map, HML.out] at h2
        injection e1 with _ _ e3
        omega
      obtain ⟨qs, hQ2, hqs⟩ := how2.strs
      have hQl : Q < w2.heap.size := (Array.getElem?_eq_some_iff.1 hQ2).1
      have hX2 := heap_below hb2 hXl HX.out
      have hR2 := heap_below hb2 hRl HR.out
      have hP2 := heap_below hb2 hPl2 HP.out
      have HW2 := Lib.hid (HW.out.below hb2)
      have hbB : Below w.heap.size w w2 := by (first | ((repeat' first | (with_reducible (first | exact Below.refl _ _ | assumption | refine Below.setCell ?_ ?_ _ | refine Below.alloc ?_ ?_ _ | refine Below.drew ?_ | refine below_drewN ?_ _ | refine Below.trans ?_ (Below.mono (by assumption) ?_))) | omega | (simp; omega) | (simp; done)); done) | (repeat' first | exact Below.refl _ _ | assumption | refine Below.setCell ?_ (by first | omega | (simp; omega) | (simp; done)) _ | refine Below.alloc ?_ (by first | omega | (simp; omega) | (simp; done)) _ | refine Below.drew ?_ | refine below_drewN ?_ _ | refine Below.trans ?_ (Below.mono (by assumption) (by first | omega | (simp; omega) | (simp; done)))))
      have NQ := Lib.hid (HW2.out.ne_ hQ2 (by decide))
      have HX2 := Lib.hid hX2
      have HR2 := Lib.hid hR2
      have HP2 := Lib.hid hP2
      obtain ⟨_, g0, g1, gf, gz⟩ := own2 (g := X) (Below.refl _ w2) (by omega) hX2
      have HQS := Lib.hid hqs
      have HQ2 := Lib.hid hQ2
      have hQX : Q ≠ X := by omega
      clear how2 hb2 hX2 hR2 hP2 hqs hQ2 HSp c0 HW HX HR HP
      by_cases h2 : M = 2 ∧ L.length ≤ 320
      · obtain ⟨rfl, hfull⟩ := h2
        have hf : decide ((320 : Int) < (L.length : Int)) = false := decide_eq_false (by omega)
        have hpl := HML.out
        obtain ⟨q0, q1, hq⟩ := list2 hpl
        obtain ⟨t0, ht0', ht0h⟩ := str_of q0
        obtain ⟨t1, ht1', ht1h⟩ := str_of q1
        have c0 : w2.cell? ⟨Q, 0, none⟩ = some (.string t0) := by rw [blk_cell HQ2.out, HQS.out 0 q0 (by rw [hq]; rfl), ht0']
        have c1 : w2.cell? ⟨Q, 1, none⟩ = some (.string t1) := by rw [blk_cell HQ2.out, HQS.out 1 q1 (by rw [hq]; rfl), ht1']
        have ht0 : t0.size ≤ 1048576 := by rw [ht0h.out.size]; exact hqz.out q0 (by rw [hq]; simp)
        have HT0 := Lib.hid ht0h.out.data
        have HT1 := Lib.hid ht1h.out.data
        have HPQ := Lib.hid hq
        clear hpl hq ht0' ht1' ht0h ht1h hqz HQS HQ2
        by_cases hk0 : k = 0
        · subst hk0
          have HInv2 := Lib.hid (HInv.out.head (z := numOf t1.data.toList) (fun z' l' h1 h2 => by
            have h3 := HHead.out _ HXT.out z' l' h1 h2
            have h4 := HPQ.out
            rw [h3, ledC_parts] at h4
            simp only [List.cons.injEq, and_true] at h4
            rw [HT1.out, ← h4.2]
            exact (num_at (ledger_nums h1).1).1))
          clear HInv
          go_wp2_with fail
          refine (s_TextNum t1 _).mono ?_
          rintro e w3 ⟨rfl, hb3⟩
          have z3 := hb3.size
          obtain ⟨x, hx⟩ : ∃ x, numOf t1.data.toList = x := ⟨_, rfl⟩
          rw [hx] at HInv2 ⊢
          have hX3 := heap_below hb3 (by omega) HX2.out
          have hR3 := heap_below hb3 (by omega) HR2.out
          have hP3 := heap_below hb3 (by omega) HP2.out
          have HW3 := Lib.hid (HW2.out.below hb3)
          have NE := Lib.hid (HW3.out.ne_ hX3 (by decide))
          obtain ⟨_, a0, a1, af, az⟩ := own2 (g := X) (Below.refl _ w3) (by omega) hX3
          have HX4 := Lib.hid (heap_setP hX3 (.int .i64 x)).1
          have HR4 := Lib.hid (heap_far (a := ⟨X, 0, none⟩) (u := .int .i64 x) (by show w.heap.size ≠ X; omega) hR3)
          have HP4 := Lib.hid (heap_far (a := ⟨X, 0, none⟩) (u := .int .i64 x) (by show PB ≠ X; omega) hP3)
          have HW4 := Lib.hid (HW3.out.apart (X := X) (i := 0) NE.out (.int .i64 x))
          have hbC : Below w.heap.size w w3 := by (first | ((repeat' first | (with_reducible (first | exact Below.refl _ _ | assumption | refine Below.setCell ?_ ?_ _ | refine Below.alloc ?_ ?_ _ | refine Below.drew ?_ | refine below_drewN ?_ _ | refine Below.trans ?_ (Below.mono (by assumption) ?_))) | omega | (simp; omega) | (simp; done)); done) | (repeat' first | exact Below.refl _ _ | assumption | refine Below.setCell ?_ (by first | omega | (simp; omega) | (simp; done)) _ | refine Below.alloc ?_ (by first | omega | (simp; omega) | (simp; done)) _ | refine Below.drew ?_ | refine below_drewN ?_ _ | refine Below.trans ?_ (Below.mono (by assumption) (by first | omega | (simp; omega) | (simp; done)))))
          clear hb3 hX3 hR3 hP3 hx g0 g1 gf
          go_wp2_with fail
          go_roundw
          case rel => exact ⟨0 + 1, x, L, Bk, cp, by omega, by go_num, HInv2, hL, HW4.out, HX4.out, HR4.out, HP4.out, by (first | ((repeat' first | (with_reducible (first | exact Below.refl _ _ | assumption | refine Below.setCell ?_ ?_ _ | refine Below.alloc ?_ ?_ _ | refine Below.drew ?_ | refine below_drewN ?_ _ | refine Below.trans ?_ (Below.mono (by assumption) ?_))) | omega | (simp; omega) | (simp; done)); done) | (repeat' first | exact Below.refl _ _ | assumption | refine Below.setCell ?_ (by first | omega | (simp; omega) | (simp; done)) _ | refine Below.alloc ?_ (by first | omega | (simp; omega) | (simp; done)) _ | refine Below.drew ?_ | refine below_drewN ?_ _ | refine Below.trans ?_ (Below.mono (by assumption) (by first | omega | (simp; omega) | (simp; done)))))⟩
          case measure => simp [intOf]; omega
        · have hk0f : ((k : Int) == 0) = false := by rw [beq_eq_false_iff_ne]; omega
          obtain ⟨m, rfl⟩ : ∃ m, k = m + 1 := ⟨k - 1, by omega⟩
          have HInv1 := Lib.hid (show RInv ledgerB ledgerL s.data.toList true m z L by
            have := HInv.out
            rwa [Nat.add_sub_cancel, decide_eq_true (by omega)] at this)
          clear HInv hk0
          go_wp2_with fail
          clear g0 g1 gf gz
          have hbz2 := hbB.size
          obtain ⟨_, a0, a1, af, az⟩ := own2 (g := X) (Below.refl _ w2) (Array.getElem?_eq_some_iff.1 HX2.out).1 HX2.out
          refine wp_region_noPanic ?_
          refine wp_region_lastL (S := (fun w' => w'.cell? ⟨X, 1, none⟩ = some (.slice Bk L.length cp) ∧ w'.cell? ⟨Q, 0, none⟩ = some (.string t0) ∧ w'.cell? ⟨Q, 1, none⟩ = some (.string t1))) rfl (by kernel_rfl) (by kernel_rfl) (by kernel_rfl) (by kernel_rfl) ?_ (fun hHeld => ?_)
          · exact ⟨a1, c0, c1⟩
          simp only [List.dropLast]
          refine wpAnyH_take (i := 0) (v := ?v1) rfl (by kernel_rfl) (by kernel_rfl) (by kernel_rfl) (fun _ _ _ h => h) (Or.inl ⟨by rfl, ?hy1⟩) (by assumption) ?rest1
          case hy1 => (intro w hSw; (try dsimp only at hSw); go_simp; (try with_reducible rfl))
          ((try simp only [Act.put]); (try simp only [List.setIfInBounds_toArray]); (repeat (first | simp only [List.set_cons_succ] | simp only [List.set_cons_zero])))
          refine wpAnyH_take (i := 1) (v := ?v2) rfl (by kernel_rfl) (by kernel_rfl) (by kernel_rfl) (fun _ _ _ h => h) (Or.inl ⟨by rfl, ?hy2⟩) (by assumption) ?rest2
          case hy2 => (intro w hSw; (try dsimp only at hSw); go_simp; (try with_reducible rfl))
          ((try simp only [Act.put]); (try simp only [List.setIfInBounds_toArray]); (repeat (first | simp only [List.set_cons_succ] | simp only [List.set_cons_zero])))
          refine wpAnyH_take (i := 2) (v := ?v3) rfl (by kernel_rfl) (by kernel_rfl) (by kernel_rfl) (fun _ _ _ h => h) (Or.inl ⟨by rfl, ?hy3⟩) (by assumption) ?rest3
          case hy3 => (intro w hSw; (try dsimp only at hSw); go_simp; (try with_reducible rfl))
          ((try simp only [Act.put]); (try simp only [List.setIfInBounds_toArray]); (repeat (first | simp only [List.set_cons_succ] | simp only [List.set_cons_zero])))
          refine wpAnyH_take (i := 3) (v := ?v4) rfl (by kernel_rfl) (by kernel_rfl) (by kernel_rfl) (fun _ _ _ h => h) (Or.inl ⟨by rfl, ?hy4⟩) (by assumption) ?rest4
          case hy4 => (intro w hSw; (try dsimp only at hSw); go_simp; (try with_reducible rfl))
          ((try simp only [Act.put]); (try simp only [List.setIfInBounds_toArray]); (repeat (first | simp only [List.set_cons_succ] | simp only [List.set_cons_zero])))
          refine wpAnyH_take (i := 4) (v := ?v5) rfl (by kernel_rfl) (by kernel_rfl) (by kernel_rfl) (fun _ _ _ h => h) (Or.inl ⟨by rfl, ?hy5⟩) (by assumption) ?rest5
          case hy5 => (intro w hSw; (try dsimp only at hSw); go_simp; (try with_reducible rfl))
          ((try simp only [Act.put]); (try simp only [List.setIfInBounds_toArray]); (repeat (first | simp only [List.set_cons_succ] | simp only [List.set_cons_zero])))
          refine wpAnyH_take (i := 5) (v := ?v6) rfl (by kernel_rfl) (by kernel_rfl) (by kernel_rfl) (fun _ _ _ h => h) (Or.inl ⟨by rfl, ?hy6⟩) (by assumption) ?rest6
          case hy6 => (intro w hSw; (try dsimp only at hSw); go_simp; (try with_reducible rfl))
          ((try simp only [Act.put]); (try simp only [List.setIfInBounds_toArray]); (repeat (first | simp only [List.set_cons_succ] | simp only [List.set_cons_zero])))
          refine wpAnyH_take (i := 6) (v := ?v7) rfl (by kernel_rfl) (by kernel_rfl) (by kernel_rfl) (fun _ _ _ h => h) (Or.inl ⟨by rfl, ?hy7⟩) (by assumption) ?rest7
          case hy7 => (intro w hSw; (try dsimp only at hSw); go_simp; (try with_reducible rfl))
          ((try simp only [Act.put]); (try simp only [List.setIfInBounds_toArray]); (repeat (first | simp only [List.set_cons_succ] | simp only [List.set_cons_zero])))
          refine wpAnyH_take (i := 7) (v := ?v8) rfl (by kernel_rfl) (by kernel_rfl) (by kernel_rfl) (fun _ _ _ h => h) (Or.inl ⟨by rfl, ?hy8⟩) (by assumption) ?rest8
          case hy8 => (intro w hSw; (try dsimp only at hSw); go_simp; (try with_reducible rfl))
          ((try simp only [Act.put]); (try simp only [List.setIfInBounds_toArray]); (repeat (first | simp only [List.set_cons_succ] | simp only [List.set_cons_zero])))
          refine wpAnyH_ready (rs := [8]) (by kernel_rfl) (by simp) ?_
          refine AllReadyH.cons rfl (fun K hK => ?_) ?_
          · skip
            go_simp
            refine (s_l20Line t0 t1 _ ht0).mono ?_
            rintro e w5 ⟨⟨y0, y1, y2⟩, rfl, hpair, hb5⟩
            have z5 := hb5.size
            (try simp at z5)
            have HPair := Lib.hid hpair
            have hX5 := heap_below hb5 (by first | (simp; done) | (simp; omega)) HX2.out
            have hR5 := heap_below hb5 (by first | (simp; done) | (simp; omega)) HR2.out
            have hP5 := heap_below hb5 (by first | (simp; done) | (simp; omega)) HP2.out
            have HW5 := Lib.hid (HW2.out.below (below_undrew hb5))
            have d0 := (hb5.cell (p := ⟨Q, 0, none⟩) (by show Q < _; first | (simp; done) | (simp; omega))).trans c0
            have d1 := (hb5.cell (p := ⟨Q, 1, none⟩) (by show Q < _; first | (simp; done) | (simp; omega))).trans c1
            have hbE := hbB.trans ((below_undrew hb5).mono hbB.size)
            obtain ⟨_, b0, b1, bf, bz⟩ := own2 (g := X) (Below.refl _ w5) (Array.getElem?_eq_some_iff.1 hX5).1 hX5
            have NE := Lib.hid (HW5.out.ne_ hX5 (by decide))
            have NP := Lib.hid (HW5.out.ne_ hP5 (by decide))
            have NR := Lib.hid (HW5.out.ne_ hR5 (by decide))
            have hX5l := (Array.getElem?_eq_some_iff.1 hX5).1
            have hR5l := (Array.getElem?_eq_some_iff.1 hR5).1
            have hP5l := (Array.getElem?_eq_some_iff.1 hP5).1
            have HX5 := Lib.hid hX5
            have HR5 := Lib.hid hR5
            have HP5 := Lib.hid hP5
            clear hb5 hX5 hR5 hP5 hpair
            go_simp
            refine hK.out _ _ ?_ (fun hHeld => ?_)
            · exact ⟨b1, d0, d1⟩
            clear hK K
            ((try simp only [Act.put]); (try simp only [List.setIfInBounds_toArray]); (repeat (first | simp only [List.set_cons_succ] | simp only [List.set_cons_zero])))
            refine wpAnyH_ready (rs := [9]) (by kernel_rfl) (by simp) ?_
            refine AllReadyH.cons rfl (fun K hK => ?_) ?_
            · skip
              go_simp
              refine hK.out _ _ ?_ (fun hHeld => ?_)
              · exact ⟨cell_past hX5l b1, cell_past (by show Q < _; omega) d0, cell_past (by show Q < _; omega) d1⟩
              clear hK K
              ((try simp only [Act.put]); (try simp only [List.setIfInBounds_toArray]); (repeat (first | simp only [List.set_cons_succ] | simp only [List.set_cons_zero])))
              refine wpAnyH_ready (rs := [10]) (by kernel_rfl) (by simp) ?_
              refine AllReadyH.cons rfl (fun K hK => ?_) ?_
              · skip
                refine step_app1 (by rfl) _ _ _ (by rfl) (w.heap.size + 1) 82 ti0 _ 3 24 Tryd.underlying33 HI.out HZ0.out HZ1.out HZ2.out rfl (by decide) (.slice Bk L.length cp) (L.map Line.cells) (by rfl) (HW5.out.alloc _) w5.heap.size 1 [.int .i64 y0, .int .i64 y1, .int .i64 y2] 82 (by rfl) (heap_at (by first | rfl | (simp; done))) rfl (by simp [Value.oneCell']) (by rw [List.length_map]; omega) (by decide) (by first | omega | (simp; omega) | (simp; done)) ?_
                intro g2 cap2 w6 how6 hgr6 hat6 hlt6
                rw [List.length_map] at how6
                rw [List.length_map]
                have hX6 := heap_grown hgr6 NE.out (heap_past hX5l HX5.out)
                have hP6 := heap_grown hgr6 NP.out (heap_past hP5l HP5.out)
                have hR6 := heap_grown hgr6 NR.out (heap_past hR5l HR5.out)
                have hb6 := (hbE.alloc hbE.size _).grown hgr6 (by first | omega | (simp; omega)) (fun k e => by have := (HW5.out.block k e).1; omega)
                have z6 := hb6.size
                have N6 := Lib.hid (how6.ne_ hX6 (by decide))
                obtain ⟨_, f0, f1, ff, fz⟩ := own2 (g := X) (Below.refl _ w6) (Array.getElem?_eq_some_iff.1 hX6).1 hX6
                have e0 : w6.cell? ⟨Q, 0, none⟩ = some (.string t0) := (hgr6.cell_far ⟨Q, 0, none⟩ (by show Q < _; simp; omega) NQ.out).trans (cell_past (by show Q < _; omega) d0)
                have e1 : w6.cell? ⟨Q, 1, none⟩ = some (.string t1) := (hgr6.cell_far ⟨Q, 1, none⟩ (by show Q < _; simp; omega) NQ.out).trans (cell_past (by show Q < _; omega) d1)
                have HW7 := Lib.hid (how6.apart (X := X) (i := 1) N6.out (.slice (some ⟨g2, 0, none⟩) (L.length + 1) cap2))
                have HX6 := Lib.hid (heap_setP hX6 (.slice (some ⟨g2, 0, none⟩) (L.length + 1) cap2)).2
                have HR6 := Lib.hid (heap_far (a := ⟨X, 1, none⟩) (u := .slice (some ⟨g2, 0, none⟩) (L.length + 1) cap2) (by show w.heap.size ≠ X; omega) hR6)
                have HP6 := Lib.hid (heap_far (a := ⟨X, 1, none⟩) (u := .slice (some ⟨g2, 0, none⟩) (L.length + 1) cap2) (by show PB ≠ X; omega) hP6)
                clear how6 hgr6 hat6 hX6 hP6 hR6
                refine hK.out _ _ ?_ (fun hHeld => ?_)
                · exact ⟨f1, e0, e1⟩
                clear hK K
                ((try simp only [Act.put]); (try simp only [List.setIfInBounds_toArray]); (repeat (first | simp only [List.set_cons_succ] | simp only [List.set_cons_zero])))
                refine wpAnyH_take (i := 11) (v := ?v9) rfl (by kernel_rfl) (by kernel_rfl) (by kernel_rfl) (fun _ _ _ h => h) (Or.inl ⟨by rfl, ?hy9⟩) (by assumption) ?rest9
                case hy9 => (intro w hSw; (try dsimp only at hSw); go_simp; (try with_reducible rfl))
                ((try simp only [Act.put]); (try simp only [List.setIfInBounds_toArray]); (repeat (first | simp only [List.set_cons_succ] | simp only [List.set_cons_zero])))
                refine wpAnyH_done (by kernel_rfl) ?_ _
                intro KK hKK
                go_simp
                refine hKK _ _ (NoPanic.normal ?_)
                have HInv2 := Lib.hid (HInv1.out.next (HTwo.out _ _ _ _ _ HXT.out HPQ.out (by have := HPair.out; rwa [HT0.out, HT1.out] at this)))
                go_wp2_with fail
                go_roundw
                case rel =>
                  refine ⟨m + 1 + 1, z, L ++ [⟨y0, y1, y2⟩], some ⟨g2, 0, none⟩, cap2, by omega, by go_num, Lib.hid (by
                    rw [decide_eq_true (by omega), Nat.add_sub_cancel]
                    exact HInv2.out), by simp; omega, ?_, ?_, HR6.out, HP6.out, by (first | ((repeat' first | (with_reducible (first | exact Below.refl _ _ | assumption | refine Below.setCell ?_ ?_ _ | refine Below.alloc ?_ ?_ _ | refine Below.drew ?_ | refine below_drewN ?_ _ | refine Below.trans ?_ (Below.mono (by assumption) ?_))) | omega | (simp; omega) | (simp; done)); done) | (repeat' first | exact Below.refl _ _ | assumption | refine Below.setCell ?_ (by first | omega | (simp; omega) | (simp; done)) _ | refine Below.alloc ?_ (by first | omega | (simp; omega) | (simp; done)) _ | refine Below.drew ?_ | refine below_drewN ?_ _ | refine Below.trans ?_ (Below.mono (by assumption) (by first | omega | (simp; omega) | (simp; done)))))⟩
                  · rw [List.map_append, List.length_append]
                    exact HW7.out
                  · rw [List.length_append]
                    exact HX6.out
                case measure => simp [intOf]; omega
              exact AllReadyH.nil
            exact AllReadyH.nil
          exact AllReadyH.nil
      · have HInv2 := Lib.hid (show RInv ledgerB ledgerL s.data.toList (decide (1 ≤ k + 1)) (k + 1 - 1) z L by
          rw [decide_eq_true (by omega), Nat.add_sub_cancel]
          cases k with
          | zero =>
            refine RInv.head HInv.out (fun z' l' h1 h2' => ?_)
            exfalso
            have h3 := HHead.out _ HXT.out z' l' h1 h2'
            have h4 : M = 2 := by
              have h6 := HML.out
              rw [h3, ledC_parts] at h6
              exact h6.symm
            have h5 : L.length = 0 := by
              rw [(HInv.out z' l' h1 h2').2]
              simp
            omega
          | succ m =>
            have h1 := HInv.out
            rw [Nat.add_sub_cancel, decide_eq_true (by omega)] at h1
            exact h1.stay (HNot.out _ _ _ _ HXT.out h1 (by rw [HML.out]; omega)))
        by_cases hM2 : M = 2
        · have hf : (320 : Int) < (L.length : Int) := by omega
          subst hM2
          clear h2
          go_wp2_with fail
          go_roundw
          case rel => exact ⟨k + 1, z, L, Bk, cp, by omega, by go_num, HInv2, hL, HW2.out, HX2.out, HR2.out, HP2.out, hbB⟩
          case measure => simp [intOf]; omega
        · have hMf : ((M : Int) == 2) = false := by rw [beq_eq_false_iff_ne]; omega
          clear h2 hM2
          go_wp2_with fail
          all_goals
            go_roundw
            case rel => exact ⟨k + 1, z, L, Bk, cp, by omega, by go_num, HInv2, hL, HW2.out, HX2.out, HR2.out, HP2.out, hbB⟩
            case measure => simp [intOf]; omega
    · obtain rfl : k = N := by omega
      obtain ⟨_, a0, a1, af, az⟩ := own2 (g := X) (Below.refl _ wr) (by omega) HX.out
      obtain ⟨_, r0, r1, rf, rz⟩ := own2 (g := w.heap.size) (Below.refl _ wr) (by omega) HR.out
      have HRd := Lib.hid HW.out.rd
      have HMiss := Lib.hid (show ledgerL z L ≠ s.data.toList → LedIs ledgerB ledgerL s.data.toList 0 [] false from fun h => by
        by_cases hd : 1 ≤ k
        · have hI := HInv.out
          rw [decide_eq_true hd] at hI
          exact hI.miss (fun z' l' h1 h2 => by have := HCnt.out z' l' h1 h2; omega) h
        · exact led_none (fun z' l' h1 h2 => by have := HCnt.out z' l' h1 h2; omega))
      by_cases hse : s = ⟨#[]⟩
      · have HN := Lib.hid (led_none (B := ledgerB) (F := ledgerL) (s := s.data.toList) (fun z' l' h1 h2 => by
          rw [hse] at h2
          exact led_text_ne h1 h2))
        subst hse
        go_wp2_with fail
        refine bodyPost_ret (v := .tuple #[.agg #[.int .i64 0, .slice none 0 0], .bool false]) (by simp [results, Tryd.results38, go_sem, *]) rfl ⟨0, [], none, 0, false, rfl, Ow.nil_, HN.out, ?_⟩
        (first | ((repeat' first | (with_reducible (first | exact Below.refl _ _ | assumption | refine Below.setCell ?_ ?_ _ | refine Below.alloc ?_ ?_ _ | refine Below.drew ?_ | refine below_drewN ?_ _ | refine Below.trans ?_ (Below.mono (by assumption) ?_))) | omega | (simp; omega) | (simp; done)); done) | (repeat' first | exact Below.refl _ _ | assumption | refine Below.setCell ?_ (by first | omega | (simp; omega) | (simp; done)) _ | refine Below.alloc ?_ (by first | omega | (simp; omega) | (simp; done)) _ | refine Below.drew ?_ | refine below_drewN ?_ _ | refine Below.trans ?_ (Below.mono (by assumption) (by first | omega | (simp; omega) | (simp; done)))))
      · have HSE := Lib.hid (show s.data.toList ≠ [] from fun h => hse (by
          have := str_self s
          unfold Str at this
          rw [this, h]))
        have hse1 : s.toList.isEmpty = false := by
          have h := neq_str hse
          cases hx : s.toList with
          | nil => rw [hx] at h; simp at h
          | cons a r => rfl
        clear hse
        go_wp2_with fail
        refine (s_LedgerText z L _ _ _ (by omega) HRd.out).mono ?_
        rintro e w3 ⟨rfl, hb3⟩
        have z3 := hb3.size
        obtain ⟨t, ht', ht⟩ := str_of (ledgerL z L)
        rw [ht']
        clear ht'
        have hX3 := heap_below hb3 hXl HX.out
        have hR3 := heap_below hb3 hRl HR.out
        have HW3 := Lib.hid (HW.out.below hb3)
        obtain ⟨_, b0, b1, bf, bz⟩ := own2 (g := X) (Below.refl _ w3) (by omega) hX3
        obtain ⟨_, s0, s1, sf, sz⟩ := own2 (g := w.heap.size) (Below.refl _ w3) (by omega) hR3
        have NR := Lib.hid (HW3.out.ne_ hR3 (by decide))
        have hbB : Below w.heap.size w w3 := by (first | ((repeat' first | (with_reducible (first | exact Below.refl _ _ | assumption | refine Below.setCell ?_ ?_ _ | refine Below.alloc ?_ ?_ _ | refine Below.drew ?_ | refine below_drewN ?_ _ | refine Below.trans ?_ (Below.mono (by assumption) ?_))) | omega | (simp; omega) | (simp; done)); done) | (repeat' first | exact Below.refl _ _ | assumption | refine Below.setCell ?_ (by first | omega | (simp; omega) | (simp; done)) _ | refine Below.alloc ?_ (by first | omega | (simp; omega) | (simp; done)) _ | refine Below.drew ?_ | refine below_drewN ?_ _ | refine Below.trans ?_ (Below.mono (by assumption) (by first | omega | (simp; omega) | (simp; done)))))
        clear hb3 hX3 hR3 a0 a1 af r0 r1 rf
        by_cases et : t = s
        · have HN := Lib.hid (led_hit (s := s.data.toList) (z := z) (L := L) HSE.out (eq_str ht.out et))
          have HWR := Lib.hid (HW3.out.apart2 (X := w.heap.size) NR.out (.int .i64 z) (.slice Bk L.length cp))
          subst et
          go_wp2_with fail
          refine bodyPost_ret (v := .tuple #[.agg #[.int .i64 z, .slice Bk L.length cp], .bool true]) (by simp [results, Tryd.results38, go_sem, *]) rfl ⟨z, L, Bk, cp, true, rfl, ?_, HN.out, ?_⟩
          · exact HWR.out.more (by omega)
          · (first | ((repeat' first | (with_reducible (first | exact Below.refl _ _ | assumption | refine Below.setCell ?_ ?_ _ | refine Below.alloc ?_ ?_ _ | refine Below.drew ?_ | refine below_drewN ?_ _ | refine Below.trans ?_ (Below.mono (by assumption) ?_))) | omega | (simp; omega) | (simp; done)); done) | (repeat' first | exact Below.refl _ _ | assumption | refine Below.setCell ?_ (by first | omega | (simp; omega) | (simp; done)) _ | refine Below.alloc ?_ (by first | omega | (simp; omega) | (simp; done)) _ | refine Below.drew ?_ | refine below_drewN ?_ _ | refine Below.trans ?_ (Below.mono (by assumption) (by first | omega | (simp; omega) | (simp; done)))))
        · have HN := Lib.hid (HMiss.out (ne_str ht.out et))
          have hneq := neq_str et
          clear et
          go_wp2_with fail
          refine bodyPost_ret (v := .tuple #[.agg #[.int .i64 0, .slice none 0 0], .bool false]) (by simp [results, Tryd.results38, go_sem, *]) rfl ⟨0, [], none, 0, false, rfl, Ow.nil_, HN.out, ?_⟩
          (first | ((repeat' first | (with_reducible (first | exact Below.refl _ _ | assumption | refine Below.setCell ?_ ?_ _ | refine Below.alloc ?_ ?_ _ | refine Below.drew ?_ | refine below_drewN ?_ _ | refine Below.trans ?_ (Below.mono (by assumption) ?_))) | omega | (simp; omega) | (simp; done)); done) | (repeat' first | exact Below.refl _ _ | assumption | refine Below.setCell ?_ (by first | omega | (simp; omega) | (simp; done)) _ | refine Below.alloc ?_ (by first | omega | (simp; omega) | (simp; done)) _ | refine Below.drew ?_ | refine below_drewN ?_ _ | refine Below.trans ?_ (Below.mono (by assumption) (by first | omega | (simp; omega) | (simp; done)))))
set_option maxRecDepth 100000 in
set_option maxHeartbeats 4000000 in
theorem s_TextPosting (s : ByteArray) (w : World) (hs : s.size ≤ 1048576) : Calls Tryd.prog 34 #[.string s] w (RdL postingB postingL s w) := by
  have hz : s.data.toList.length = s.size := Array.length_toList
  have hln := parts_len 32 s.data.toList
  have HSub := Lib.hid (parts_sub 32 s.data.toList)
  have HTwo := Lib.hid (show ∀ (m : Nat) (t q0 q1 : List UInt8) (x : Line), (parts 32 s.data.toList)[m + 2]? = some t → parts 58 t = [q0, q1] → PairIs q0 q1 x → ∀ z' l', postingB z' l' = true → postingL z' l' = s.data.toList → ∃ hm : m < l'.length, x = l'[m] from fun _ _ _ _ _ h1 h2 h3 => post_two h1 h2 h3)
  have HNot := Lib.hid (show ∀ (m : Nat) (t : List UInt8) (z : Int) (L : List Line), (parts 32 s.data.toList)[m + 2]? = some t → RInv postingB postingL s.data.toList true m z L → ((parts 58 t).length ≠ 2 ∨ 8 < L.length) → ∀ z' l', postingB z' l' = true → postingL z' l' = s.data.toList → l'.length ≤ m from fun _ _ _ _ h1 h2 h3 => post_not_two h1 h2 h3)
  have HCnt := Lib.hid (post_count (s := s.data.toList))
  have H0 := Lib.hid (parts_ne 32 s.data.toList)
  have HHead := Lib.hid (fun x (h : (parts 32 s.data.toList)[1]? = some x) => post_part1 h)
  have HC := Lib.hid (fun W => s_l04Parts s 32 32 W rfl hs)
  unfold PartsP at HC
  obtain ⟨ti0, hi, hz0, hz1, hz2⟩ := info_parts info_line
  have HI := Lib.hid hi
  have HZ0 := Lib.hid hz0
  have HZ1 := Lib.hid hz1
  have HZ2 := Lib.hid hz2
  obtain ⟨LS, hLS⟩ : ∃ LS, parts 32 s.data.toList = LS := ⟨_, rfl⟩
  rw [hLS] at HSub HTwo HNot HCnt HHead HC hln H0
  obtain ⟨N, hN⟩ : ∃ N, LS.length = N := ⟨_, rfl⟩
  rw [hN] at HCnt hln HC
  have hN1 : N ≤ 1048577 := by omega
  have hN0 : 0 < N := by rw [← hN]; exact List.length_pos_iff.2 H0.out
  have HNL := Lib.hid hN
  have HPS := Lib.hid (show (parts 32 s.data.toList).length = N by rw [hLS, hN])
  have HSz := Lib.hid (show ∀ x ∈ LS, x.length ≤ 1048576 from fun x hx => by have := HSub.out x hx; omega)
  clear hi hz0 hz1 hz2 hz hln hLS hN HSub H0
  go_enter Tryd.func34, Tryd.ntmps34
  go_wp2_with fail
  refine (HC.out _).mono ?_
  rintro e w1 ⟨A1, cap1, rfl, how1, hb1⟩
  have z1 := hb1.size
  (try simp at z1)
  obtain ⟨PB, rfl, hPB⟩ := how1.head (by rw [List.length_map, HNL.out]; exact hN0)
  (try simp at hPB)
  have hcap0 : N ≤ cap1 := by
    obtain ⟨A', cap'', e1, _, h2, _⟩ := how1.form
    rw [List.length_map, HNL.out] at h2
    injection e1 with _ _ e3
    omega
  obtain ⟨cs, hP1, hcs⟩ := how1.strs
  have hR1 := heap_below (n := w.heap.size) hb1 (by simp; omega) (heap_past (by simp) (heap_at rfl))
  have hX1 := heap_below (n := w.heap.size + 1) hb1 (by simp) (heap_at (by simp))
  obtain ⟨X, hX⟩ : ∃ X, X = w.heap.size + 1 := ⟨_, rfl⟩
  have hXR : w.heap.size < X := by omega
  have hXP : X ≠ PB := by omega
  have hRP : w.heap.size ≠ PB := by omega
  rw [← hX] at hX1 ⊢
  have hbA : Below w.heap.size w w1 := by (first | ((repeat' first | (with_reducible (first | exact Below.refl _ _ | assumption | refine Below.setCell ?_ ?_ _ | refine Below.alloc ?_ ?_ _ | refine Below.drew ?_ | refine below_drewN ?_ _ | refine Below.trans ?_ (Below.mono (by assumption) ?_))) | omega | (simp; omega) | (simp; done)); done) | (repeat' first | exact Below.refl _ _ | assumption | refine Below.setCell ?_ (by first | omega | (simp; omega) | (simp; done)) _ | refine Below.alloc ?_ (by first | omega | (simp; omega) | (simp; done)) _ | refine Below.drew ?_ | refine below_drewN ?_ _ | refine Below.trans ?_ (Below.mono (by assumption) (by first | omega | (simp; omega) | (simp; done)))))
  have hPl : PB < w1.heap.size := (Array.getElem?_eq_some_iff.1 hP1).1
  have HCS := Lib.hid hcs
  obtain ⟨_, a0, a1, af, az⟩ := own2 (g := X) (Below.refl _ w1) (by omega) hX1
  obtain ⟨_, r0, r1, rf, rz⟩ := own2 (g := w.heap.size) (Below.refl _ w1) (by omega) hR1
  by_cases hN2 : N < 2
  · have hN2i : (N : Int) < 2 := by omega
    have HN := Lib.hid (led_none (B := postingB) (F := postingL) (s := s.data.toList) (fun z' l' h1 h2 => by
      have := HCnt.out z' l' h1 h2
      omega))
    clear hb1 hR1 hX1 hP1 hcs hX HC how1
    go_wp2_with fail
    refine bodyPost_ret (v := .tuple #[.agg #[.int .i64 0, .slice none 0 0], .bool false]) (by simp [results, Tryd.results34, go_sem, *]) rfl ⟨0, [], none, 0, false, rfl, Ow.nil_, HN.out, ?_⟩
    (first | ((repeat' first | (with_reducible (first | exact Below.refl _ _ | assumption | refine Below.setCell ?_ ?_ _ | refine Below.alloc ?_ ?_ _ | refine Below.drew ?_ | refine below_drewN ?_ _ | refine Below.trans ?_ (Below.mono (by assumption) ?_))) | omega | (simp; omega) | (simp; done)); done) | (repeat' first | exact Below.refl _ _ | assumption | refine Below.setCell ?_ (by first | omega | (simp; omega) | (simp; done)) _ | refine Below.alloc ?_ (by first | omega | (simp; omega) | (simp; done)) _ | refine Below.drew ?_ | refine below_drewN ?_ _ | refine Below.trans ?_ (Below.mono (by assumption) (by first | omega | (simp; omega) | (simp; done)))))
  · have hN2i : decide ((N : Int) < 2) = false := decide_eq_false (by omega)
    have i1 : (1 : Int) < (N : Int) := by omega
    have h1L : 1 < LS.length := by rw [HNL.out]; omega
    have HXT := Lib.hid (rd_tail h1L)
    obtain ⟨t, ht', ht⟩ := str_of LS[1]
    have c0 : w1.cell? ⟨PB, 1, none⟩ = some (.string t) := by rw [blk_cell hP1, HCS.out 1 _ HXT.out, ht']
    obtain ⟨T, hT⟩ : ∃ T, LS[1] = T := ⟨_, rfl⟩
    rw [hT] at HXT ht
    have HTD := Lib.hid ht.out.data
    have HInv := Lib.hid ((RInv.start (B := postingB) (F := postingL) (s := s.data.toList)).head (z := numOf t.data.toList) (fun z' l' h1 h2 => by
      rw [HTD.out, HHead.out _ HXT.out z' l' h1 h2]
      exact post_num h1))
    have HX1 := Lib.hid hX1
    have HR1 := Lib.hid hR1
    have HP1 := Lib.hid hP1
    clear hb1 hR1 hX1 hP1 hcs hX HC how1 ht' ht hT r0 r1 rf rz
    go_wp2_with fail
    refine (s_TextNum t _).mono ?_
    rintro e w3 ⟨rfl, hb3⟩
    have z3 := hb3.size
    obtain ⟨x, hx⟩ : ∃ x, numOf t.data.toList = x := ⟨_, rfl⟩
    rw [hx] at HInv ⊢
    have hX3 := heap_below hb3 (by omega) HX1.out
    have hR3 := heap_below hb3 (by omega) HR1.out
    have hP3 := heap_below hb3 hPl HP1.out
    have hbC : Below w.heap.size w w3 := by (first | ((repeat' first | (with_reducible (first | exact Below.refl _ _ | assumption | refine Below.setCell ?_ ?_ _ | refine Below.alloc ?_ ?_ _ | refine Below.drew ?_ | refine below_drewN ?_ _ | refine Below.trans ?_ (Below.mono (by assumption) ?_))) | omega | (simp; omega) | (simp; done)); done) | (repeat' first | exact Below.refl _ _ | assumption | refine Below.setCell ?_ (by first | omega | (simp; omega) | (simp; done)) _ | refine Below.alloc ?_ (by first | omega | (simp; omega) | (simp; done)) _ | refine Below.drew ?_ | refine below_drewN ?_ _ | refine Below.trans ?_ (Below.mono (by assumption) (by first | omega | (simp; omega) | (simp; done)))))
    obtain ⟨_, b0, b1, bf, bz⟩ := own2 (g := X) (Below.refl _ w3) (by omega) hX3
    have HX4 := Lib.hid (heap_setP hX3 (.int .i64 x)).1
    have HR4 := Lib.hid (heap_far (a := ⟨X, 0, none⟩) (u := .int .i64 x) (by show w.heap.size ≠ X; omega) hR3)
    have HP4 := Lib.hid (heap_far (a := ⟨X, 0, none⟩) (u := .int .i64 x) (by show PB ≠ X; omega) hP3)
    have hbD : Below w.heap.size w (w3.setCell ⟨X, 0, none⟩ (.int .i64 x)) := by (first | ((repeat' first | (with_reducible (first | exact Below.refl _ _ | assumption | refine Below.setCell ?_ ?_ _ | refine Below.alloc ?_ ?_ _ | refine Below.drew ?_ | refine below_drewN ?_ _ | refine Below.trans ?_ (Below.mono (by assumption) ?_))) | omega | (simp; omega) | (simp; done)); done) | (repeat' first | exact Below.refl _ _ | assumption | refine Below.setCell ?_ (by first | omega | (simp; omega) | (simp; done)) _ | refine Below.alloc ?_ (by first | omega | (simp; omega) | (simp; done)) _ | refine Below.drew ?_ | refine below_drewN ?_ _ | refine Below.trans ?_ (Below.mono (by assumption) (by first | omega | (simp; omega) | (simp; done)))))
    obtain ⟨w4, hw4⟩ : ∃ w4, w3.setCell ⟨X, 0, none⟩ (.int .i64 x) = w4 := ⟨_, rfl⟩
    rw [hw4] at HX4 HR4 HP4 hbD
    have HW4 := Lib.hid hw4
    clear hb3 hX3 hR3 hP3 hx a0 a1 af hw4 hbA hbC c0 HX1 HR1 HP1 HXT
    by_cases hcap2 : cap1 = 2
    · subst hcap2
      obtain rfl : N = 2 := by omega
      go_wp2_with fail
      rw [HW4.out]
      clear HW4 b0 b1 bf bz
      go_loopw [27] (fun i wr => ∃ (k : Nat) (z : Int) (L : List Line) (Bk : Option Addr) (cp : Nat), k ≤ 0 ∧ i = .int .i64 k ∧ Hid (RInv postingB postingL s.data.toList true k z L) ∧ L.length ≤ 9 ∧ Ow wr (w.heap.size + 1) 82 3 (.slice Bk L.length cp) (L.map Line.cells) ∧ wr.heap[X]? = some (.cells #[.int .i64 z, .slice Bk L.length cp] 44 (0, 0)) ∧ wr.heap[w.heap.size]? = some (.cells #[.int .i64 0, .slice none 0 0] 44 (0, 0)) ∧ wr.heap[PB]? = some (.cells cs 9 (0, 0)) ∧ Below w.heap.size w wr) (fun i _ => 0 - (intOf i).toNat)
      case atStart => exact ⟨0, x, [], none, 0, Nat.zero_le _, rfl, HInv, by simp, Ow.nil_, HX4.out, HR4.out, HP4.out, hbD⟩
      case round =>
        obtain ⟨k, z, L, Bk, cp, hk, rfl, HInvk, hL, how, hX, hR, hP, hbw⟩ := hrel
        have hbz := hbw.size
        have hXl := (Array.getElem?_eq_some_iff.1 hX).1
        have hRl := (Array.getElem?_eq_some_iff.1 hR).1
        have hPl2 := (Array.getElem?_eq_some_iff.1 hP).1
        have HX := Lib.hid hX
        have HR := Lib.hid hR
        have HP := Lib.hid hP
        have HW := Lib.hid how
        clear how hX hR hP HX4 HR4 HP4 hbD HInv
        by_cases hlt : k < 0
        · exact absurd hlt (Nat.not_lt_zero _)
        · obtain rfl : k = 0 := by omega
          obtain ⟨_, a0, a1, af, az⟩ := own2 (g := X) (Below.refl _ wr) (by omega) HX.out
          obtain ⟨_, r0, r1, rf, rz⟩ := own2 (g := w.heap.size) (Below.refl _ wr) (by omega) HR.out
          have HRd := Lib.hid HW.out.rd
          have HMiss := Lib.hid (show postingL z L ≠ s.data.toList → LedIs postingB postingL s.data.toList 0 [] false from fun h => by
            exact HInvk.out.miss (fun z' l' h1 h2 => by have := HCnt.out z' l' h1 h2; omega) h)
          have HSE := Lib.hid (show s.data.toList ≠ [] from parts_many (b := 32) (by
            have h1 := HPS.out
            omega))
          go_wp2_with fail
          refine (s_PostingText z L _ _ _ (by omega) HRd.out).mono ?_
          rintro e w3 ⟨rfl, hb3⟩
          have z3 := hb3.size
          obtain ⟨t, ht', ht⟩ := str_of (postingL z L)
          rw [ht']
          clear ht'
          have hX3 := heap_below hb3 hXl HX.out
          have hR3 := heap_below hb3 hRl HR.out
          have HW3 := Lib.hid (HW.out.below hb3)
          obtain ⟨_, b0, b1, bf, bz⟩ := own2 (g := X) (Below.refl _ w3) (by omega) hX3
          obtain ⟨_, s0, s1, sf, sz⟩ := own2 (g := w.heap.size) (Below.refl _ w3) (by omega) hR3
          have NR := Lib.hid (HW3.out.ne_ hR3 (by decide))
          have hbB : Below w.heap.size w w3 := by (first | ((repeat' first | (with_reducible (first | exact Below.refl _ _ | assumption | refine Below.setCell ?_ ?_ _ | refine Below.alloc ?_ ?_ _ | refine Below.drew ?_ | refine below_drewN ?_ _ | refine Below.trans ?_ (Below.mono (by assumption) ?_))) | omega | (simp; omega) | (simp; done)); done) | (repeat' first | exact Below.refl _ _ | assumption | refine Below.setCell ?_ (by first | omega | (simp; omega) | (simp; done)) _ | refine Below.alloc ?_ (by first | omega | (simp; omega) | (simp; done)) _ | refine Below.drew ?_ | refine below_drewN ?_ _ | refine Below.trans ?_ (Below.mono (by assumption) (by first | omega | (simp; omega) | (simp; done)))))
          clear hb3 hX3 hR3 a0 a1 af r0 r1 rf
          by_cases et : t = s
          · have HN := Lib.hid (post_hit (s := s.data.toList) (z := z) (L := L) HSE.out (eq_str ht.out et))
            have HWR := Lib.hid (HW3.out.apart2 (X := w.heap.size) NR.out (.int .i64 z) (.slice Bk L.length cp))
            subst et
            go_wp2_with fail
            refine bodyPost_ret (v := .tuple #[.agg #[.int .i64 z, .slice Bk L.length cp], .bool true]) (by simp [results, Tryd.results34, go_sem, *]) rfl ⟨z, L, Bk, cp, true, rfl, ?_, HN.out, ?_⟩
            · exact HWR.out.more (by omega)
            · (first | ((repeat' first | (with_reducible (first | exact Below.refl _ _ | assumption | refine Below.setCell ?_ ?_ _ | refine Below.alloc ?_ ?_ _ | refine Below.drew ?_ | refine below_drewN ?_ _ | refine Below.trans ?_ (Below.mono (by assumption) ?_))) | omega | (simp; omega) | (simp; done)); done) | (repeat' first | exact Below.refl _ _ | assumption | refine Below.setCell ?_ (by first | omega | (simp; omega) | (simp; done)) _ | refine Below.alloc ?_ (by first | omega | (simp; omega) | (simp; done)) _ | refine Below.drew ?_ | refine below_drewN ?_ _ | refine Below.trans ?_ (Below.mono (by assumption) (by first | omega | (simp; omega) | (simp; done)))))
          · have HN := Lib.hid (HMiss.out (ne_str ht.out et))
            have hneq := neq_str et
            clear et
            go_wp2_with fail
            refine bodyPost_ret (v := .tuple #[.agg #[.int .i64 0, .slice none 0 0], .bool false]) (by simp [results, Tryd.results34, go_sem, *]) rfl ⟨0, [], none, 0, false, rfl, Ow.nil_, HN.out, ?_⟩
            (first | ((repeat' first | (with_reducible (first | exact Below.refl _ _ | assumption | refine Below.setCell ?_ ?_ _ | refine Below.alloc ?_ ?_ _ | refine Below.drew ?_ | refine below_drewN ?_ _ | refine Below.trans ?_ (Below.mono (by assumption) ?_))) | omega | (simp; omega) | (simp; done)); done) | (repeat' first | exact Below.refl _ _ | assumption | refine Below.setCell ?_ (by first | omega | (simp; omega) | (simp; done)) _ | refine Below.alloc ?_ (by first | omega | (simp; omega) | (simp; done)) _ | refine Below.drew ?_ | refine below_drewN ?_ _ | refine Below.trans ?_ (Below.mono (by assumption) (by first | omega | (simp; omega) | (simp; done)))))
    · have i3 : (2 : Int) ≤ (N : Int) := by omega
      have i4 : (2 : Int) ≤ (cap1 : Int) := by omega
      go_wp2_with fail
      rw [HW4.out]
      clear HW4 b0 b1 bf bz
      go_loopw [27] (fun i wr => ∃ (k : Nat) (z : Int) (L : List Line) (Bk : Option Addr) (cp : Nat), k ≤ (N - 2) ∧ i = .int .i64 k ∧ Hid (RInv postingB postingL s.data.toList true k z L) ∧ L.length ≤ 9 ∧ Ow wr (w.heap.size + 1) 82 3 (.slice Bk L.length cp) (L.map Line.cells) ∧ wr.heap[X]? = some (.cells #[.int .i64 z, .slice Bk L.length cp] 44 (0, 0)) ∧ wr.heap[w.heap.size]? = some (.cells #[.int .i64 0, .slice none 0 0] 44 (0, 0)) ∧ wr.heap[PB]? = some (.cells cs 9 (0, 0)) ∧ Below w.heap.size w wr) (fun i _ => (N - 2) - (intOf i).toNat)
      case atStart => exact ⟨0, x, [], none, 0, Nat.zero_le _, rfl, HInv, by simp, Ow.nil_, HX4.out, HR4.out, HP4.out, hbD⟩
      case round =>
        obtain ⟨k, z, L, Bk, cp, hk, rfl, HInvk, hL, how, hX, hR, hP, hbw⟩ := hrel
        have hbz := hbw.size
        have hXl := (Array.getElem?_eq_some_iff.1 hX).1
        have hRl := (Array.getElem?_eq_some_iff.1 hR).1
        have hPl2 := (Array.getElem?_eq_some_iff.1 hP).1
        have HX := Lib.hid hX
        have HR := Lib.hid hR
        have HP := Lib.hid hP
        have HW := Lib.hid how
        clear how hX hR hP HX4 HR4 HP4 hbD HInv
        by_cases hlt : k < (N - 2)
        · have hkL : (2 + k) < LS.length := by rw [HNL.out]; omega
          have HXT := Lib.hid (rd_tail hkL)
          obtain ⟨t, ht', ht⟩ := str_of LS[(2 + k)]
          have hts : t.size ≤ 1048576 := by rw [ht.out.size]; exact HSz.out _ (List.getElem_mem hkL)
          have c0 : wr.cell? ⟨PB, (2 + k), none⟩ = some (.string t) := by rw [blk_cell HP.out, HCS.out _ _ HXT.out, ht']
          obtain ⟨T, hT⟩ : ∃ T, LS[(2 + k)] = T := ⟨_, rfl⟩
          rw [hT] at HXT ht
          have HTD := Lib.hid ht.out.data
          have HSp := Lib.hid (fun W => s_l04Parts t 58 58 W rfl hts)
          unfold PartsP at HSp
          have hqz := Lib.hid (show ∀ q ∈ parts 58 T, q.length ≤ 1048576 from fun q hq => by
            have h1 := parts_sub 58 T q hq
            have h2 : T.length ≤ 1048576 := by rw [← ht.out.size]; exact hts
            omega)
          have hq0 := Lib.hid (parts_ne 58 T)
          have hql := parts_len 58 T
          have htl : T.length ≤ 1048576 := by rw [← ht.out.size]; exact hts
          rw [HTD.out] at HSp
          obtain ⟨M, hM⟩ : ∃ M, (parts 58 T).length = M := ⟨_, rfl⟩
          rw [hM] at HSp hql
          have hM0 : 0 < M := by rw [← hM]; exact List.length_pos_iff.2 hq0.out
          have HML := Lib.hid hM
          clear hT ht' ht hkL hM hq0
          have i0 : (0 : Int) ≤ (k : Int) := by omega
          have i1 : (k : Int) < (((N - 2 : Nat) : Int) : Int) := by omega
          go_wp2_with fail
          refine (HSp.out _).mono ?_
          rintro e w2 ⟨A2, cap2, rfl, how2, hb2⟩
          have z2 := hb2.size
          obtain ⟨Q, rfl, hQB⟩ := how2.head (by rw [List.length_map, HML.out]; exact hM0)
          have hcap2 : M ≤ cap2 := by
            obtain ⟨A', cap'', e1, _, h2, _⟩ := how2.form
            rw [List.length_map, HML.out] at h2
            injection e1 with _ _ e3
            omega
          obtain ⟨qs, hQ2, hqs⟩ := how2.strs
          have hQl : Q < w2.heap.size := (Array.getElem?_eq_some_iff.1 hQ2).1
          have hX2 := heap_below hb2 hXl HX.out
          have hR2 := heap_below hb2 hRl HR.out
          have hP2 := heap_below hb2 hPl2 HP.out
          have HW2 := Lib.hid (HW.out.below hb2)
          have hbB : Below w.heap.size w w2 := by (first | ((repeat' first | (with_reducible (first | exact Below.refl _ _ | assumption | refine Below.setCell ?_ ?_ _ | refine Below.alloc ?_ ?_ _ | refine Below.drew ?_ | refine below_drewN ?_ _ | refine Below.trans ?_ (Below.mono (by assumption) ?_))) | omega | (simp; omega) | (simp; done)); done) | (repeat' first | exact Below.refl _ _ | assumption | refine Below.setCell ?_ (by first | omega | (simp; omega) | (simp; done)) _ | refine Below.alloc ?_ (by first | omega | (simp; omega) | (simp; done)) _ | refine Below.drew ?_ | refine below_drewN ?_ _ | refine Below.trans ?_ (Below.mono (by assumption) (by first | omega | (simp; omega) | (simp; done)))))
          have NQ := Lib.hid (HW2.out.ne_ hQ2 (by decide))
          have HX2 := Lib.hid hX2
          have HR2 := Lib.hid hR2
          have HP2 := Lib.hid hP2
          obtain ⟨_, g0, g1, gf, gz⟩ := own2 (g := X) (Below.refl _ w2) (by omega) hX2
          have HQS := Lib.hid hqs
          have HQ2 := Lib.hid hQ2
          have hQX : Q ≠ X := by omega
          clear how2 hb2 hX2 hR2 hP2 hqs hQ2 HSp c0 HW HX HR HP
          by_cases h2 : M = 2 ∧ L.length ≤ 8
          · obtain ⟨rfl, hfull⟩ := h2
            have hf : ((L.length : Int) ≤ 8) := by omega
            have hpl := HML.out
            obtain ⟨q0, q1, hq⟩ := list2 hpl
            obtain ⟨t0, ht0', ht0h⟩ := str_of q0
            obtain ⟨t1, ht1', ht1h⟩ := str_of q1
            have c0 : w2.cell? ⟨Q, 0, none⟩ = some (.string t0) := by rw [blk_cell HQ2.out, HQS.out 0 q0 (by rw [hq]; rfl), ht0']
            have c1 : w2.cell? ⟨Q, 1, none⟩ = some (.string t1) := by rw [blk_cell HQ2.out, HQS.out 1 q1 (by rw [hq]; rfl), ht1']
            have ht0 : t0.size ≤ 1048576 := by rw [ht0h.out.size]; exact hqz.out q0 (by rw [hq]; simp)
            have HT0 := Lib.hid ht0h.out.data
            have HT1 := Lib.hid ht1h.out.data
            have HPQ := Lib.hid hq
            clear hpl hq ht0' ht1' ht0h ht1h hqz HQS HQ2
            go_wp2_with fail
            clear g0 g1 gf gz
            have hbz2 := hbB.size
            obtain ⟨_, a0, a1, af, az⟩ := own2 (g := X) (Below.refl _ w2) (Array.getElem?_eq_some_iff.1 HX2.out).1 HX2.out
            refine wp_region_noPanic ?_
            refine wp_region_lastL (S := (fun w' => w'.cell? ⟨X, 1, none⟩ = some (.slice Bk L.length cp) ∧ w'.cell? ⟨Q, 0, none⟩ = some (.string t0) ∧ w'.cell? ⟨Q, 1, none⟩ = some (.string t1))) rfl (by kernel_rfl) (by kernel_rfl) (by kernel_rfl) (by kernel_rfl) ?_ (fun hHeld => ?_)
            · exact ⟨a1, c0, c1⟩
            simp only [List.dropLast]
            refine wpAnyH_take (i := 0) (v := ?v10) rfl (by kernel_rfl) (by kernel_rfl) (by kernel_rfl) (fun _ _ _ h => h) (Or.inl ⟨by rfl, ?hy10⟩) (by assumption) ?rest10
            case hy10 => (intro w hSw; (try dsimp only at hSw); go_simp; (try with_reducible rfl))
            ((try simp only [Act.put]); (try simp only [List.setIfInBounds_toArray]); (repeat (first | simp only [List.set_cons_succ] | simp only [List.set_cons_zero])))
            refine wpAnyH_take (i := 1) (v := ?v11) rfl (by kernel_rfl) (by kernel_rfl) (by kernel_rfl) (fun _ _ _ h => h) (Or.inl ⟨by rfl, ?hy11⟩) (by assumption) ?rest11
            case hy11 => (intro w hSw; (try dsimp only at hSw); go_simp; (try with_reducible rfl))
            ((try simp only [Act.put]); (try simp only [List.setIfInBounds_toArray]); (repeat (first | simp only [List.set_cons_succ] | simp only [List.set_cons_zero])))
            refine wpAnyH_take (i := 2) (v := ?v12) rfl (by kernel_rfl) (by kernel_rfl) (by kernel_rfl) (fun _ _ _ h => h) (Or.inl ⟨by rfl, ?hy12⟩) (by assumption) ?rest12
            case hy12 => (intro w hSw; (try dsimp only at hSw); go_simp; (try with_reducible rfl))
            ((try simp only [Act.put]); (try simp only [List.setIfInBounds_toArray]); (repeat (first | simp only [List.set_cons_succ] | simp only [List.set_cons_zero])))
            refine wpAnyH_take (i := 3) (v := ?v13) rfl (by kernel_rfl) (by kernel_rfl) (by kernel_rfl) (fun _ _ _ h => h) (Or.inl ⟨by rfl, ?hy13⟩) (by assumption) ?rest13
            case hy13 => (intro w hSw; (try dsimp only at hSw); go_simp; (try with_reducible rfl))
            ((try simp only [Act.put]); (try simp only [List.setIfInBounds_toArray]); (repeat (first | simp only [List.set_cons_succ] | simp only [List.set_cons_zero])))
            refine wpAnyH_take (i := 4) (v := ?v14) rfl (by kernel_rfl) (by kernel_rfl) (by kernel_rfl) (fun _ _ _ h => h) (Or.inl ⟨by rfl, ?hy14⟩) (by assumption) ?rest14
            case hy14 => (intro w hSw; (try dsimp only at hSw); go_simp; (try with_reducible rfl))
            ((try simp only [Act.put]); (try simp only [List.setIfInBounds_toArray]); (repeat (first | simp only [List.set_cons_succ] | simp only [List.set_cons_zero])))
            refine wpAnyH_take (i := 5) (v := ?v15) rfl (by kernel_rfl) (by kernel_rfl) (by kernel_rfl) (fun _ _ _ h => h) (Or.inl ⟨by rfl, ?hy15⟩) (by assumption) ?rest15
            case hy15 => (intro w hSw; (try dsimp only at hSw); go_simp; (try with_reducible rfl))
            ((try simp only [Act.put]); (try simp only [List.setIfInBounds_toArray]); (repeat (first | simp only [List.set_cons_succ] | simp only [List.set_cons_zero])))
            refine wpAnyH_take (i := 6) (v := ?v16) rfl (by kernel_rfl) (by kernel_rfl) (by kernel_rfl) (fun _ _ _ h => h) (Or.inl ⟨by rfl, ?hy16⟩) (by assumption) ?rest16
            case hy16 => (intro w hSw; (try dsimp only at hSw); go_simp; (try with_reducible rfl))
            ((try simp only [Act.put]); (try simp only [List.setIfInBounds_toArray]); (repeat (first | simp only [List.set_cons_succ] | simp only [List.set_cons_zero])))
            refine wpAnyH_take (i := 7) (v := ?v17) rfl (by kernel_rfl) (by kernel_rfl) (by kernel_rfl) (fun _ _ _ h => h) (Or.inl ⟨by rfl, ?hy17⟩) (by assumption) ?rest17
            case hy17 => (intro w hSw; (try dsimp only at hSw); go_simp; (try with_reducible rfl))
            ((try simp only [Act.put]); (try simp only [List.setIfInBounds_toArray]); (repeat (first | simp only [List.set_cons_succ] | simp only [List.set_cons_zero])))
            refine wpAnyH_ready (rs := [8]) (by kernel_rfl) (by simp) ?_
            refine AllReadyH.cons rfl (fun K hK => ?_) ?_
            · skip
              go_simp
              refine (s_l20Line t0 t1 _ ht0).mono ?_
              rintro e w5 ⟨⟨y0, y1, y2⟩, rfl, hpair, hb5⟩
              have z5 := hb5.size
              (try simp at z5)
              have HPair := Lib.hid hpair
              have hX5 := heap_below hb5 (by first | (simp; done) | (simp; omega)) HX2.out
              have hR5 := heap_below hb5 (by first | (simp; done) | (simp; omega)) HR2.out
              have hP5 := heap_below hb5 (by first | (simp; done) | (simp; omega)) HP2.out
              have HW5 := Lib.hid (HW2.out.below (below_undrew hb5))
              have d0 := (hb5.cell (p := ⟨Q, 0, none⟩) (by show Q < _; first | (simp; done) | (simp; omega))).trans c0
              have d1 := (hb5.cell (p := ⟨Q, 1, none⟩) (by show Q < _; first | (simp; done) | (simp; omega))).trans c1
              have hbE := hbB.trans ((below_undrew hb5).mono hbB.size)
              obtain ⟨_, b0, b1, bf, bz⟩ := own2 (g := X) (Below.refl _ w5) (Array.getElem?_eq_some_iff.1 hX5).1 hX5
              have NE := Lib.hid (HW5.out.ne_ hX5 (by decide))
              have NP := Lib.hid (HW5.out.ne_ hP5 (by decide))
              have NR := Lib.hid (HW5.out.ne_ hR5 (by decide))
              have hX5l := (Array.getElem?_eq_some_iff.1 hX5).1
              have hR5l := (Array.getElem?_eq_some_iff.1 hR5).1
              have hP5l := (Array.getElem?_eq_some_iff.1 hP5).1
              have HX5 := Lib.hid hX5
              have HR5 := Lib.hid hR5
              have HP5 := Lib.hid hP5
              clear hb5 hX5 hR5 hP5 hpair
              go_simp
              refine hK.out _ _ ?_ (fun hHeld => ?_)
              · exact ⟨b1, d0, d1⟩
              clear hK K
              ((try simp only [Act.put]); (try simp only [List.setIfInBounds_toArray]); (repeat (first | simp only [List.set_cons_succ] | simp only [List.set_cons_zero])))
              refine wpAnyH_ready (rs := [9]) (by kernel_rfl) (by simp) ?_
              refine AllReadyH.cons rfl (fun K hK => ?_) ?_
              · skip
                go_simp
                refine hK.out _ _ ?_ (fun hHeld => ?_)
                · exact ⟨cell_past hX5l b1, cell_past (by show Q < _; omega) d0, cell_past (by show Q < _; omega) d1⟩
                clear hK K
                ((try simp only [Act.put]); (try simp only [List.setIfInBounds_toArray]); (repeat (first | simp only [List.set_cons_succ] | simp only [List.set_cons_zero])))
                refine wpAnyH_ready (rs := [10]) (by kernel_rfl) (by simp) ?_
                refine AllReadyH.cons rfl (fun K hK => ?_) ?_
                · skip
                  refine step_app1 (by rfl) _ _ _ (by rfl) (w.heap.size + 1) 82 ti0 _ 3 24 Tryd.underlying33 HI.out HZ0.out HZ1.out HZ2.out rfl (by decide) (.slice Bk L.length cp) (L.map Line.cells) (by rfl) (HW5.out.alloc _) w5.heap.size 1 [.int .i64 y0, .int .i64 y1, .int .i64 y2] 82 (by rfl) (heap_at (by first | rfl | (simp; done))) rfl (by simp [Value.oneCell']) (by rw [List.length_map]; omega) (by decide) (by first | omega | (simp; omega) | (simp; done)) ?_
                  intro g2 cap2 w6 how6 hgr6 hat6 hlt6
                  rw [List.length_map] at how6
                  rw [List.length_map]
                  have hX6 := heap_grown hgr6 NE.out (heap_past hX5l HX5.out)
                  have hP6 := heap_grown hgr6 NP.out (heap_past hP5l HP5.out)
                  have hR6 := heap_grown hgr6 NR.out (heap_past hR5l HR5.out)
                  have hb6 := (hbE.alloc hbE.size _).grown hgr6 (by first | omega | (simp; omega)) (fun k e => by have := (HW5.out.block k e).1; omega)
                  have z6 := hb6.size
                  have N6 := Lib.hid (how6.ne_ hX6 (by decide))
                  obtain ⟨_, f0, f1, ff, fz⟩ := own2 (g := X) (Below.refl _ w6) (Array.getElem?_eq_some_iff.1 hX6).1 hX6
                  have e0 : w6.cell? ⟨Q, 0, none⟩ = some (.string t0) := (hgr6.cell_far ⟨Q, 0, none⟩ (by show Q < _; simp; omega) NQ.out).trans (cell_past (by show Q < _; omega) d0)
                  have e1 : w6.cell? ⟨Q, 1, none⟩ = some (.string t1) := (hgr6.cell_far ⟨Q, 1, none⟩ (by show Q < _; simp; omega) NQ.out).trans (cell_past (by show Q < _; omega) d1)
                  have HW7 := Lib.hid (how6.apart (X := X) (i := 1) N6.out (.slice (some ⟨g2, 0, none⟩) (L.length + 1) cap2))
                  have HX6 := Lib.hid (heap_setP hX6 (.slice (some ⟨g2, 0, none⟩) (L.length + 1) cap2)).2
                  have HR6 := Lib.hid (heap_far (a := ⟨X, 1, none⟩) (u := .slice (some ⟨g2, 0, none⟩) (L.length + 1) cap2) (by show w.heap.size ≠ X; omega) hR6)
                  have HP6 := Lib.hid (heap_far (a := ⟨X, 1, none⟩) (u := .slice (some ⟨g2, 0, none⟩) (L.length + 1) cap2) (by show PB ≠ X; omega) hP6)
                  clear how6 hgr6 hat6 hX6 hP6 hR6
                  refine hK.out _ _ ?_ (fun hHeld => ?_)
                  · exact ⟨f1, e0, e1⟩
                  clear hK K
                  ((try simp only [Act.put]); (try simp only [List.setIfInBounds_toArray]); (repeat (first | simp only [List.set_cons_succ] | simp only [List.set_cons_zero])))
                  refine wpAnyH_take (i := 11) (v := ?v18) rfl (by kernel_rfl) (by kernel_rfl) (by kernel_rfl) (fun _ _ _ h => h) (Or.inl ⟨by rfl, ?hy18⟩) (by assumption) ?rest18
                  case hy18 => (intro w hSw; (try dsimp only at hSw); go_simp; (try with_reducible rfl))
                  ((try simp only [Act.put]); (try simp only [List.setIfInBounds_toArray]); (repeat (first | simp only [List.set_cons_succ] | simp only [List.set_cons_zero])))
                  refine wpAnyH_done (by kernel_rfl) ?_ _
                  intro KK hKK
                  go_simp
                  refine hKK _ _ (NoPanic.normal ?_)
                  have HInv2 := Lib.hid (HInvk.out.next (HTwo.out _ _ _ _ _ (by rw [Nat.add_comm]; exact HXT.out) HPQ.out (by have := HPair.out; rwa [HT0.out, HT1.out] at this)))
                  go_wp2_with fail
                  go_roundw
                  case rel =>
                    refine ⟨k + 1, z, L ++ [⟨y0, y1, y2⟩], some ⟨g2, 0, none⟩, cap2, by omega, by go_num, HInv2, by simp; omega, ?_, ?_, HR6.out, HP6.out, by (first | ((repeat' first | (with_reducible (first | exact Below.refl _ _ | assumption | refine Below.setCell ?_ ?_ _ | refine Below.alloc ?_ ?_ _ | refine Below.drew ?_ | refine below_drewN ?_ _ | refine Below.trans ?_ (Below.mono (by assumption) ?_))) | omega | (simp; omega) | (simp; done)); done) | (repeat' first | exact Below.refl _ _ | assumption | refine Below.setCell ?_ (by first | omega | (simp; omega) | (simp; done)) _ | refine Below.alloc ?_ (by first | omega | (simp; omega) | (simp; done)) _ | refine Below.drew ?_ | refine below_drewN ?_ _ | refine Below.trans ?_ (Below.mono (by assumption) (by first | omega | (simp; omega) | (simp; done)))))⟩
                    · rw [List.map_append, List.length_append]
                      exact HW7.out
                    · rw [List.length_append]
                      exact HX6.out
                  case measure => simp [intOf]; omega
                exact AllReadyH.nil
              exact AllReadyH.nil
            exact AllReadyH.nil
          · have HInv2 := Lib.hid (HInvk.out.stay (HNot.out _ _ _ _ (by rw [Nat.add_comm]; exact HXT.out) HInvk.out (by rw [HML.out]; omega)))
            by_cases hM2 : M = 2
            · have hf : decide ((L.length : Int) ≤ 8) = false := decide_eq_false (by omega)
              subst hM2
              clear h2
              go_wp2_with fail
              go_roundw
              case rel => exact ⟨k + 1, z, L, Bk, cp, by omega, by go_num, HInv2, hL, HW2.out, HX2.out, HR2.out, HP2.out, hbB⟩
              case measure => simp [intOf]; omega
            · have hMf : ((M : Int) == 2) = false := by rw [beq_eq_false_iff_ne]; omega
              clear h2 hM2
              go_wp2_with fail
              go_roundw
              case rel => exact ⟨k + 1, z, L, Bk, cp, by omega, by go_num, HInv2, hL, HW2.out, HX2.out, HR2.out, HP2.out, hbB⟩
              case measure => simp [intOf]; omega
        · obtain rfl : k = N - 2 := by omega
          obtain ⟨_, a0, a1, af, az⟩ := own2 (g := X) (Below.refl _ wr) (by omega) HX.out
          obtain ⟨_, r0, r1, rf, rz⟩ := own2 (g := w.heap.size) (Below.refl _ wr) (by omega) HR.out
          have HRd := Lib.hid HW.out.rd
          have HMiss := Lib.hid (show postingL z L ≠ s.data.toList → LedIs postingB postingL s.data.toList 0 [] false from fun h => by
            exact HInvk.out.miss (fun z' l' h1 h2 => by have := HCnt.out z' l' h1 h2; omega) h)
          have HSE := Lib.hid (show s.data.toList ≠ [] from parts_many (b := 32) (by
            have h1 := HPS.out
            omega))
          go_wp2_with fail
          refine (s_PostingText z L _ _ _ (by omega) HRd.out).mono ?_
          rintro e w3 ⟨rfl, hb3⟩
          have z3 := hb3.size
          obtain ⟨t, ht', ht⟩ := str_of (postingL z L)
          rw [ht']
          clear ht'
          have hX3 := heap_below hb3 hXl HX.out
          have hR3 := heap_below hb3 hRl HR.out
          have HW3 := Lib.hid (HW.out.below hb3)
          obtain ⟨_, b0, b1, bf, bz⟩ := own2 (g := X) (Below.refl _ w3) (by omega) hX3
          obtain ⟨_, s0, s1, sf, sz⟩ := own2 (g := w.heap.size) (Below.refl _ w3) (by omega) hR3
          have NR := Lib.hid (HW3.out.ne_ hR3 (by decide))
          have hbB : Below w.heap.size w w3 := by (first | ((repeat' first | (with_reducible (first | exact Below.refl _ _ | assumption | refine Below.setCell ?_ ?_ _ | refine Below.alloc ?_ ?_ _ | refine Below.drew ?_ | refine below_drewN ?_ _ | refine Below.trans ?_ (Below.mono (by assumption) ?_))) | omega | (simp; omega) | (simp; done)); done) | (repeat' first | exact Below.refl _ _ | assumption | refine Below.setCell ?_ (by first | omega | (simp; omega) | (simp; done)) _ | refine Below.alloc ?_ (by first | omega | (simp; omega) | (simp; done)) _ | refine Below.drew ?_ | refine below_drewN ?_ _ | refine Below.trans ?_ (Below.mono (by assumption) (by first | omega | (simp; omega) | (simp; done)))))
          clear hb3 hX3 hR3 a0 a1 af r0 r1 rf
          by_cases et : t = s
          · have HN := Lib.hid (post_hit (s := s.data.toList) (z := z) (L := L) HSE.out (eq_str ht.out et))
            have HWR := Lib.hid (HW3.out.apart2 (X := w.heap.size) NR.out (.int .i64 z) (.slice Bk L.length cp))
            subst et
            go_wp2_with fail
            refine bodyPost_ret (v := .tuple #[.agg #[.int .i64 z, .slice Bk L.length cp], .bool true]) (by simp [results, Tryd.results34, go_sem, *]) rfl ⟨z, L, Bk, cp, true, rfl, ?_, HN.out, ?_⟩
            · exact HWR.out.more (by omega)
            · (first | ((repeat' first | (with_reducible (first | exact Below.refl _ _ | assumption | refine Below.setCell ?_ ?_ _ | refine Below.alloc ?_ ?_ _ | refine Below.drew ?_ | refine below_drewN ?_ _ | refine Below.trans ?_ (Below.mono (by assumption) ?_))) | omega | (simp; omega) | (simp; done)); done) | (repeat' first | exact Below.refl _ _ | assumption | refine Below.setCell ?_ (by first | omega | (simp; omega) | (simp; done)) _ | refine Below.alloc ?_ (by first | omega | (simp; omega) | (simp; done)) _ | refine Below.drew ?_ | refine below_drewN ?_ _ | refine Below.trans ?_ (Below.mono (by assumption) (by first | omega | (simp; omega) | (simp; done)))))
          · have HN := Lib.hid (HMiss.out (ne_str ht.out et))
            have hneq := neq_str et
            clear et
            go_wp2_with fail
            refine bodyPost_ret (v := .tuple #[.agg #[.int .i64 0, .slice none 0 0], .bool false]) (by simp [results, Tryd.results34, go_sem, *]) rfl ⟨0, [], none, 0, false, rfl, Ow.nil_, HN.out, ?_⟩
            (first | ((repeat' first | (with_reducible (first | exact Below.refl _ _ | assumption | refine Below.setCell ?_ ?_ _ | refine Below.alloc ?_ ?_ _ | refine Below.drew ?_ | refine below_drewN ?_ _ | refine Below.trans ?_ (Below.mono (by assumption) ?_))) | omega | (simp; omega) | (simp; done)); done) | (repeat' first | exact Below.refl _ _ | assumption | refine Below.setCell ?_ (by first | omega | (simp; omega) | (simp; done)) _ | refine Below.alloc ?_ (by first | omega | (simp; omega) | (simp; done)) _ | refine Below.drew ?_ | refine below_drewN ?_ _ | refine Below.trans ?_ (Below.mono (by assumption) (by first | omega | (simp; omega) | (simp; done)))))
end Go.Proofs.YtgpledgjpjifcaaDoor
