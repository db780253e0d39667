/- TextLedger and TextPosting: the walks of the program. -/
import Derived.Test.YtgpledgjpjifcaaDoorRows
import Derived.Test.YtgpledgjpjifcaaDoorReadP
import Derived.Test.YtgpledgjpjifcaaDoorLedT
namespace Go.Proofs.YtgpledgjpjifcaaDoor
open Go.RowKit Go.Deep

theorem info_line : (Tryd.prog.info? 82).map (fun i => (i.zero, i.size, i.bytes)) = some (some (.agg #[.int .i64 0, .int .i64 0, .int .i64 0]), 3, 24) := by kernel_rfl
/-- a ledger or a posting that is read -/
def RdL (B : Int → List Line → Bool) (F : Int → List Line → List UInt8) (s : ByteArray) (w : World) (e : Ending) (w' : World) : Prop :=
  ∃ (z : Int) (L : List Line) (A : Option Addr) (cap : Nat) (ok : Bool), e = .returned (.tuple #[.agg #[.int .i64 z, .slice A L.length cap], .bool ok]) ∧ Ow w' w.heap.size 82 3 (.slice A L.length cap) (L.map Line.cells) ∧ LedIs B F s.data.toList z L ok ∧ Below w.heap.size w w'
theorem heap_setP {w : World} {g : Nat} {t : TypeId} {a b : Value} (h : w.heap[g]? = some (.cells #[a, b] t (0, 0))) (u : Value) :
    (w.setCell ⟨g, 0, none⟩ u).heap[g]? = some (.cells #[u, b] t (0, 0)) ∧ (w.setCell ⟨g, 1, none⟩ u).heap[g]? = some (.cells #[a, u] t (0, 0)) :=
  ⟨heap_set h, heap_set h⟩
theorem Ow.apart {w : World} {B size X i : Nat} {e : TypeId} {v : Value} {rows : List (List Value)} (h : Ow w B e size v rows) (hne : some X ≠ v.ownBlock) (u : Value) : Ow (w.setCell ⟨X, i, none⟩ u) B e size v rows :=
  h.grown (grown_set (World.grownBy.refl w (some X)) i u) (Or.inr hne.symm)
theorem Ow.apart2 {w : World} {B size X : Nat} {e : TypeId} {v : Value} {rows : List (List Value)} (h : Ow w B e size v rows) (hne : some X ≠ v.ownBlock) (a b : Value) : Ow ((w.setCell ⟨X, 0, none⟩ a).setCell ⟨X, 1, none⟩ b) B e size v rows :=
  (h.apart hne a).apart hne b
theorem rd_tail {α : Type} {l : List α} {k : Nat} (h : k < l.length) : l[k]? = some l[k] := List.getElem?_eq_getElem h
set_option maxRecDepth 100000 in
set_option maxHeartbeats 4000000 in
theorem i_TextLedger (s : ByteArray) (w : World) (hld : Le w) (hs : s.size ≤ 1048576) : Calls Tryd.prog 39 #[.string s] w (RdL ledgerB ledgerL s w) := by
  have HLD := Lib.hid hld
  have hz : s.data.toList.length = s.size := Array.length_toList
  have hln := linesL_len s.data.toList
  have HSub := Lib.hid (linesL_sub s.data.toList)
  have HS0 := Lib.hid (show ∀ (m : Nat) (x : List UInt8) (y : Line) (ok : Bool), (linesL s.data.toList)[m + 1]? = some x → LineIs 32 x y ok → ∀ z' l', ledgerB z' l' = true → ledgerL z' l' = s.data.toList → ∃ hm : m < l'.length, y = l'[m] ∧ ok = true from fun _ _ _ _ h1 h2 => led_read h1 h2)
  have HCnt := Lib.hid (led_count (s := s.data.toList))
  have HHead := Lib.hid (fun x (h : (linesL s.data.toList)[0]? = some x) => led_line0 h)
  obtain ⟨ti0, hi, hz0, hz1, hz2⟩ := info_parts info_line
  have HI := Lib.hid hi
  have HZ0 := Lib.hid hz0
  have HZ1 := Lib.hid hz1
  have HZ2 := Lib.hid hz2
  have HC := Lib.hid (fun W (h : Ld W) => i_linesOf s W h hs)
  unfold LinesP at HC
  obtain ⟨LS, hLS⟩ : ∃ LS, linesL s.data.toList = LS := ⟨_, rfl⟩
  rw [hLS] at HSub HS0 HCnt HHead HC hln
  obtain ⟨N, hN⟩ : ∃ N, LS.length = N := ⟨_, rfl⟩
  rw [hN] at HCnt hln HC
  have hN1 : N ≤ 1048577 := by omega
  have HNL := Lib.hid hN
  have HSz := Lib.hid (show ∀ x ∈ LS, x.length ≤ 1048576 from fun x hx => by have := HSub.out x hx; omega)
  clear hi hz0 hz1 hz2 hld hz hln hLS hN HSub
  go_enter Tryd.func39, Tryd.ntmps39
  go_wp2_with fail
  refine (HC.out _ ((HLD.out.below (by (first | ((repeat' first | (with_reducible (first | exact Below.refl _ _ | assumption | refine Below.setCell ?_ ?_ _ | refine Below.alloc ?_ ?_ _ | refine Below.drew ?_ | refine below_drewN ?_ _ | refine Below.trans ?_ (Below.mono (by assumption) ?_))) | omega | (simp; omega) | (simp; done)); done) | (repeat' first | exact Below.refl _ _ | assumption | refine Below.setCell ?_ (by first | omega | (simp; omega) | (simp; done)) _ | refine Below.alloc ?_ (by first | omega | (simp; omega) | (simp; done)) _ | refine Below.drew ?_ | refine below_drewN ?_ _ | refine Below.trans ?_ (Below.mono (by assumption) (by first | omega | (simp; omega) | (simp; done))))))).toLd)).mono ?_
  rintro e w1 ⟨cap1, cs, rfl, hP1, hcs, hcap1, hb1⟩
  have z1 := hb1.size
  (try simp at z1)
  obtain ⟨PB, hPB⟩ : ∃ PB, PB = w.heap.size + 2 := ⟨_, rfl⟩
  have hR1 := heap_below (n := w.heap.size) hb1 (by simp; omega) (heap_past (by simp) (heap_at rfl))
  have hX1 := heap_below (n := w.heap.size + 1) hb1 (by simp) (heap_at (by simp))
  obtain ⟨X, hX⟩ : ∃ X, X = w.heap.size + 1 := ⟨_, rfl⟩
  have hXR : w.heap.size < X := by omega
  have hXP : X ≠ PB := by omega
  have hRP : w.heap.size ≠ PB := by omega
  rw [← hX] at hX1 ⊢
  have e2 : ((w.alloc (.cells #[.int .i64 0, .slice none 0 0] 35)).alloc (.cells #[.int .i64 0, .slice none 0 0] 35)).heap.size = PB := by rw [hPB]; simp
  rw [e2] at hP1 ⊢
  have hbA : Below w.heap.size w w1 := by (first | ((repeat' first | (with_reducible (first | exact Below.refl _ _ | assumption | refine Below.setCell ?_ ?_ _ | refine Below.alloc ?_ ?_ _ | refine Below.drew ?_ | refine below_drewN ?_ _ | refine Below.trans ?_ (Below.mono (by assumption) ?_))) | omega | (simp; omega) | (simp; done)); done) | (repeat' first | exact Below.refl _ _ | assumption | refine Below.setCell ?_ (by first | omega | (simp; omega) | (simp; done)) _ | refine Below.alloc ?_ (by first | omega | (simp; omega) | (simp; done)) _ | refine Below.drew ?_ | refine below_drewN ?_ _ | refine Below.trans ?_ (Below.mono (by assumption) (by first | omega | (simp; omega) | (simp; done)))))
  have hPl : PB < w1.heap.size := (Array.getElem?_eq_some_iff.1 hP1).1
  have hcap0 : N ≤ cap1 := hcap1
  have HR1 := Lib.hid hR1
  have HX1 := Lib.hid hX1
  have HP1 := Lib.hid hP1
  have HCS := Lib.hid hcs
  clear hb1 hR1 hX1 hP1 hcs hPB hX e2 HC hcap1
  go_wp2_with fail
  go_loopw [13] (fun i wr => ∃ (k : Nat) (z : Int) (L : List Line) (Bk : Option Addr) (cp : Nat), k ≤ N ∧ i = .int .i64 k ∧ Hid (RInv ledgerB ledgerL s.data.toList (decide (1 ≤ k)) (k - 1) z L) ∧ L.length ≤ 320 ∧ Ow wr (w.heap.size + 1) 82 3 (.slice Bk L.length cp) (L.map Line.cells) ∧ wr.heap[X]? = some (.cells #[.int .i64 z, .slice Bk L.length cp] 35 (0, 0)) ∧ wr.heap[w.heap.size]? = some (.cells #[.int .i64 0, .slice none 0 0] 35 (0, 0)) ∧ wr.heap[PB]? = some (.cells cs 9 (0, 0)) ∧ Below w.heap.size w wr) (fun i _ => N - (intOf i).toNat)
  case atStart => exact ⟨0, 0, [], none, 0, Nat.zero_le _, rfl, Lib.hid RInv.start, by simp, Ow.nil_, HX1.out, HR1.out, HP1.out, hbA⟩
  case round =>
    obtain ⟨k, z, L, Bk, cp, hk, rfl, HInv, hL, how, hX, hR, hP, hbw⟩ := hrel
    have hbz := hbw.size
    have hXl := (Array.getElem?_eq_some_iff.1 hX).1
    have hRl := (Array.getElem?_eq_some_iff.1 hR).1
    have hPl2 := (Array.getElem?_eq_some_iff.1 hP).1
    have HX := Lib.hid hX
    have HR := Lib.hid hR
    have HP := Lib.hid hP
    have HW := Lib.hid how
    clear how hX hR hP HX1 HR1 HP1 hbA
    by_cases hlt : k < N
    · have hkL : k < LS.length := by rw [HNL.out]; exact hlt
      have HXT := Lib.hid (rd_tail hkL)
      obtain ⟨t, ht', ht⟩ := str_of LS[k]
      have hts : t.size ≤ 1048576 := by rw [ht.out.size]; exact HSz.out _ (List.getElem_mem hkL)
      have c0 : wr.cell? ⟨PB, k, none⟩ = some (.string t) := by rw [blk_cell HP.out, HCS.out k _ HXT.out, ht']
      obtain ⟨T, hT⟩ : ∃ T, LS[k] = T := ⟨_, rfl⟩
      rw [hT] at HXT ht
      have HTD := Lib.hid ht.out.data
      clear hT ht' ht hkL
      have i0 : (0 : Int) ≤ (k : Int) := by omega
      have i1 : (k : Int) < (N : Int) := by omega
      by_cases hk0 : k = 0
      · subst hk0
        obtain ⟨u, hu', hu⟩ := str_of (Lib.trimPrefix t.data.toList [108, 101, 100, 103, 101, 114, 32])
        have hus : u.size ≤ 281474976710656 := by
          have := trim_len t.data.toList [108, 101, 100, 103, 101, 114, 32]
          have hz : t.data.toList.length = t.size := Array.length_toList
          rw [hu.out.size]
          omega
        have HTrim := Lib.hid (fun W => Tryd.strings_TrimPrefix t ⟨#[108, 101, 100, 103, 101, 114, 32]⟩ W)
        rw [show (⟨#[108, 101, 100, 103, 101, 114, 32]⟩ : ByteArray).data.toList = [108, 101, 100, 103, 101, 114, 32] from rfl, hu'] at HTrim
        have HInv2 := Lib.hid (HInv.out.head (z := numOf u.data.toList) (fun z' l' h1 h2 => by
          rw [hu.out.data, HTD.out, HHead.out _ HXT.out z' l' h1 h2]
          exact led_num h1))
        clear hu' hu
        go_wp2_with fail
        refine (HTrim.out _).mono ?_
        rintro e w2 ⟨rfl, rfl⟩
        go_wp2_with fail
        refine (i_TextNum u _ (HLD.out.below (by (first | ((repeat' first | (with_reducible (first | exact Below.refl _ _ | assumption | refine Below.setCell ?_ ?_ _ | refine Below.alloc ?_ ?_ _ | refine Below.drew ?_ | refine below_drewN ?_ _ | refine Below.trans ?_ (Below.mono (by assumption) ?_))) | omega | (simp; omega) | (simp; done)); done) | (repeat' first | exact Below.refl _ _ | assumption | refine Below.setCell ?_ (by first | omega | (simp; omega) | (simp; done)) _ | refine Below.alloc ?_ (by first | omega | (simp; omega) | (simp; done)) _ | refine Below.drew ?_ | refine below_drewN ?_ _ | refine Below.trans ?_ (Below.mono (by assumption) (by first | omega | (simp; omega) | (simp; done))))))) hus).mono ?_
        rintro e w3 ⟨rfl, hb3⟩
        have z3 := hb3.size
        obtain ⟨x, hx⟩ : ∃ x, numOf u.data.toList = x := ⟨_, rfl⟩
        rw [hx] at HInv2 ⊢
        have hX3 := heap_below hb3 hXl HX.out
        have hR3 := heap_below hb3 hRl HR.out
        have hP3 := heap_below hb3 hPl2 HP.out
        have HW3 := Lib.hid (HW.out.below hb3)
        have NE := Lib.hid (HW3.out.ne_ hX3 (by decide))
        obtain ⟨_, a0, a1, af, az⟩ := own2 (g := X) (Below.refl _ w3) (by omega) hX3
        have hX4 := (heap_setP hX3 (.int .i64 x)).1
        have hR4 := heap_far (a := ⟨X, 0, none⟩) (u := .int .i64 x) (by show w.heap.size ≠ X; omega) hR3
        have hP4 := heap_far (a := ⟨X, 0, none⟩) (u := .int .i64 x) (by show PB ≠ X; omega) hP3
        have HX4 := Lib.hid hX4
        have HR4 := Lib.hid hR4
        have HP4 := Lib.hid hP4
        have HW4 := Lib.hid (show Ow (w3.setCell ⟨X, 0, none⟩ (.int .i64 x)) (w.heap.size + 1) 82 3 (.slice Bk L.length cp) (L.map Line.cells) from HW3.out.apart (X := X) (i := 0) NE.out _)
        have hbB : Below w.heap.size w w3 := by (first | ((repeat' first | (with_reducible (first | exact Below.refl _ _ | assumption | refine Below.setCell ?_ ?_ _ | refine Below.alloc ?_ ?_ _ | refine Below.drew ?_ | refine below_drewN ?_ _ | refine Below.trans ?_ (Below.mono (by assumption) ?_))) | omega | (simp; omega) | (simp; done)); done) | (repeat' first | exact Below.refl _ _ | assumption | refine Below.setCell ?_ (by first | omega | (simp; omega) | (simp; done)) _ | refine Below.alloc ?_ (by first | omega | (simp; omega) | (simp; done)) _ | refine Below.drew ?_ | refine below_drewN ?_ _ | refine Below.trans ?_ (Below.mono (by assumption) (by first | omega | (simp; omega) | (simp; done)))))
        clear hb3 hX3 hR3 hP3 hX4 hR4 hP4 hx
        go_wp2_with fail
        go_roundw
        case rel => exact ⟨0 + 1, x, L, Bk, cp, by omega, by go_num, HInv2, hL, HW4.out, HX4.out, HR4.out, HP4.out, by (first | ((repeat' first | (with_reducible (first | exact Below.refl _ _ | assumption | refine Below.setCell ?_ ?_ _ | refine Below.alloc ?_ ?_ _ | refine Below.drew ?_ | refine below_drewN ?_ _ | refine Below.trans ?_ (Below.mono (by assumption) ?_))) | omega | (simp; omega) | (simp; done)); done) | (repeat' first | exact Below.refl _ _ | assumption | refine Below.setCell ?_ (by first | omega | (simp; omega) | (simp; done)) _ | refine Below.alloc ?_ (by first | omega | (simp; omega) | (simp; done)) _ | refine Below.drew ?_ | refine below_drewN ?_ _ | refine Below.trans ?_ (Below.mono (by assumption) (by first | omega | (simp; omega) | (simp; done)))))⟩
        case measure => simp [intOf]; omega
      · have hk0f : ((k : Int) == 0) = false := by rw [beq_eq_false_iff_ne]; omega
        obtain ⟨m, rfl⟩ : ∃ m, k = m + 1 := ⟨k - 1, by omega⟩
        have HInv1 := Lib.hid (show RInv ledgerB ledgerL s.data.toList true m z L by
          have := HInv.out
          rwa [Nat.add_sub_cancel, decide_eq_true (by omega)] at this)
        clear HInv hk0
        go_wp2_with fail
        refine (i_textLine t 32 _ (HLD.out.below (by (first | ((repeat' first | (with_reducible (first | exact Below.refl _ _ | assumption | refine Below.setCell ?_ ?_ _ | refine Below.alloc ?_ ?_ _ | refine Below.drew ?_ | refine below_drewN ?_ _ | refine Below.trans ?_ (Below.mono (by assumption) ?_))) | omega | (simp; omega) | (simp; done)); done) | (repeat' first | exact Below.refl _ _ | assumption | refine Below.setCell ?_ (by first | omega | (simp; omega) | (simp; done)) _ | refine Below.alloc ?_ (by first | omega | (simp; omega) | (simp; done)) _ | refine Below.drew ?_ | refine below_drewN ?_ _ | refine Below.trans ?_ (Below.mono (by assumption) (by first | omega | (simp; omega) | (simp; done))))))) (by simp) hts).mono ?_
        rintro e w3 ⟨y, ok, rfl, hline, hb3⟩
        have z3 := hb3.size
        rw [HTD.out] at hline
        have HRead := Lib.hid (HS0.out _ _ _ _ HXT.out hline)
        have hX3 := heap_below hb3 hXl HX.out
        have hR3 := heap_below hb3 hRl HR.out
        have hP3 := heap_below hb3 hPl2 HP.out
        have HW3 := Lib.hid (HW.out.below hb3)
        obtain ⟨_, a0, a1, af, az⟩ := own2 (g := X) (Below.refl _ w3) (by omega) hX3
        obtain ⟨_, r0, r1, rf, rz⟩ := own2 (g := w.heap.size) (Below.refl _ w3) (by omega) hR3
        have HX3 := Lib.hid hX3
        have HR3 := Lib.hid hR3
        have HP3 := Lib.hid hP3
        have hbB : Below w.heap.size w w3 := by (first | ((repeat' first | (with_reducible (first | exact Below.refl _ _ | assumption | refine Below.setCell ?_ ?_ _ | refine Below.alloc ?_ ?_ _ | refine Below.drew ?_ | refine below_drewN ?_ _ | refine Below.trans ?_ (Below.mono (by assumption) ?_))) | omega | (simp; omega) | (simp; done)); done) | (repeat' first | exact Below.refl _ _ | assumption | refine Below.setCell ?_ (by first | omega | (simp; omega) | (simp; done)) _ | refine Below.alloc ?_ (by first | omega | (simp; omega) | (simp; done)) _ | refine Below.drew ?_ | refine below_drewN ?_ _ | refine Below.trans ?_ (Below.mono (by assumption) (by first | omega | (simp; omega) | (simp; done)))))
        clear hb3 hX3 hR3 hP3 hline HW
        cases ok
        · have HN := Lib.hid (led_none (B := ledgerB) (F := ledgerL) (s := s.data.toList) (fun z' l' h1 h2 => by
            obtain ⟨_, _, h3⟩ := HRead.out z' l' h1 h2
            cases h3))
          go_wp2_with fail
          refine bodyPost_ret (v := .tuple #[.agg #[.int .i64 0, .slice none 0 0], .bool false]) (by simp [results, Tryd.results39, go_sem, *]) rfl ⟨0, [], none, 0, false, rfl, Ow.nil_, HN.out, ?_⟩
          (first | ((repeat' first | (with_reducible (first | exact Below.refl _ _ | assumption | refine Below.setCell ?_ ?_ _ | refine Below.alloc ?_ ?_ _ | refine Below.drew ?_ | refine below_drewN ?_ _ | refine Below.trans ?_ (Below.mono (by assumption) ?_))) | omega | (simp; omega) | (simp; done)); done) | (repeat' first | exact Below.refl _ _ | assumption | refine Below.setCell ?_ (by first | omega | (simp; omega) | (simp; done)) _ | refine Below.alloc ?_ (by first | omega | (simp; omega) | (simp; done)) _ | refine Below.drew ?_ | refine below_drewN ?_ _ | refine Below.trans ?_ (Below.mono (by assumption) (by first | omega | (simp; omega) | (simp; done)))))
        · by_cases hfull : 320 ≤ L.length
          · have HN := Lib.hid (led_none (B := ledgerB) (F := ledgerL) (s := s.data.toList) (fun z' l' h1 h2 => by
              obtain ⟨h3, _, _⟩ := HRead.out z' l' h1 h2
              have h4 := (HInv1.out z' l' h1 h2).2
              have h5 := led_short h1
              have h6 := congrArg List.length h4
              rw [List.length_take] at h6
              omega))
            have hf : (320 : Int) ≤ (L.length : Int) := by omega
            go_wp2_with fail
            refine bodyPost_ret (v := .tuple #[.agg #[.int .i64 0, .slice none 0 0], .bool false]) (by simp [results, Tryd.results39, go_sem, *]) rfl ⟨0, [], none, 0, false, rfl, Ow.nil_, HN.out, ?_⟩
            (first | ((repeat' first | (with_reducible (first | exact Below.refl _ _ | assumption | refine Below.setCell ?_ ?_ _ | refine Below.alloc ?_ ?_ _ | refine Below.drew ?_ | refine below_drewN ?_ _ | refine Below.trans ?_ (Below.mono (by assumption) ?_))) | omega | (simp; omega) | (simp; done)); done) | (repeat' first | exact Below.refl _ _ | assumption | refine Below.setCell ?_ (by first | omega | (simp; omega) | (simp; done)) _ | refine Below.alloc ?_ (by first | omega | (simp; omega) | (simp; done)) _ | refine Below.drew ?_ | refine below_drewN ?_ _ | refine Below.trans ?_ (Below.mono (by assumption) (by first | omega | (simp; omega) | (simp; done)))))
          · have hf : decide ((320 : Int) ≤ (L.length : Int)) = false := decide_eq_false (by omega)
            have HInv2 := Lib.hid (HInv1.out.next (fun z' l' h1 h2 => by
              obtain ⟨h3, h4, _⟩ := HRead.out z' l' h1 h2
              exact ⟨h3, h4⟩))
            have hL2 : L.length ≤ 400 := by omega
            have hL3 : L.length + 1 ≤ 320 := by omega
            clear hfull
            obtain ⟨y0, y1, y2⟩ := y
            have NE := Lib.hid (HW3.out.ne_ HX3.out (by decide))
            have NP := Lib.hid (HW3.out.ne_ HP3.out (by decide))
            have NR := Lib.hid (HW3.out.ne_ HR3.out (by decide))
            have OB := Lib.hid HW3.out.block
            have KX := Lib.hid (fun o1 o2 (w6 : World) (hgr : ((w3.alloc o1).alloc o2).grownBy w6 (Value.slice Bk L.length cp).ownBlock) => heap_grown hgr NE.out (heap_past (by simp; omega) (heap_past (by omega) HX3.out)))
            have KP := Lib.hid (fun o1 o2 (w6 : World) (hgr : ((w3.alloc o1).alloc o2).grownBy w6 (Value.slice Bk L.length cp).ownBlock) => heap_grown hgr NP.out (heap_past (by simp; omega) (heap_past (by omega) HP3.out)))
            have KR := Lib.hid (fun o1 o2 (w6 : World) (hgr : ((w3.alloc o1).alloc o2).grownBy w6 (Value.slice Bk L.length cp).ownBlock) => heap_grown hgr NR.out (heap_past (by simp; omega) (heap_past (by omega) HR3.out)))
            have KB := Lib.hid (fun o1 o2 (w6 : World) (hgr : ((w3.alloc o1).alloc o2).grownBy w6 (Value.slice Bk L.length cp).ownBlock) => ((hbB.alloc (by omega) o1).alloc (by simp; omega) o2).grown hgr (by simp; omega) (fun k e => by have := (OB.out k e).1; omega))
            go_wp2_with (at_builtin; refine wpList_app1 rfl _ _ _ rfl (w.heap.size + 1) 82 ti0 _ 3 24 Tryd.underlying33 HI.out HZ0.out HZ1.out HZ2.out rfl (by decide) (.slice Bk L.length cp) (L.map Line.cells) rfl ((HW3.out.alloc _).alloc _) (w3.heap.size + 1) 1 [.int .i64 y0, .int .i64 y1, .int .i64 y2] 82 rfl (heap_at (by first | rfl | (simp; done))) rfl (by simp [Value.oneCell']) (by rw [List.length_map]; omega) (by decide) (by first | omega | (simp; omega) | (simp; done)) ?_; intro g cap' w6 how6 hgr6 hat6 hlt6; rw [List.length_map] at how6; rw [List.length_map]; have hX6 := KX.out _ _ _ hgr6; have hP6 := KP.out _ _ _ hgr6; have hR6 := KR.out _ _ _ hgr6; have hb6 := KB.out _ _ _ hgr6; have O6 := Lib.hid how6; have N6 := Lib.hid (how6.ne_ hX6 (by decide)); have z6 := hb6.size; obtain ⟨_, b0, b1, bf, bz⟩ := own2 (g := X) (Below.refl _ w6) (Array.getElem?_eq_some_iff.1 hX6).1 hX6; have HX6 := Lib.hid (heap_setP hX6 (.slice (some ⟨g, 0, none⟩) (L.length + 1) cap')).2; have HR6 := Lib.hid (heap_far (a := ⟨X, 1, none⟩) (u := .slice (some ⟨g, 0, none⟩) (L.length + 1) cap') (by show w.heap.size ≠ X; omega) hR6); have HP6 := Lib.hid (heap_far (a := ⟨X, 1, none⟩) (u := .slice (some ⟨g, 0, none⟩) (L.length + 1) cap') (by show PB ≠ X; omega) hP6); have HW7 := Lib.hid (how6.apart (X := X) (i := 1) N6.out (.slice (some ⟨g, 0, none⟩) (L.length + 1) cap')); clear how6 hgr6 hat6 hX6 hP6 hR6 O6)
            go_roundw
            case rel =>
              refine ⟨m + 1 + 1, z, L ++ [⟨y0, y1, y2⟩], some ⟨g, 0, none⟩, cap', by omega, by go_num, Lib.hid (by
                rw [decide_eq_true (by omega), show m + 1 + 1 - 1 = m + 1 by omega]
                exact HInv2.out), by simp; omega, ?_, ?_, HR6.out, HP6.out, by (first | ((repeat' first | (with_reducible (first | exact Below.refl _ _ | assumption | refine Below.setCell ?_ ?_ _ | refine Below.alloc ?_ ?_ _ | refine Below.drew ?_ | refine below_drewN ?_ _ | refine Below.trans ?_ (Below.mono (by assumption) ?_))) | omega | (simp; omega) | (simp; done)); done) | (repeat' first | exact Below.refl _ _ | assumption | refine Below.setCell ?_ (by first | omega | (simp; omega) | (simp; done)) _ | refine Below.alloc ?_ (by first | omega | (simp; omega) | (simp; done)) _ | refine Below.drew ?_ | refine below_drewN ?_ _ | refine Below.trans ?_ (Below.mono (by assumption) (by first | omega | (simp; omega) | (simp; done)))))⟩
              · rw [List.map_append, List.length_append]
                exact HW7.out
              · rw [List.length_append]
                exact HX6.out
            case measure => simp [intOf]; omega
    · obtain rfl : k = N := by omega
      obtain ⟨_, a0, a1, af, az⟩ := own2 (g := X) (Below.refl _ wr) (by omega) HX.out
      have HRd := Lib.hid HW.out.rd
      go_wp2_with fail
      refine (i_LedgerText z L _ _ _ (HLD.out.below hbw).toLd (by omega) HRd.out).mono ?_
      rintro e w3 ⟨rfl, hb3⟩
      have z3 := hb3.size
      obtain ⟨t, ht', ht⟩ := str_of (ledgerL z L)
      rw [ht']
      clear ht'
      have hX3 := heap_below hb3 hXl HX.out
      have hR3 := heap_below hb3 hRl HR.out
      have HW3 := Lib.hid (HW.out.below hb3)
      obtain ⟨_, b0, b1, bf, bz⟩ := own2 (g := X) (Below.refl _ w3) (by omega) hX3
      obtain ⟨_, r0, r1, rf, rz⟩ := own2 (g := w.heap.size) (Below.refl _ w3) (by omega) hR3
      have NR := Lib.hid (HW3.out.ne_ hR3 (by decide))
      have hbB : Below w.heap.size w w3 := by (first | ((repeat' first | (with_reducible (first | exact Below.refl _ _ | assumption | refine Below.setCell ?_ ?_ _ | refine Below.alloc ?_ ?_ _ | refine Below.drew ?_ | refine below_drewN ?_ _ | refine Below.trans ?_ (Below.mono (by assumption) ?_))) | omega | (simp; omega) | (simp; done)); done) | (repeat' first | exact Below.refl _ _ | assumption | refine Below.setCell ?_ (by first | omega | (simp; omega) | (simp; done)) _ | refine Below.alloc ?_ (by first | omega | (simp; omega) | (simp; done)) _ | refine Below.drew ?_ | refine below_drewN ?_ _ | refine Below.trans ?_ (Below.mono (by assumption) (by first | omega | (simp; omega) | (simp; done)))))
      have HMiss := Lib.hid (show ledgerL z L ≠ s.data.toList → LedIs ledgerB ledgerL s.data.toList 0 [] false from fun h => by
        by_cases hd : 1 ≤ k
        · have hI := HInv.out
          rw [decide_eq_true hd] at hI
          exact hI.miss (fun z' l' h1 h2 => by have := HCnt.out z' l' h1 h2; omega) h
        · exact led_none (fun z' l' h1 h2 => by have := HCnt.out z' l' h1 h2; omega))
      clear hb3 hX3 hR3 a0 a1 af
      by_cases he : t = ⟨#[]⟩
      · have HN : Hid (LedIs ledgerB ledgerL s.data.toList 0 [] false) := Lib.hid (by
          by_cases hse : ledgerL z L = s.data.toList
          · refine led_none (fun z' l' h1 h2 => ?_)
            have h3 := ht.out.data
            rw [he] at h3
            rw [← hse, ← h3] at h2
            exact led_text_ne h1 h2
          · exact HMiss.out hse)
        subst he
        go_wp2_with fail
        refine bodyPost_ret (v := .tuple #[.agg #[.int .i64 0, .slice none 0 0], .bool false]) (by simp [results, Tryd.results39, go_sem, *]) rfl ⟨0, [], none, 0, false, rfl, Ow.nil_, HN.out, ?_⟩
        (first | ((repeat' first | (with_reducible (first | exact Below.refl _ _ | assumption | refine Below.setCell ?_ ?_ _ | refine Below.alloc ?_ ?_ _ | refine Below.drew ?_ | refine below_drewN ?_ _ | refine Below.trans ?_ (Below.mono (by assumption) ?_))) | omega | (simp; omega) | (simp; done)); done) | (repeat' first | exact Below.refl _ _ | assumption | refine Below.setCell ?_ (by first | omega | (simp; omega) | (simp; done)) _ | refine Below.alloc ?_ (by first | omega | (simp; omega) | (simp; done)) _ | refine Below.drew ?_ | refine below_drewN ?_ _ | refine Below.trans ?_ (Below.mono (by assumption) (by first | omega | (simp; omega) | (simp; done)))))
      · have hne := neq_str he
        have hne1 : t.toList.isEmpty = false := by
          have h := neq_str he
          cases hx : t.toList with
          | nil => rw [hx] at h; simp at h
          | cons a r => rfl
        have hne2 : ledgerL z L ≠ [] := fun h => he (by
          have := ht.out
          unfold Str at this
          rw [this, h])
        have HNE := Lib.hid hne2
        clear hne hne2
        by_cases et : t = s
        · have HN := Lib.hid (led_hit (s := s.data.toList) (z := z) (L := L) (by rw [← eq_str ht.out et]; exact HNE.out) (eq_str ht.out et))
          have HWR := Lib.hid (HW3.out.apart2 (X := w.heap.size) NR.out (.int .i64 z) (.slice Bk L.length cp))
          subst et
          clear he
          go_wp2_with fail
          refine bodyPost_ret (v := .tuple #[.agg #[.int .i64 z, .slice Bk L.length cp], .bool true]) (by simp [results, Tryd.results39, go_sem, *]) rfl ⟨z, L, Bk, cp, true, rfl, ?_, HN.out, ?_⟩
          · exact HWR.out.more (by omega)
          · (first | ((repeat' first | (with_reducible (first | exact Below.refl _ _ | assumption | refine Below.setCell ?_ ?_ _ | refine Below.alloc ?_ ?_ _ | refine Below.drew ?_ | refine below_drewN ?_ _ | refine Below.trans ?_ (Below.mono (by assumption) ?_))) | omega | (simp; omega) | (simp; done)); done) | (repeat' first | exact Below.refl _ _ | assumption | refine Below.setCell ?_ (by first | omega | (simp; omega) | (simp; done)) _ | refine Below.alloc ?_ (by first | omega | (simp; omega) | (simp; done)) _ | refine Below.drew ?_ | refine below_drewN ?_ _ | refine Below.trans ?_ (Below.mono (by assumption) (by first | omega | (simp; omega) | (simp; done)))))
        · have HN := Lib.hid (HMiss.out (ne_str ht.out et))
          have hneq := neq_str et
          clear et he
          go_wp2_with fail
          refine bodyPost_ret (v := .tuple #[.agg #[.int .i64 0, .slice none 0 0], .bool false]) (by simp [results, Tryd.results39, go_sem, *]) rfl ⟨0, [], none, 0, false, rfl, Ow.nil_, HN.out, ?_⟩
          (first | ((repeat' first | (with_reducible (first | exact Below.refl _ _ | assumption | refine Below.setCell ?_ ?_ _ | refine Below.alloc ?_ ?_ _ | refine Below.drew ?_ | refine below_drewN ?_ _ | refine Below.trans ?_ (Below.mono (by assumption) ?_))) | omega | (simp; omega) | (simp; done)); done) | (repeat' first | exact Below.refl _ _ | assumption | refine Below.setCell ?_ (by first | omega | (simp; omega) | (simp; done)) _ | refine Below.alloc ?_ (by first | omega | (simp; omega) | (simp; done)) _ | refine Below.drew ?_ | refine below_drewN ?_ _ | refine Below.trans ?_ (Below.mono (by assumption) (by first | omega | (simp; omega) | (simp; done)))))
set_option maxRecDepth 100000 in
set_option maxHeartbeats 4000000 in
theorem i_TextPosting (s : ByteArray) (w : World) (hld : Le w) (hs : s.size ≤ 1048576) : Calls Tryd.prog 35 #[.string s] w (RdL postingB postingL s w) := by
  have HLD := Lib.hid hld
  have hz : s.data.toList.length = s.size := Array.length_toList
  have hln := parts_len 32 s.data.toList
  have HSub := Lib.hid (parts_sub 32 s.data.toList)
  have HS0 := Lib.hid (show ∀ (m : Nat) (x : List UInt8) (y : Line) (ok : Bool), (parts 32 s.data.toList)[m + 2]? = some x → LineIs 58 x y ok → ∀ z' l', postingB z' l' = true → postingL z' l' = s.data.toList → ∃ hm : m < l'.length, y = l'[m] ∧ ok = true from fun _ _ _ _ h1 h2 => post_read h1 h2)
  have HCnt := Lib.hid (post_count (s := s.data.toList))
  have HHead := Lib.hid (fun x (h : (parts 32 s.data.toList)[1]? = some x) => post_part1 h)
  obtain ⟨ti0, hi, hz0, hz1, hz2⟩ := info_parts info_line
  have HI := Lib.hid hi
  have HZ0 := Lib.hid hz0
  have HZ1 := Lib.hid hz1
  have HZ2 := Lib.hid hz2
  have HC := Lib.hid (fun W (h : Ld W) => i_Split s 32 W h (by omega))
  obtain ⟨LS, hLS⟩ : ∃ LS, parts 32 s.data.toList = LS := ⟨_, rfl⟩
  rw [hLS] at HSub HS0 HCnt HHead HC hln
  obtain ⟨N, hN⟩ : ∃ N, LS.length = N := ⟨_, rfl⟩
  rw [hN] at HCnt hln HC
  have hN1 : N ≤ 1048577 := by omega
  have HNL := Lib.hid hN
  have HSz := Lib.hid (show ∀ x ∈ LS, x.length ≤ 1048576 from fun x hx => by have := HSub.out x hx; omega)
  clear hi hz0 hz1 hz2 hld hz hln hLS hN HSub
  go_enter Tryd.func35, Tryd.ntmps35
  go_wp2_with fail
  refine (HC.out _ ((HLD.out.below (by (first | ((repeat' first | (with_reducible (first | exact Below.refl _ _ | assumption | refine Below.setCell ?_ ?_ _ | refine Below.alloc ?_ ?_ _ | refine Below.drew ?_ | refine below_drewN ?_ _ | refine Below.trans ?_ (Below.mono (by assumption) ?_))) | omega | (simp; omega) | (simp; done)); done) | (repeat' first | exact Below.refl _ _ | assumption | refine Below.setCell ?_ (by first | omega | (simp; omega) | (simp; done)) _ | refine Below.alloc ?_ (by first | omega | (simp; omega) | (simp; done)) _ | refine Below.drew ?_ | refine below_drewN ?_ _ | refine Below.trans ?_ (Below.mono (by assumption) (by first | omega | (simp; omega) | (simp; done))))))).toLd)).mono ?_
  rintro e w0 ⟨rfl, how0, hb0⟩
  have z0 := hb0.size
  (try simp at z0)
  obtain ⟨cs, hP0, hcs⟩ := how0.strs
  obtain ⟨PB, hPB⟩ : ∃ PB, PB = w.heap.size + 1 := ⟨_, rfl⟩
  have e2 : (w.alloc (.cells #[.int .i64 0, .slice none 0 0] 44)).heap.size = PB := by rw [hPB]; simp
  have hR0 := heap_below (n := w.heap.size) hb0 (by simp) (heap_at rfl)
  rw [e2] at hP0 ⊢
  obtain ⟨X, hX⟩ : ∃ X, X = w0.heap.size := ⟨_, rfl⟩
  have hPl0 : PB < w0.heap.size := (Array.getElem?_eq_some_iff.1 hP0).1
  have hXR : w.heap.size < X := by omega
  have hXP : X ≠ PB := by omega
  have hRP : w.heap.size ≠ PB := by omega
  obtain ⟨w1, hw1⟩ : ∃ w1, w0.alloc (.cells #[.int .i64 0, .slice none 0 0] 44) = w1 := ⟨_, rfl⟩
  have HR1 : Hid (w1.heap[w.heap.size]? = some (.cells #[.int .i64 0, .slice none 0 0] 44 (0, 0))) := Lib.hid (by rw [← hw1]; exact heap_past (by omega) hR0)
  have HX1 : Hid (w1.heap[X]? = some (.cells #[.int .i64 0, .slice none 0 0] 44 (0, 0))) := Lib.hid (by rw [← hw1]; exact heap_at hX)
  have HP1 : Hid (w1.heap[PB]? = some (.cells cs 9 (0, 0))) := Lib.hid (by rw [← hw1]; exact heap_past hPl0 hP0)
  have HCS := Lib.hid hcs
  have hbA : Below w.heap.size w w1 := by rw [← hw1]; exact Below.alloc (by (first | ((repeat' first | (with_reducible (first | exact Below.refl _ _ | assumption | refine Below.setCell ?_ ?_ _ | refine Below.alloc ?_ ?_ _ | refine Below.drew ?_ | refine below_drewN ?_ _ | refine Below.trans ?_ (Below.mono (by assumption) ?_))) | omega | (simp; omega) | (simp; done)); done) | (repeat' first | exact Below.refl _ _ | assumption | refine Below.setCell ?_ (by first | omega | (simp; omega) | (simp; done)) _ | refine Below.alloc ?_ (by first | omega | (simp; omega) | (simp; done)) _ | refine Below.drew ?_ | refine below_drewN ?_ _ | refine Below.trans ?_ (Below.mono (by assumption) (by first | omega | (simp; omega) | (simp; done)))))) (by omega) _
  have hPl : PB < w1.heap.size := (Array.getElem?_eq_some_iff.1 HP1.out).1
  have hcap0 : N ≤ N := Nat.le_refl _
  have HW1 := Lib.hid hw1
  have HXX := Lib.hid hX
  clear hb0 hR0 hP0 how0 hcs hPB hX hw1 e2 HC z0 hPl0
  go_wp2_with fail
  rw [HW1.out, ← HXX.out]
  clear HW1 HXX
  go_loopw [15] (fun i wr => ∃ (k : Nat) (z : Int) (L : List Line) (Bk : Option Addr) (cp : Nat), k ≤ N ∧ i = .int .i64 k ∧ Hid (RInv postingB postingL s.data.toList (decide (2 ≤ k)) (k - 2) z L) ∧ L.length ≤ 8 ∧ Ow wr (w.heap.size + 1) 82 3 (.slice Bk L.length cp) (L.map Line.cells) ∧ wr.heap[X]? = some (.cells #[.int .i64 z, .slice Bk L.length cp] 44 (0, 0)) ∧ wr.heap[w.heap.size]? = some (.cells #[.int .i64 0, .slice none 0 0] 44 (0, 0)) ∧ wr.heap[PB]? = some (.cells cs 9 (0, 0)) ∧ Below w.heap.size w wr) (fun i _ => N - (intOf i).toNat)
  case atStart => exact ⟨0, 0, [], none, 0, Nat.zero_le _, rfl, Lib.hid RInv.start, by simp, Ow.nil_, HX1.out, HR1.out, HP1.out, hbA⟩
  case round =>
    obtain ⟨k, z, L, Bk, cp, hk, rfl, HInv, hL, how, hX, hR, hP, hbw⟩ := hrel
    have hbz := hbw.size
    have hXl := (Array.getElem?_eq_some_iff.1 hX).1
    have hRl := (Array.getElem?_eq_some_iff.1 hR).1
    have hPl2 := (Array.getElem?_eq_some_iff.1 hP).1
    have HX := Lib.hid hX
    have HR := Lib.hid hR
    have HP := Lib.hid hP
    have HW := Lib.hid how
    clear how hX hR hP HX1 HR1 HP1 hbA
    by_cases hlt : k < N
    · have hkL : k < LS.length := by rw [HNL.out]; exact hlt
      have HXT := Lib.hid (rd_tail hkL)
      obtain ⟨t, ht', ht⟩ := str_of LS[k]
      have hts : t.size ≤ 1048576 := by rw [ht.out.size]; exact HSz.out _ (List.getElem_mem hkL)
      have c0 : wr.cell? ⟨PB, k, none⟩ = some (.string t) := by rw [blk_cell HP.out, HCS.out k _ HXT.out, ht']
      obtain ⟨T, hT⟩ : ∃ T, LS[k] = T := ⟨_, rfl⟩
      rw [hT] at HXT ht
      have HTD := Lib.hid ht.out.data
      clear hT ht' ht hkL
      have i0 : (0 : Int) ≤ (k : Int) := by omega
      have i1 : (k : Int) < (N : Int) := by omega
      by_cases hk0 : k = 0
      · subst hk0
        go_wp2_with fail
        go_roundw
        case rel => exact ⟨1, z, L, Bk, cp, by omega, by go_num, HInv, hL, HW.out, HX.out, HR.out, HP.out, hbw⟩
        case measure => simp [intOf]; omega
      · have hk0f : ((k : Int) == 0) = false := by rw [beq_eq_false_iff_ne]; omega
        by_cases hk1 : k = 1
        · subst hk1
          have HInv2 := Lib.hid (HInv.out.head (z := numOf t.data.toList) (fun z' l' h1 h2 => by
            rw [HTD.out, HHead.out _ HXT.out z' l' h1 h2]
            exact post_num h1))
          clear hk0
          go_wp2_with fail
          refine (i_TextNum t _ (HLD.out.below (by (first | ((repeat' first | (with_reducible (first | exact Below.refl _ _ | assumption | refine Below.setCell ?_ ?_ _ | refine Below.alloc ?_ ?_ _ | refine Below.drew ?_ | refine below_drewN ?_ _ | refine Below.trans ?_ (Below.mono (by assumption) ?_))) | omega | (simp; omega) | (simp; done)); done) | (repeat' first | exact Below.refl _ _ | assumption | refine Below.setCell ?_ (by first | omega | (simp; omega) | (simp; done)) _ | refine Below.alloc ?_ (by first | omega | (simp; omega) | (simp; done)) _ | refine Below.drew ?_ | refine below_drewN ?_ _ | refine Below.trans ?_ (Below.mono (by assumption) (by first | omega | (simp; omega) | (simp; done))))))) (by omega)).mono ?_
          rintro e w3 ⟨rfl, hb3⟩
          have z3 := hb3.size
          obtain ⟨x, hx⟩ : ∃ x, numOf t.data.toList = x := ⟨_, rfl⟩
          rw [hx] at HInv2 ⊢
          have hX3 := heap_below hb3 hXl HX.out
          have hR3 := heap_below hb3 hRl HR.out
          have hP3 := heap_below hb3 hPl2 HP.out
          have HW3 := Lib.hid (HW.out.below hb3)
          have NE := Lib.hid (HW3.out.ne_ hX3 (by decide))
          obtain ⟨_, a0, a1, af, az⟩ := own2 (g := X) (Below.refl _ w3) (by omega) hX3
          have hX4 := (heap_setP hX3 (.int .i64 x)).1
          have hR4 := heap_far (a := ⟨X, 0, none⟩) (u := .int .i64 x) (by show w.heap.size ≠ X; omega) hR3
          have hP4 := heap_far (a := ⟨X, 0, none⟩) (u := .int .i64 x) (by show PB ≠ X; omega) hP3
          have HX4 := Lib.hid hX4
          have HR4 := Lib.hid hR4
          have HP4 := Lib.hid hP4
          have HW4 := Lib.hid (show Ow (w3.setCell ⟨X, 0, none⟩ (.int .i64 x)) (w.heap.size + 1) 82 3 (.slice Bk L.length cp) (L.map Line.cells) from HW3.out.apart (X := X) (i := 0) NE.out _)
          have hbB : Below w.heap.size w w3 := by (first | ((repeat' first | (with_reducible (first | exact Below.refl _ _ | assumption | refine Below.setCell ?_ ?_ _ | refine Below.alloc ?_ ?_ _ | refine Below.drew ?_ | refine below_drewN ?_ _ | refine Below.trans ?_ (Below.mono (by assumption) ?_))) | omega | (simp; omega) | (simp; done)); done) | (repeat' first | exact Below.refl _ _ | assumption | refine Below.setCell ?_ (by first | omega | (simp; omega) | (simp; done)) _ | refine Below.alloc ?_ (by first | omega | (simp; omega) | (simp; done)) _ | refine Below.drew ?_ | refine below_drewN ?_ _ | refine Below.trans ?_ (Below.mono (by assumption) (by first | omega | (simp; omega) | (simp; done)))))
          clear hb3 hX3 hR3 hP3 hX4 hR4 hP4 hx
          go_wp2_with fail
          go_roundw
          case rel => exact ⟨1 + 1, x, L, Bk, cp, by omega, by go_num, HInv2, hL, HW4.out, HX4.out, HR4.out, HP4.out, by (first | ((repeat' first | (with_reducible (first | exact Below.refl _ _ | assumption | refine Below.setCell ?_ ?_ _ | refine Below.alloc ?_ ?_ _ | refine Below.drew ?_ | refine below_drewN ?_ _ | refine Below.trans ?_ (Below.mono (by assumption) ?_))) | omega | (simp; omega) | (simp; done)); done) | (repeat' first | exact Below.refl _ _ | assumption | refine Below.setCell ?_ (by first | omega | (simp; omega) | (simp; done)) _ | refine Below.alloc ?_ (by first | omega | (simp; omega) | (simp; done)) _ | refine Below.drew ?_ | refine below_drewN ?_ _ | refine Below.trans ?_ (Below.mono (by assumption) (by first | omega | (simp; omega) | (simp; done)))))⟩
          case measure => simp [intOf]; omega
        · have hk1f : ((k : Int) == 1) = false := by rw [beq_eq_false_iff_ne]; omega
          obtain ⟨m, rfl⟩ : ∃ m, k = m + 2 := ⟨k - 2, by omega⟩
          have HInv1 := Lib.hid (show RInv postingB postingL s.data.toList true m z L by
            have := HInv.out
            rwa [Nat.add_sub_cancel, decide_eq_true (by omega)] at this)
          clear HInv hk0 hk1
          go_wp2_with fail
          refine (i_textLine t 58 _ (HLD.out.below (by (first | ((repeat' first | (with_reducible (first | exact Below.refl _ _ | assumption | refine Below.setCell ?_ ?_ _ | refine Below.alloc ?_ ?_ _ | refine Below.drew ?_ | refine below_drewN ?_ _ | refine Below.trans ?_ (Below.mono (by assumption) ?_))) | omega | (simp; omega) | (simp; done)); done) | (repeat' first | exact Below.refl _ _ | assumption | refine Below.setCell ?_ (by first | omega | (simp; omega) | (simp; done)) _ | refine Below.alloc ?_ (by first | omega | (simp; omega) | (simp; done)) _ | refine Below.drew ?_ | refine below_drewN ?_ _ | refine Below.trans ?_ (Below.mono (by assumption) (by first | omega | (simp; omega) | (simp; done))))))) (by simp) hts).mono ?_
          rintro e w3 ⟨y, ok, rfl, hline, hb3⟩
          have z3 := hb3.size
          rw [HTD.out] at hline
          have HRead := Lib.hid (HS0.out _ _ _ _ HXT.out hline)
          have hX3 := heap_below hb3 hXl HX.out
          have hR3 := heap_below hb3 hRl HR.out
          have hP3 := heap_below hb3 hPl2 HP.out
          have HW3 := Lib.hid (HW.out.below hb3)
          obtain ⟨_, a0, a1, af, az⟩ := own2 (g := X) (Below.refl _ w3) (by omega) hX3
          obtain ⟨_, r0, r1, rf, rz⟩ := own2 (g := w.heap.size) (Below.refl _ w3) (by omega) hR3
          have HX3 := Lib.hid hX3
          have HR3 := Lib.hid hR3
          have HP3 := Lib.hid hP3
          have hbB : Below w.heap.size w w3 := by (first | ((repeat' first | (with_reducible (first | exact Below.refl _ _ | assumption | refine Below.setCell ?_ ?_ _ | refine Below.alloc ?_ ?_ _ | refine Below.drew ?_ | refine below_drewN ?_ _ | refine Below.trans ?_ (Below.mono (by assumption) ?_))) | omega | (simp; omega) | (simp; done)); done) | (repeat' first | exact Below.refl _ _ | assumption | refine Below.setCell ?_ (by first | omega | (simp; omega) | (simp; done)) _ | refine Below.alloc ?_ (by first | omega | (simp; omega) | (simp; done)) _ | refine Below.drew ?_ | refine below_drewN ?_ _ | refine Below.trans ?_ (Below.mono (by assumption) (by first | omega | (simp; omega) | (simp; done)))))
          clear hb3 hX3 hR3 hP3 hline HW
          cases ok
          · have HN := Lib.hid (led_none (B := postingB) (F := postingL) (s := s.data.toList) (fun z' l' h1 h2 => by
              obtain ⟨_, _, h3⟩ := HRead.out z' l' h1 h2
              cases h3))
            go_wp2_with fail
            refine bodyPost_ret (v := .tuple #[.agg #[.int .i64 0, .slice none 0 0], .bool false]) (by simp [results, Tryd.results35, go_sem, *]) rfl ⟨0, [], none, 0, false, rfl, Ow.nil_, HN.out, ?_⟩
            (first | ((repeat' first | (with_reducible (first | exact Below.refl _ _ | assumption | refine Below.setCell ?_ ?_ _ | refine Below.alloc ?_ ?_ _ | refine Below.drew ?_ | refine below_drewN ?_ _ | refine Below.trans ?_ (Below.mono (by assumption) ?_))) | omega | (simp; omega) | (simp; done)); done) | (repeat' first | exact Below.refl _ _ | assumption | refine Below.setCell ?_ (by first | omega | (simp; omega) | (simp; done)) _ | refine Below.alloc ?_ (by first | omega | (simp; omega) | (simp; done)) _ | refine Below.drew ?_ | refine below_drewN ?_ _ | refine Below.trans ?_ (Below.mono (by assumption) (by first | omega | (simp; omega) | (simp; done)))))
          · by_cases hfull : 8 ≤ L.length
            · have HN := Lib.hid (led_none (B := postingB) (F := postingL) (s := s.data.toList) (fun z' l' h1 h2 => by
                obtain ⟨h3, _, _⟩ := HRead.out z' l' h1 h2
                have h4 := (HInv1.out z' l' h1 h2).2
                have h5 := post_short h1
                have h6 := congrArg List.length h4
                rw [List.length_take] at h6
                omega))
              have hf : (8 : Int) ≤ (L.length : Int) := by omega
              go_wp2_with fail
              refine bodyPost_ret (v := .tuple #[.agg #[.int .i64 0, .slice none 0 0], .bool false]) (by simp [results, Tryd.results35, go_sem, *]) rfl ⟨0, [], none, 0, false, rfl, Ow.nil_, HN.out, ?_⟩
              (first | ((repeat' first | (with_reducible (first | exact Below.refl _ _ | assumption | refine Below.setCell ?_ ?_ _ | refine Below.alloc ?_ ?_ _ | refine Below.drew ?_ | refine below_drewN ?_ _ | refine Below.trans ?_ (Below.mono (by assumption) ?_))) | omega | (simp; omega) | (simp; done)); done) | (repeat' first | exact Below.refl _ _ | assumption | refine Below.setCell ?_ (by first | omega | (simp; omega) | (simp; done)) _ | refine Below.alloc ?_ (by first | omega | (simp; omega) | (simp; done)) _ | refine Below.drew ?_ | refine below_drewN ?_ _ | refine Below.trans ?_ (Below.mono (by assumption) (by first | omega | (simp; omega) | (simp; done)))))
            · have hf : decide ((8 : Int) ≤ (L.length : Int)) = false := decide_eq_false (by omega)
              have HInv2 := Lib.hid (HInv1.out.next (fun z' l' h1 h2 => by
                obtain ⟨h3, h4, _⟩ := HRead.out z' l' h1 h2
                exact ⟨h3, h4⟩))
              have hL2 : L.length ≤ 400 := by omega
              have hL3 : L.length + 1 ≤ 8 := by omega
              clear hfull
              obtain ⟨y0, y1, y2⟩ := y
              have NE := Lib.hid (HW3.out.ne_ HX3.out (by decide))
              have NP := Lib.hid (HW3.out.ne_ HP3.out (by decide))
              have NR := Lib.hid (HW3.out.ne_ HR3.out (by decide))
              have OB := Lib.hid HW3.out.block
              have KX := Lib.hid (fun o1 o2 (w6 : World) (hgr : ((w3.alloc o1).alloc o2).grownBy w6 (Value.slice Bk L.length cp).ownBlock) => heap_grown hgr NE.out (heap_past (by simp; omega) (heap_past (by omega) HX3.out)))
              have KP := Lib.hid (fun o1 o2 (w6 : World) (hgr : ((w3.alloc o1).alloc o2).grownBy w6 (Value.slice Bk L.length cp).ownBlock) => heap_grown hgr NP.out (heap_past (by simp; omega) (heap_past (by omega) HP3.out)))
              have KR := Lib.hid (fun o1 o2 (w6 : World) (hgr : ((w3.alloc o1).alloc o2).grownBy w6 (Value.slice Bk L.length cp).ownBlock) => heap_grown hgr NR.out (heap_past (by simp; omega) (heap_past (by omega) HR3.out)))
              have KB := Lib.hid (fun o1 o2 (w6 : World) (hgr : ((w3.alloc o1).alloc o2).grownBy w6 (Value.slice Bk L.length cp).ownBlock) => ((hbB.alloc (by omega) o1).alloc (by simp; omega) o2).grown hgr (by simp; omega) (fun k e => by have := (OB.out k e).1; omega))
              go_wp2_with (at_builtin; refine wpList_app1 rfl _ _ _ rfl (w.heap.size + 1) 82 ti0 _ 3 24 Tryd.underlying33 HI.out HZ0.out HZ1.out HZ2.out rfl (by decide) (.slice Bk L.length cp) (L.map Line.cells) rfl ((HW3.out.alloc _).alloc _) (w3.heap.size + 1) 1 [.int .i64 y0, .int .i64 y1, .int .i64 y2] 82 rfl (heap_at (by first | rfl | (simp; done))) rfl (by simp [Value.oneCell']) (by rw [List.length_map]; omega) (by decide) (by first | omega | (simp; omega) | (simp; done)) ?_; intro g cap' w6 how6 hgr6 hat6 hlt6; rw [List.length_map] at how6; rw [List.length_map]; have hX6 := KX.out _ _ _ hgr6; have hP6 := KP.out _ _ _ hgr6; have hR6 := KR.out _ _ _ hgr6; have hb6 := KB.out _ _ _ hgr6; have O6 := Lib.hid how6; have N6 := Lib.hid (how6.ne_ hX6 (by decide)); have z6 := hb6.size; obtain ⟨_, b0, b1, bf, bz⟩ := own2 (g := X) (Below.refl _ w6) (Array.getElem?_eq_some_iff.1 hX6).1 hX6; have HX6 := Lib.hid (heap_setP hX6 (.slice (some ⟨g, 0, none⟩) (L.length + 1) cap')).2; have HR6 := Lib.hid (heap_far (a := ⟨X, 1, none⟩) (u := .slice (some ⟨g, 0, none⟩) (L.length + 1) cap') (by show w.heap.size ≠ X; omega) hR6); have HP6 := Lib.hid (heap_far (a := ⟨X, 1, none⟩) (u := .slice (some ⟨g, 0, none⟩) (L.length + 1) cap') (by show PB ≠ X; omega) hP6); have HW7 := Lib.hid (how6.apart (X := X) (i := 1) N6.out (.slice (some ⟨g, 0, none⟩) (L.length + 1) cap')); clear how6 hgr6 hat6 hX6 hP6 hR6 O6)
              go_roundw
              case rel =>
                refine ⟨m + 2 + 1, z, L ++ [⟨y0, y1, y2⟩], some ⟨g, 0, none⟩, cap', by omega, by go_num, Lib.hid (by
                  rw [decide_eq_true (by omega), show m + 2 + 1 - 2 = m + 1 by omega]
                  exact HInv2.out), by simp; omega, ?_, ?_, HR6.out, HP6.out, by (first | ((repeat' first | (with_reducible (first | exact Below.refl _ _ | assumption | refine Below.setCell ?_ ?_ _ | refine Below.alloc ?_ ?_ _ | refine Below.drew ?_ | refine below_drewN ?_ _ | refine Below.trans ?_ (Below.mono (by assumption) ?_))) | omega | (simp; omega) | (simp; done)); done) | (repeat' first | exact Below.refl _ _ | assumption | refine Below.setCell ?_ (by first | omega | (simp; omega) | (simp; done)) _ | refine Below.alloc ?_ (by first | omega | (simp; omega) | (simp; done)) _ | refine Below.drew ?_ | refine below_drewN ?_ _ | refine Below.trans ?_ (Below.mono (by assumption) (by first | omega | (simp; omega) | (simp; done)))))⟩
                · rw [List.map_append, List.length_append]
                  exact HW7.out
                · rw [List.length_append]
                  exact HX6.out
              case measure => simp [intOf]; omega
    · obtain rfl : k = N := by omega
      obtain ⟨_, a0, a1, af, az⟩ := own2 (g := X) (Below.refl _ wr) (by omega) HX.out
      have HRd := Lib.hid HW.out.rd
      go_wp2_with fail
      refine (i_PostingText z L _ _ _ (HLD.out.below hbw).toLd (by omega) HRd.out).mono ?_
      rintro e w3 ⟨rfl, hb3⟩
      have z3 := hb3.size
      obtain ⟨t, ht', ht⟩ := str_of (postingL z L)
      rw [ht']
      clear ht'
      have hX3 := heap_below hb3 hXl HX.out
      have hR3 := heap_below hb3 hRl HR.out
      have HW3 := Lib.hid (HW.out.below hb3)
      obtain ⟨_, b0, b1, bf, bz⟩ := own2 (g := X) (Below.refl _ w3) (by omega) hX3
      obtain ⟨_, r0, r1, rf, rz⟩ := own2 (g := w.heap.size) (Below.refl _ w3) (by omega) hR3
      have NR := Lib.hid (HW3.out.ne_ hR3 (by decide))
      have hbB : Below w.heap.size w w3 := by (first | ((repeat' first | (with_reducible (first | exact Below.refl _ _ | assumption | refine Below.setCell ?_ ?_ _ | refine Below.alloc ?_ ?_ _ | refine Below.drew ?_ | refine below_drewN ?_ _ | refine Below.trans ?_ (Below.mono (by assumption) ?_))) | omega | (simp; omega) | (simp; done)); done) | (repeat' first | exact Below.refl _ _ | assumption | refine Below.setCell ?_ (by first | omega | (simp; omega) | (simp; done)) _ | refine Below.alloc ?_ (by first | omega | (simp; omega) | (simp; done)) _ | refine Below.drew ?_ | refine below_drewN ?_ _ | refine Below.trans ?_ (Below.mono (by assumption) (by first | omega | (simp; omega) | (simp; done)))))
      have HMiss := Lib.hid (show postingL z L ≠ s.data.toList → LedIs postingB postingL s.data.toList 0 [] false from fun h => by
        by_cases hd : 2 ≤ k
        · have hI := HInv.out
          rw [decide_eq_true hd] at hI
          exact hI.miss (fun z' l' h1 h2 => by have := HCnt.out z' l' h1 h2; omega) h
        · exact led_none (fun z' l' h1 h2 => by have := HCnt.out z' l' h1 h2; omega))
      clear hb3 hX3 hR3 a0 a1 af
      by_cases he : t = ⟨#[]⟩
      · have HN : Hid (LedIs postingB postingL s.data.toList 0 [] false) := Lib.hid (by
          by_cases hse : postingL z L = s.data.toList
          · refine led_none (fun z' l' h1 h2 => ?_)
            have h3 := ht.out.data
            rw [he] at h3
            rw [← hse, ← h3] at h2
            exact post_text_ne h1 h2
          · exact HMiss.out hse)
        subst he
        go_wp2_with fail
        refine bodyPost_ret (v := .tuple #[.agg #[.int .i64 0, .slice none 0 0], .bool false]) (by simp [results, Tryd.results35, go_sem, *]) rfl ⟨0, [], none, 0, false, rfl, Ow.nil_, HN.out, ?_⟩
        (first | ((repeat' first | (with_reducible (first | exact Below.refl _ _ | assumption | refine Below.setCell ?_ ?_ _ | refine Below.alloc ?_ ?_ _ | refine Below.drew ?_ | refine below_drewN ?_ _ | refine Below.trans ?_ (Below.mono (by assumption) ?_))) | omega | (simp; omega) | (simp; done)); done) | (repeat' first | exact Below.refl _ _ | assumption | refine Below.setCell ?_ (by first | omega | (simp; omega) | (simp; done)) _ | refine Below.alloc ?_ (by first | omega | (simp; omega) | (simp; done)) _ | refine Below.drew ?_ | refine below_drewN ?_ _ | refine Below.trans ?_ (Below.mono (by assumption) (by first | omega | (simp; omega) | (simp; done)))))
      · have hne := neq_str he
        have hne1 : t.toList.isEmpty = false := by
          have h := neq_str he
          cases hx : t.toList with
          | nil => rw [hx] at h; simp at h
          | cons a r => rfl
        have hne2 : postingL z L ≠ [] := fun h => he (by
          have := ht.out
          unfold Str at this
          rw [this, h])
        have HNE := Lib.hid hne2
        clear hne hne2
        by_cases et : t = s
        · have HN := Lib.hid (post_hit (s := s.data.toList) (z := z) (L := L) (by rw [← eq_str ht.out et]; exact HNE.out) (eq_str ht.out et))
          have HWR := Lib.hid (HW3.out.apart2 (X := w.heap.size) NR.out (.int .i64 z) (.slice Bk L.length cp))
          subst et
          clear he
          go_wp2_with fail
          refine bodyPost_ret (v := .tuple #[.agg #[.int .i64 z, .slice Bk L.length cp], .bool true]) (by simp [results, Tryd.results35, go_sem, *]) rfl ⟨z, L, Bk, cp, true, rfl, ?_, HN.out, ?_⟩
          · exact HWR.out.more (by omega)
          · (first | ((repeat' first | (with_reducible (first | exact Below.refl _ _ | assumption | refine Below.setCell ?_ ?_ _ | refine Below.alloc ?_ ?_ _ | refine Below.drew ?_ | refine below_drewN ?_ _ | refine Below.trans ?_ (Below.mono (by assumption) ?_))) | omega | (simp; omega) | (simp; done)); done) | (repeat' first | exact Below.refl _ _ | assumption | refine Below.setCell ?_ (by first | omega | (simp; omega) | (simp; done)) _ | refine Below.alloc ?_ (by first | omega | (simp; omega) | (simp; done)) _ | refine Below.drew ?_ | refine below_drewN ?_ _ | refine Below.trans ?_ (Below.mono (by assumption) (by first | omega | (simp; omega) | (simp; done)))))
        · have HN := Lib.hid (HMiss.out (ne_str ht.out et))
          have hneq := neq_str et
          clear et he
          go_wp2_with fail
          refine bodyPost_ret (v := .tuple #[.agg #[.int .i64 0, .slice none 0 0], .bool false]) (by simp [results, Tryd.results35, go_sem, *]) rfl ⟨0, [], none, 0, false, rfl, Ow.nil_, HN.out, ?_⟩
          (first | ((repeat' first | (with_reducible (first | exact Below.refl _ _ | assumption | refine Below.setCell ?_ ?_ _ | refine Below.alloc ?_ ?_ _ | refine Below.drew ?_ | refine below_drewN ?_ _ | refine Below.trans ?_ (Below.mono (by assumption) ?_))) | omega | (simp; omega) | (simp; done)); done) | (repeat' first | exact Below.refl _ _ | assumption | refine Below.setCell ?_ (by first | omega | (simp; omega) | (simp; done)) _ | refine Below.alloc ?_ (by first | omega | (simp; omega) | (simp; done)) _ | refine Below.drew ?_ | refine below_drewN ?_ _ | refine Below.trans ?_ (Below.mono (by assumption) (by first | omega | (simp; omega) | (simp; done)))))
end Go.Proofs.YtgpledgjpjifcaaDoor
