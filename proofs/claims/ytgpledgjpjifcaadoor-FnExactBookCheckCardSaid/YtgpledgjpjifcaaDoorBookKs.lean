/- Books: the keys: the walk of the reference. -/
import Derived.Test.YtgpledgjpjifcaaDoorRows
import Derived.Test.YtgpledgjpjifcaaDoorBookTi
import Derived.Test.YtgpledgjpjifcaaDoorBookTs
namespace Go.Proofs.YtgpledgjpjifcaaDoor
open Go.RowKit

theorem info_int : (Tryd.prog.info? 3).map (fun i => (i.zero, i.size, i.bytes)) = some (some (.int .i64 0), 1, 8) := by kernel_rfl
theorem keyed_succ {α : Type} (z : List Int) (l : List α) (f : α → Int) {k : Nat} (hk : k < l.length) : z ++ (l.take (k + 1)).map f = (z ++ (l.take k).map f) ++ [f l[k]] := by
  rw [List.take_succ_eq_append_getElem hk, List.map_append, List.append_assoc]
  rfl
theorem keyed_len {α : Type} (z : List Int) (l : List α) (f : α → Int) {k : Nat} (hk : k ≤ l.length) : (z ++ (l.take k).map f).length = z.length + k := by
  simp; omega
set_option maxRecDepth 100000 in
set_option maxHeartbeats 4000000 in
theorem s_l07Keys (bt bn bw : Int) (cs : List Chan) (hs : List Htlc) (os : List Circle) (A1 A2 A3 : Option Addr) (p1 p2 p3 : Nat) (w : World) (h60 : hs.length ≤ 60) (h20 : os.length ≤ 20) (hr : RdBook w w.heap.size A1 cs A2 hs A3 os) :
    Calls Tryd.prog 127 #[.agg #[.int .i64 bt, .int .i64 bn, .int .i64 bw, .slice A1 cs.length p1, .slice A2 hs.length p2, .slice A3 os.length p3]] w fun e w' => ∃ A cap, e = .returned (.slice A (keysOf hs os).length cap) ∧ Ow w' w.heap.size 3 1 (.slice A (keysOf hs os).length cap) ((keysOf hs os).map intCells) ∧ Below w.heap.size w w' := by
  have HH := Lib.hid hr.h
  have HO := Lib.hid hr.o
  clear hr
  obtain ⟨i0, hi, hz0, hz1, hz2⟩ := info_parts info_int
  have HI := Lib.hid hi
  have HZ0 := Lib.hid hz0
  have HZ1 := Lib.hid hz1
  have HZ2 := Lib.hid hz2
  clear hi hz0 hz1 hz2
  go_enter Tryd.func127, Tryd.ntmps127
  go_wp2_with fail
  go_loopw [3, 12] (fun vk i wr => ∃ (k : Nat) (B : Option Addr) (cp : Nat), k ≤ hs.length ∧ i = .int .i64 k ∧ vk = .slice B ([] ++ (hs.take k).map Htlc.Key).length cp ∧ Ow wr (w.heap.size + 1) 3 1 (.slice B ([] ++ (hs.take k).map Htlc.Key).length cp) (([] ++ (hs.take k).map Htlc.Key).map intCells) ∧ wr.heap[w.heap.size]? = some (.cells #[.int .i64 bt, .int .i64 bn, .int .i64 bw, .slice A1 cs.length p1, .slice A2 hs.length p2, .slice A3 os.length p3] 59 (0, 0)) ∧ Below w.heap.size w wr) (fun _ i _ => hs.length - (intOf i).toNat)
  case atStart =>
    refine ⟨0, _, _, Nat.zero_le _, rfl, rfl, ?_, heap_past (by simp) (heap_at rfl), by (first | ((repeat' first | (with_reducible (first | exact Below.refl _ _ | assumption | refine Below.setCell ?_ ?_ _ | refine Below.alloc ?_ ?_ _ | refine Below.drew ?_ | refine below_drewN ?_ _ | refine Below.trans ?_ (Below.mono (by assumption) ?_))) | omega | (simp; omega) | (simp; done)); done) | (repeat' first | exact Below.refl _ _ | assumption | refine Below.setCell ?_ (by first | omega | (simp; omega) | (simp; done)) _ | refine Below.alloc ?_ (by first | omega | (simp; omega) | (simp; done)) _ | refine Below.drew ?_ | refine below_drewN ?_ _ | refine Below.trans ?_ (Below.mono (by assumption) (by first | omega | (simp; omega) | (simp; done)))))⟩
    exact Ow.empty_ (by simp) (Nat.le_refl _)
  case round =>
    obtain ⟨k, B, cp, hk, rfl, rfl, how, hbox, hbw⟩ := hrel
    have hbz := hbw.size
    obtain ⟨eh, e0, e1, e2, e3, e4, e5, ef, ezz⟩ := own6 (Below.refl wr.heap.size wr) (Array.getElem?_eq_some_iff.1 hbox).1 hbox
    have EH := Lib.hid eh
    clear eh hbox
    have hrl : ([] ++ (hs.take k).map Htlc.Key).length ≤ 80 := by rw [keyed_len _ _ _ hk]; simp; omega
    have NE := Lib.hid (how.ne_ EH.out (by decide))
    have OB := Lib.hid how.block
    have HW := Lib.hid how
    clear how
    by_cases hlt : k < hs.length
    · obtain ⟨b, off, rfl, hbB, c0, c1, c2, c3, c4, c5, c6⟩ := Htlc.rd (HH.out.below hbw) hlt
      have HK := Lib.hid (keyed_succ [] hs Htlc.Key hlt)
      obtain ⟨ROWS, hROWS⟩ : ∃ R, ([] ++ (hs.take k).map Htlc.Key) = R := ⟨_, rfl⟩
      rw [hROWS] at hrl NE OB HW HK ⊢
      clear hROWS
      have KE := Lib.hid (fun o1 o2 (w6 : World) (hgr : ((wr.alloc o1).alloc o2).grownBy w6 (Value.slice B ROWS.length cp).ownBlock) => ownG6 hgr NE.out (heap_past (by simp; omega) (heap_past ezz EH.out)))
      have KB := Lib.hid (fun o1 o2 (w6 : World) (hgr : ((wr.alloc o1).alloc o2).grownBy w6 (Value.slice B ROWS.length cp).ownBlock) => ((hbw.alloc (Nat.le_trans (Nat.le_refl _) hbz) o1).alloc (by simp; omega) o2).grown hgr (by simp; omega) (fun k e => by have := (OB.out k e).1; omega))
      go_wp2_with (at_builtin; refine wpList_app1 rfl _ _ _ rfl (w.heap.size + 1) 3 i0 _ 1 8 Tryd.underlying93 HI.out HZ0.out HZ1.out HZ2.out rfl (by decide) (.slice B ROWS.length cp) (ROWS.map intCells) rfl ((HW.out.alloc _).alloc _) (wr.heap.size + 1) 1 [.int .i64 hs[k].Key] 3 rfl (heap_at (by first | rfl | (simp; done))) rfl (by simp [Value.oneCell']) (by rw [List.length_map]; omega) (by decide) (by first | omega | (simp; omega) | (simp; done)) ?_; intro g cap' w6 how6 hgr6 hat6 hlt6; rw [List.length_map] at how6; rw [List.length_map]; obtain ⟨xh, x0, x1, x2, x3, x4, x5, xf, xz⟩ := KE.out _ _ _ hgr6; have hb6 := KB.out _ _ _ hgr6; have XH := Lib.hid xh; have O6 := Lib.hid how6; clear xh how6 hgr6 hat6)
      go_roundw
      case rel =>
        refine ⟨k + 1, some ⟨g, 0, none⟩, cap', by omega, by go_num, by rw [HK.out, List.length_append]; rfl, ?_, XH.out, hb6⟩
        rw [HK.out, List.map_append, List.length_append]
        exact O6.out
      case measure => simp [intOf]; omega
    · obtain rfl : k = hs.length := by omega
      rw [List.take_length, List.nil_append] at HW hrl ⊢
      rw [List.length_map] at hrl
      go_wp2_with fail
      obtain ⟨wo, rfl⟩ : ∃ wo : World, wo = wr := ⟨_, rfl⟩
      go_loopw [3, 25] (fun vk i wr => ∃ (k : Nat) (B : Option Addr) (cp : Nat), k ≤ os.length ∧ i = .int .i64 k ∧ vk = .slice B ((hs.map Htlc.Key) ++ (os.take k).map Circle.Key).length cp ∧ Ow wr (w.heap.size + 1) 3 1 (.slice B ((hs.map Htlc.Key) ++ (os.take k).map Circle.Key).length cp) (((hs.map Htlc.Key) ++ (os.take k).map Circle.Key).map intCells) ∧ wr.heap[w.heap.size]? = some (.cells #[.int .i64 bt, .int .i64 bn, .int .i64 bw, .slice A1 cs.length p1, .slice A2 hs.length p2, .slice A3 os.length p3] 59 (0, 0)) ∧ Below w.heap.size w wr) (fun _ i _ => os.length - (intOf i).toNat)
      case atStart => exact ⟨0, B, cp, Nat.zero_le _, rfl, by simp, by simpa using HW.out, EH.out, hbw⟩
      case round =>
        obtain ⟨k, B, cp, hk, rfl, rfl, how, hbox, hbw⟩ := hrel
        have hbz := hbw.size
        obtain ⟨eh, e0, e1, e2, e3, e4, e5, ef, ezz⟩ := own6 (Below.refl wr.heap.size wr) (Array.getElem?_eq_some_iff.1 hbox).1 hbox
        have EH := Lib.hid eh
        clear eh hbox
        have hrl : ((hs.map Htlc.Key) ++ (os.take k).map Circle.Key).length ≤ 80 := by rw [keyed_len _ _ _ hk]; rw [List.length_map]; omega
        have NE := Lib.hid (how.ne_ EH.out (by decide))
        have OB := Lib.hid how.block
        have HW := Lib.hid how
        clear how
        by_cases hlt : k < os.length
        · obtain ⟨b, off, rfl, hbB, c0, c1, c2, c3, c4⟩ := Circle.rd (HO.out.below hbw) hlt
          have HK := Lib.hid (keyed_succ (hs.map Htlc.Key) os Circle.Key hlt)
          obtain ⟨ROWS, hROWS⟩ : ∃ R, ((hs.map Htlc.Key) ++ (os.take k).map Circle.Key) = R := ⟨_, rfl⟩
          rw [hROWS] at hrl NE OB HW HK ⊢
          clear hROWS
          have KE := Lib.hid (fun o1 o2 (w6 : World) (hgr : ((wr.alloc o1).alloc o2).grownBy w6 (Value.slice B ROWS.length cp).ownBlock) => ownG6 hgr NE.out (heap_past (by simp; omega) (heap_past ezz EH.out)))
          have KB := Lib.hid (fun o1 o2 (w6 : World) (hgr : ((wr.alloc o1).alloc o2).grownBy w6 (Value.slice B ROWS.length cp).ownBlock) => ((hbw.alloc (Nat.le_trans (Nat.le_refl _) hbz) o1).alloc (by simp; omega) o2).grown hgr (by simp; omega) (fun k e => by have := (OB.out k e).1; omega))
          go_wp2_with (at_builtin; refine wpList_app1 rfl _ _ _ rfl (w.heap.size + 1) 3 i0 _ 1 8 Tryd.underlying93 HI.out HZ0.out HZ1.out HZ2.out rfl (by decide) (.slice B ROWS.length cp) (ROWS.map intCells) rfl ((HW.out.alloc _).alloc _) (wr.heap.size + 1) 1 [.int .i64 os[k].Key] 3 rfl (heap_at (by first | rfl | (simp; done))) rfl (by simp [Value.oneCell']) (by rw [List.length_map]; omega) (by decide) (by first | omega | (simp; omega) | (simp; done)) ?_; intro g cap' w6 how6 hgr6 hat6 hlt6; rw [List.length_map] at how6; rw [List.length_map]; obtain ⟨xh, x0, x1, x2, x3, x4, x5, xf, xz⟩ := KE.out _ _ _ hgr6; have hb6 := KB.out _ _ _ hgr6; have XH := Lib.hid xh; have O6 := Lib.hid how6; clear xh how6 hgr6 hat6)
          go_roundw
          case rel =>
            refine ⟨k + 1, some ⟨g, 0, none⟩, cap', by omega, by go_num, by rw [HK.out, List.length_append]; rfl, ?_, XH.out, hb6⟩
            rw [HK.out, List.map_append, List.length_append]
            exact O6.out
          case measure => simp [intOf]; omega
        · obtain rfl : k = os.length := by omega
          have hkeys : (hs.map Htlc.Key) ++ (os.take os.length).map Circle.Key = keysOf hs os := by rw [List.take_length]; rfl
          rw [hkeys] at HW ⊢
          clear hkeys
          go_wp2_with fail
          go_ret
          exact ⟨_, _, rfl, HW.out.more (by omega), by (first | ((repeat' first | (with_reducible (first | exact Below.refl _ _ | assumption | refine Below.setCell ?_ ?_ _ | refine Below.alloc ?_ ?_ _ | refine Below.drew ?_ | refine below_drewN ?_ _ | refine Below.trans ?_ (Below.mono (by assumption) ?_))) | omega | (simp; omega) | (simp; done)); done) | (repeat' first | exact Below.refl _ _ | assumption | refine Below.setCell ?_ (by first | omega | (simp; omega) | (simp; done)) _ | refine Below.alloc ?_ (by first | omega | (simp; omega) | (simp; done)) _ | refine Below.drew ?_ | refine below_drewN ?_ _ | refine Below.trans ?_ (Below.mono (by assumption) (by first | omega | (simp; omega) | (simp; done)))))⟩
end Go.Proofs.YtgpledgjpjifcaaDoor
