/- BookKs · Cuts · LeRow · TxtBF · BkRq: each text proves what its theorems say, with no conditions but theirs. -/
import Derived.Test.YtcjbjpobpefehaaGreatDoorRows
import Derived.Test.YtcjbjpobpefehaaGreatDoorBookTi
import Derived.Test.YtcjbjpobpefehaaGreatDoorBookTs
import Derived.Test.YtcjbjpobpefehaaGreatDoorM2
import Derived.Test.YtcjbjpobpefehaaGreatDoorNumP
import Derived.Test.YtcjbjpobpefehaaGreatDoorM1
import Derived.Deep.AppendLies
namespace Go.Proofs.YtcjbjpobpefehaaGreatDoor
open Go.RowKit

theorem info_int : (Tryz.prog.info? 3).map (fun i => (i.zero, i.size, i.bytes)) = some (some (.int .i64 0), 1, 8) := by kernel_rfl
theorem keyed_succ {α : Type} (z : List Int) (l : List α) (f : α → Int) {k : Nat} (hk : k < l.length) : z ++ (l.take (k + 1)).map f = (z ++ (l.take k).map f) ++ [f l[k]] := by
  rw [List.take_succ_eq_append_getElem hk, List.map_append, List.append_assoc]
  rfl
theorem keyed_len {α : Type} (z : List Int) (l : List α) (f : α → Int) {k : Nat} (hk : k ≤ l.length) : (z ++ (l.take k).map f).length = z.length + k := by
  simp; omega
set_option maxRecDepth 100000 in
set_option maxHeartbeats 4000000 in
theorem s_l07Keys (bt bn bw : Int) (cs : List Chan) (hs : List Htlc) (os : List Circle) (A1 A2 A3 : Option Addr) (p1 p2 p3 : Nat) (w : World) (h60 : hs.length ≤ 60) (h20 : os.length ≤ 20) (hr : RdBook w w.heap.size A1 cs A2 hs A3 os) :
    Calls Tryz.prog 55 #[.agg #[.int .i64 bt, .int .i64 bn, .int .i64 bw, .slice A1 cs.length p1, .slice A2 hs.length p2, .slice A3 os.length p3]] w fun e w' => ∃ A cap, e = .returned (.slice A (keysOf hs os).length cap) ∧ Ow w' w.heap.size 3 1 (.slice A (keysOf hs os).length cap) ((keysOf hs os).map intCells) ∧ Below w.heap.size w w' := by
  have HH := Lib.hid hr.h
  have HO := Lib.hid hr.o
  clear hr
  obtain ⟨i0, hi, hz0, hz1, hz2⟩ := info_parts info_int
  have HI := Lib.hid hi
  have HZ0 := Lib.hid hz0
  have HZ1 := Lib.hid hz1
  have HZ2 := Lib.hid hz2
  clear hi hz0 hz1 hz2
  go_enter Tryz.func55, Tryz.ntmps55
  go_wp2_with fail
  go_loopw [3, 12] (fun vk i wr => ∃ (k : Nat) (B : Option Addr) (cp : Nat), k ≤ hs.length ∧ i = .int .i64 k ∧ vk = .slice B ([] ++ (hs.take k).map Htlc.Key).length cp ∧ Ow wr (w.heap.size + 1) 3 1 (.slice B ([] ++ (hs.take k).map Htlc.Key).length cp) (([] ++ (hs.take k).map Htlc.Key).map intCells) ∧ wr.heap[w.heap.size]? = some (.cells #[.int .i64 bt, .int .i64 bn, .int .i64 bw, .slice A1 cs.length p1, .slice A2 hs.length p2, .slice A3 os.length p3] 27 (0, 0)) ∧ Below w.heap.size w wr) (fun _ i _ => hs.length - (intOf i).toNat)
  case atStart =>
    refine ⟨0, _, _, Nat.zero_le _, rfl, rfl, ?_, heap_past (by simp) (heap_at rfl), by (first | ((repeat' first | (with_reducible (first | exact Below.refl _ _ | assumption | refine Below.setCell ?_ ?_ _ | refine Below.alloc ?_ ?_ _ | refine Below.drew ?_ | refine below_drewN ?_ _ | refine Below.trans ?_ (Below.mono (by assumption) ?_))) | omega | (simp; omega) | (simp; done)); done) | (repeat' first | exact Below.refl _ _ | assumption | refine Below.setCell ?_ (by first | omega | (simp; omega) | (simp; done)) _ | refine Below.alloc ?_ (by first | omega | (simp; omega) | (simp; done)) _ | refine Below.drew ?_ | refine below_drewN ?_ _ | refine Below.trans ?_ (Below.mono (by assumption) (by first | omega | (simp; omega) | (simp; done)))))⟩
    exact Ow.empty_ (by simp) (Nat.le_refl _)
  case round =>
    obtain ⟨k, B, cp, hk, rfl, rfl, how, hbox, hbw⟩ := hrel
    have hbz := hbw.size
    obtain ⟨eh, e0, e1, e2, e3, e4, e5, ef, ezz⟩ := own6 (Below.refl wr.heap.size wr) (Array.getElem?_eq_some_iff.1 hbox).1 hbox
    have EH := Lib.hid eh
    clear eh hbox
    have hrl : ([] ++ (hs.take k).map Htlc.Key).length ≤ 80 := by rw [keyed_len _ _ _ hk]; simp; omega
    have NE := Lib.hid (how.ne_ EH.out (by decide))
    have OB := Lib.hid how.block
    have HW := Lib.hid how
    clear how
    by_cases hlt : k < hs.length
    · obtain ⟨b, off, rfl, hbB, c0, c1, c2, c3, c4, c5, c6⟩ := Htlc.rd (HH.out.below hbw) hlt
      have HK := Lib.hid (keyed_succ [] hs Htlc.Key hlt)
      obtain ⟨ROWS, hROWS⟩ : ∃ R, ([] ++ (hs.take k).map Htlc.Key) = R := ⟨_, rfl⟩
      rw [hROWS] at hrl NE OB HW HK ⊢
      clear hROWS
      have KE := Lib.hid (fun o1 o2 (w6 : World) (hgr : ((wr.alloc o1).alloc o2).grownBy w6 (Value.slice B ROWS.length cp).ownBlock) => ownG6 hgr NE.out (heap_past (by simp; omega) (heap_past ezz EH.out)))
      have KB := Lib.hid (fun o1 o2 (w6 : World) (hgr : ((wr.alloc o1).alloc o2).grownBy w6 (Value.slice B ROWS.length cp).ownBlock) => ((hbw.alloc (Nat.le_trans (Nat.le_refl _) hbz) o1).alloc (by simp; omega) o2).grown hgr (by simp; omega) (fun k e => by have := (OB.out k e).1; omega))
      go_wp2_with (at_builtin; refine wpList_app1 rfl _ _ _ rfl (w.heap.size + 1) 3 i0 _ 1 8 Tryz.underlying71 HI.out HZ0.out HZ1.out HZ2.out rfl (by decide) (.slice B ROWS.length cp) (ROWS.map intCells) rfl ((HW.out.alloc _).alloc _) (wr.heap.size + 1) 1 [.int .i64 hs[k].Key] 3 rfl (heap_at (by first | rfl | (simp; done))) rfl (by simp [Value.oneCell']) (by rw [List.length_map]; omega) (by decide) (by first | omega | (simp; omega) | (simp; done)) ?_; intro g cap' w6 how6 hgr6 hat6 hlt6; rw [List.length_map] at how6; rw [List.length_map]; obtain ⟨xh, x0, x1, x2, x3, x4, x5, xf, xz⟩ := KE.out _ _ _ hgr6; have hb6 := KB.out _ _ _ hgr6; have XH := Lib.hid xh; have O6 := Lib.hid how6; clear xh how6 hgr6 hat6)
      go_roundw
      case rel =>
        refine ⟨k + 1, some ⟨g, 0, none⟩, cap', by omega, by go_num, by rw [HK.out, List.length_append]; rfl, ?_, XH.out, hb6⟩
        rw [HK.out, List.map_append, List.length_append]
        exact O6.out
      case measure => simp [intOf]; omega
    · obtain rfl : k = hs.length := by omega
      rw [List.take_length, List.nil_append] at HW hrl ⊢
      rw [List.length_map] at hrl
      go_wp2_with fail
      obtain ⟨wo, rfl⟩ : ∃ wo : World, wo = wr := ⟨_, rfl⟩
      go_loopw [3, 25] (fun vk i wr => ∃ (k : Nat) (B : Option Addr) (cp : Nat), k ≤ os.length ∧ i = .int .i64 k ∧ vk = .slice B ((hs.map Htlc.Key) ++ (os.take k).map Circle.Key).length cp ∧ Ow wr (w.heap.size + 1) 3 1 (.slice B ((hs.map Htlc.Key) ++ (os.take k).map Circle.Key).length cp) (((hs.map Htlc.Key) ++ (os.take k).map Circle.Key).map intCells) ∧ wr.heap[w.heap.size]? = some (.cells #[.int .i64 bt, .int .i64 bn, .int .i64 bw, .slice A1 cs.length p1, .slice A2 hs.length p2, .slice A3 os.length p3] 27 (0, 0)) ∧ Below w.heap.size w wr) (fun _ i _ => os.length - (intOf i).toNat)
      case atStart => exact ⟨0, B, cp, Nat.zero_le _, rfl, by simp, by simpa using HW.out, EH.out, hbw⟩
      case round =>
        obtain ⟨k, B, cp, hk, rfl, rfl, how, hbox, hbw⟩ := hrel
        have hbz := hbw.size
        obtain ⟨eh, e0, e1, e2, e3, e4, e5, ef, ezz⟩ := own6 (Below.refl wr.heap.size wr) (Array.getElem?_eq_some_iff.1 hbox).1 hbox
        have EH := Lib.hid eh
        clear eh hbox
        have hrl : ((hs.map Htlc.Key) ++ (os.take k).map Circle.Key).length ≤ 80 := by rw [keyed_len _ _ _ hk]; rw [List.length_map]; omega
        have NE := Lib.hid (how.ne_ EH.out (by decide))
        have OB := Lib.hid how.block
        have HW := Lib.hid how
        clear how
        by_cases hlt : k < os.length
        · obtain ⟨b, off, rfl, hbB, c0, c1, c2, c3, c4⟩ := Circle.rd (HO.out.below hbw) hlt
          have HK := Lib.hid (keyed_succ (hs.map Htlc.Key) os Circle.Key hlt)
          obtain ⟨ROWS, hROWS⟩ : ∃ R, ((hs.map Htlc.Key) ++ (os.take k).map Circle.Key) = R := ⟨_, rfl⟩
          rw [hROWS] at hrl NE OB HW HK ⊢
          clear hROWS
          have KE := Lib.hid (fun o1 o2 (w6 : World) (hgr : ((wr.alloc o1).alloc o2).grownBy w6 (Value.slice B ROWS.length cp).ownBlock) => ownG6 hgr NE.out (heap_past (by simp; omega) (heap_past ezz EH.out)))
          have KB := Lib.hid (fun o1 o2 (w6 : World) (hgr : ((wr.alloc o1).alloc o2).grownBy w6 (Value.slice B ROWS.length cp).ownBlock) => ((hbw.alloc (Nat.le_trans (Nat.le_refl _) hbz) o1).alloc (by simp; omega) o2).grown hgr (by simp; omega) (fun k e => by have := (OB.out k e).1; omega))
          go_wp2_with (at_builtin; refine wpList_app1 rfl _ _ _ rfl (w.heap.size + 1) 3 i0 _ 1 8 Tryz.underlying71 HI.out HZ0.out HZ1.out HZ2.out rfl (by decide) (.slice B ROWS.length cp) (ROWS.map intCells) rfl ((HW.out.alloc _).alloc _) (wr.heap.size + 1) 1 [.int .i64 os[k].Key] 3 rfl (heap_at (by first | rfl | (simp; done))) rfl (by simp [Value.oneCell']) (by rw [List.length_map]; omega) (by decide) (by first | omega | (simp; omega) | (simp; done)) ?_; intro g cap' w6 how6 hgr6 hat6 hlt6; rw [List.length_map] at how6; rw [List.length_map]; obtain ⟨xh, x0, x1, x2, x3, x4, x5, xf, xz⟩ := KE.out _ _ _ hgr6; have hb6 := KB.out _ _ _ hgr6; have XH := Lib.hid xh; have O6 := Lib.hid how6; clear xh how6 hgr6 hat6)
          go_roundw
          case rel =>
            refine ⟨k + 1, some ⟨g, 0, none⟩, cap', by omega, by go_num, by rw [HK.out, List.length_append]; rfl, ?_, XH.out, hb6⟩
            rw [HK.out, List.map_append, List.length_append]
            exact O6.out
          case measure => simp [intOf]; omega
        · obtain rfl : k = os.length := by omega
          have hkeys : (hs.map Htlc.Key) ++ (os.take os.length).map Circle.Key = keysOf hs os := by rw [List.take_length]; rfl
          rw [hkeys] at HW ⊢
          clear hkeys
          go_wp2_with fail
          go_ret
          exact ⟨_, _, rfl, HW.out.more (by omega), by (first | ((repeat' first | (with_reducible (first | exact Below.refl _ _ | assumption | refine Below.setCell ?_ ?_ _ | refine Below.alloc ?_ ?_ _ | refine Below.drew ?_ | refine below_drewN ?_ _ | refine Below.trans ?_ (Below.mono (by assumption) ?_))) | omega | (simp; omega) | (simp; done)); done) | (repeat' first | exact Below.refl _ _ | assumption | refine Below.setCell ?_ (by first | omega | (simp; omega) | (simp; done)) _ | refine Below.alloc ?_ (by first | omega | (simp; omega) | (simp; done)) _ | refine Below.drew ?_ | refine below_drewN ?_ _ | refine Below.trans ?_ (Below.mono (by assumption) (by first | omega | (simp; omega) | (simp; done)))))⟩
end Go.Proofs.YtcjbjpobpefehaaGreatDoor

namespace Go.Proofs.YtcjbjpobpefehaaGreatDoor
open Go.RowKit Go.Deep

theorem info_ints : (Tryz.prog.info? 3).map (fun i => (i.zero, i.size, i.bytes)) = some (some (.int .i64 0), 1, 8) := by kernel_rfl
theorem str_cut (s : ByteArray) (a b : Nat) : (s.extract a b).data.toList = (s.data.toList.drop a).take (b - a) := by
  rw [ByteArray.data_extract, Array.toList_extract]
/-- where the pieces stand while a text is cut from the left -/
theorem parts_step {b : UInt8} {l : List UInt8} {f k : Nat} {D : List (List UInt8)} (hD : parts b l = D ++ parts b (l.drop f)) (hfk : f ≤ k) (hno : b ∉ (l.drop f).take (k - f)) (hk : l[k]? = some b) :
    parts b l = (D ++ [(l.drop f).take (k - f)]) ++ parts b (l.drop (k + 1)) := by
  have hlt : k < l.length := (List.getElem?_eq_some_iff.1 hk).1
  have e : l.drop f = (l.drop f).take (k - f) ++ b :: l.drop (k + 1) := by
    conv => lhs; rw [← List.take_append_drop (k - f) (l.drop f)]
    rw [List.drop_drop, show f + (k - f) = k by omega, List.drop_eq_getElem_cons hlt]
    congr 2
    rw [List.getElem?_eq_getElem hlt] at hk
    exact Option.some.inj hk
  have e2 : parts b (l.drop f) = (l.drop f).take (k - f) :: parts b (l.drop (k + 1)) := by
    conv => lhs; rw [e]
    exact parts_mid _ hno
  rw [hD, e2]
  simp
theorem parts_end {b : UInt8} {l : List UInt8} {f : Nat} {D : List (List UInt8)} (hD : parts b l = D ++ parts b (l.drop f)) (hno : b ∉ (l.drop f).take (l.length - f)) : parts b l = D ++ [l.drop f] := by
  rw [List.take_of_length_le (by simp)] at hno
  rw [hD, parts_none hno]
theorem no_next {b c : UInt8} {l : List UInt8} {f k : Nat} (hfk : f ≤ k) (hno : b ∉ (l.drop f).take (k - f)) (hk : l[k]? = some c) (hc : c ≠ b) : b ∉ (l.drop f).take (k + 1 - f) := by
  have hlt : k < l.length := (List.getElem?_eq_some_iff.1 hk).1
  rw [show k + 1 - f = (k - f) + 1 by omega, List.take_add_one, List.mem_append, not_or]
  refine ⟨hno, ?_⟩
  rw [List.getElem?_drop, show f + (k - f) = k by omega, hk]
  simpa using Ne.symm hc
/-- numbers that are read one after the other: the slice of them, or nothing -/
def NumsP (ls : List (List UInt8)) (w : World) (e : Ending) (w' : World) : Prop :=
  ((ls.all numOk = true ∧ ∃ A cap, e = .returned (.tuple #[.slice A ls.length cap, .bool true]) ∧ Ow w' w.heap.size 3 1 (.slice A ls.length cap) ((ls.map numOf).map intCells)) ∨
    (ls.all numOk = false ∧ e = .returned (.tuple #[.slice none 0 0, .bool false]))) ∧ Below w.heap.size w w'
set_option maxRecDepth 100000 in
set_option maxHeartbeats 1000000 in
theorem i_numbersOf (ls : List (List UInt8)) (A : Option Addr) (cap : Nat) (w : World) (hld : Le w) (hl : ls.length ≤ 1048577) (hs : ∀ x ∈ ls, x.length ≤ 1048576) (hr : Rd w w.heap.size 1 A (ls.map strC)) :
    Calls Tryz.prog 58 #[.slice A ls.length cap] w (NumsP ls w) := by
  have HLD := Lib.hid hld
  have HR := Lib.hid hr
  have HSZ := Lib.hid hs
  clear hld hr hs
  obtain ⟨i0, hi, hz0, hz1, hz2⟩ := info_parts info_ints
  have HI := Lib.hid hi
  have HZ0 := Lib.hid hz0
  have HZ1 := Lib.hid hz1
  have HZ2 := Lib.hid hz2
  clear hi hz0 hz1 hz2
  go_enter Tryz.func58, Tryz.ntmps58
  go_wp2_with fail
  go_loopw [4, 11] (fun v i wr => ∃ (k : Nat) (B : Option Addr) (cp : Nat), k ≤ ls.length ∧ i = .int .i64 k ∧ v = .slice B ((ls.take k).map numOf).length cp ∧ Ow wr w.heap.size 3 1 (.slice B ((ls.take k).map numOf).length cp) (((ls.take k).map numOf).map intCells) ∧ Hid ((ls.take k).all numOk = true) ∧ Below w.heap.size w wr) (fun _ i _ => ls.length - (intOf i).toNat)
  case atStart => exact ⟨0, none, 0, Nat.zero_le _, rfl, rfl, Ow.nil_, Lib.hid rfl, Below.refl _ _⟩
  case round =>
    obtain ⟨k, B, cp, hk, rfl, rfl, how, HA, hbw⟩ := hrel
    have hbz := hbw.size
    have hrl : ((ls.take k).map numOf).length ≤ 1048577 := by simp; omega
    have OB := Lib.hid how.block
    have HW := Lib.hid how
    clear how
    by_cases hlt : k < ls.length
    · obtain ⟨b, off, rfl, hbB, c0⟩ := strs_rd (HR.out.below hbw) hlt
      have HK := Lib.hid (show (ls.take (k + 1)).map numOf = (ls.take k).map numOf ++ [numOf ls[k]] by
        rw [List.take_succ_eq_append_getElem hlt, List.map_append]
        rfl)
      have hsz := HSZ.out ls[k] (List.getElem_mem hlt)
      obtain ⟨x, hx⟩ : ∃ x : ByteArray, (⟨(ls[k]).toArray⟩ : ByteArray) = x := ⟨_, rfl⟩
      have hxl : x.data.toList = ls[k] := by rw [← hx]
      have hxs : x.size ≤ 281474976710656 := by
        have : x.data.toList.length = x.size := Array.length_toList
        rw [hxl] at this
        omega
      have HXL := Lib.hid hxl
      rw [hx] at c0
      clear hx hxl hsz
      obtain ⟨RS, hRS⟩ : ∃ R, (ls.take k).map numOf = R := ⟨_, rfl⟩
      rw [hRS] at hrl OB HW HK ⊢
      clear hRS
      cases hok : numOk ls[k]
      · have HN := Lib.hid (show ls.all numOk = false by
          rw [List.all_eq_false]
          exact ⟨ls[k], List.getElem_mem hlt, by rw [hok]; simp⟩)
        have HOK := Lib.hid hok
        clear hok
        go_wp2_with fail
        refine (i_TextNum x _ (HLD.out.below (by (first | ((repeat' first | (with_reducible (first | exact Below.refl _ _ | assumption | refine Below.setCell ?_ ?_ _ | refine Below.alloc ?_ ?_ _ | refine Below.drew ?_ | refine below_drewN ?_ _ | refine Below.trans ?_ (Below.mono (by assumption) ?_))) | omega | (simp; omega) | (simp; done)); done) | (repeat' first | exact Below.refl _ _ | assumption | refine Below.setCell ?_ (by first | omega | (simp; omega) | (simp; done)) _ | refine Below.alloc ?_ (by first | omega | (simp; omega) | (simp; done)) _ | refine Below.drew ?_ | refine below_drewN ?_ _ | refine Below.trans ?_ (Below.mono (by assumption) (by first | omega | (simp; omega) | (simp; done))))))) hxs).mono ?_
        rintro e w1 ⟨rfl, hb1⟩
        have z1 := hb1.size
        rw [HXL.out, HOK.out]
        go_wp2_with fail
        go_ret2
        exact ⟨Or.inr ⟨HN.out, rfl⟩, by (first | ((repeat' first | (with_reducible (first | exact Below.refl _ _ | assumption | refine Below.setCell ?_ ?_ _ | refine Below.alloc ?_ ?_ _ | refine Below.drew ?_ | refine below_drewN ?_ _ | refine Below.trans ?_ (Below.mono (by assumption) ?_))) | omega | (simp; omega) | (simp; done)); done) | (repeat' first | exact Below.refl _ _ | assumption | refine Below.setCell ?_ (by first | omega | (simp; omega) | (simp; done)) _ | refine Below.alloc ?_ (by first | omega | (simp; omega) | (simp; done)) _ | refine Below.drew ?_ | refine below_drewN ?_ _ | refine Below.trans ?_ (Below.mono (by assumption) (by first | omega | (simp; omega) | (simp; done)))))⟩
      · have HOK := Lib.hid hok
        clear hok
        go_wp2_with fail
        refine (i_TextNum x _ (HLD.out.below (by (first | ((repeat' first | (with_reducible (first | exact Below.refl _ _ | assumption | refine Below.setCell ?_ ?_ _ | refine Below.alloc ?_ ?_ _ | refine Below.drew ?_ | refine below_drewN ?_ _ | refine Below.trans ?_ (Below.mono (by assumption) ?_))) | omega | (simp; omega) | (simp; done)); done) | (repeat' first | exact Below.refl _ _ | assumption | refine Below.setCell ?_ (by first | omega | (simp; omega) | (simp; done)) _ | refine Below.alloc ?_ (by first | omega | (simp; omega) | (simp; done)) _ | refine Below.drew ?_ | refine below_drewN ?_ _ | refine Below.trans ?_ (Below.mono (by assumption) (by first | omega | (simp; omega) | (simp; done))))))) hxs).mono ?_
        rintro e w1 ⟨rfl, hb1⟩
        have z1 := hb1.size
        rw [HXL.out, HOK.out]
        have hb2 : Below w.heap.size w w1 := by (first | ((repeat' first | (with_reducible (first | exact Below.refl _ _ | assumption | refine Below.setCell ?_ ?_ _ | refine Below.alloc ?_ ?_ _ | refine Below.drew ?_ | refine below_drewN ?_ _ | refine Below.trans ?_ (Below.mono (by assumption) ?_))) | omega | (simp; omega) | (simp; done)); done) | (repeat' first | exact Below.refl _ _ | assumption | refine Below.setCell ?_ (by first | omega | (simp; omega) | (simp; done)) _ | refine Below.alloc ?_ (by first | omega | (simp; omega) | (simp; done)) _ | refine Below.drew ?_ | refine below_drewN ?_ _ | refine Below.trans ?_ (Below.mono (by assumption) (by first | omega | (simp; omega) | (simp; done)))))
        have HW1 := Lib.hid (HW.out.below hb1)
        have KB := Lib.hid (fun o1 (w6 : World) (hgr : (w1.alloc o1).grownBy w6 (Value.slice B RS.length cp).ownBlock) => (hb2.alloc (by omega) o1).grown hgr (by simp; omega) (fun k e => (OB.out k e).1))
        have HA1 := Lib.hid (show (ls.take (k + 1)).all numOk = true by
          rw [List.take_succ_eq_append_getElem hlt, List.all_append, HA.out]
          simp [HOK.out])
        obtain ⟨v, hv⟩ : ∃ v, numOf ls[k] = v := ⟨_, rfl⟩
        rw [hv] at HK ⊢
        clear hb1 HW HA hv
        go_wp2_with (at_builtin; refine wpList_app1 rfl _ _ _ rfl w.heap.size 3 i0 _ 1 8 Tryz.underlying71 HI.out HZ0.out HZ1.out HZ2.out rfl (by decide) (.slice B RS.length cp) (RS.map intCells) rfl (HW1.out.alloc _) w1.heap.size 1 [.int .i64 v] 3 rfl (heap_at (by first | rfl | (simp; done))) rfl (by simp [Value.oneCell']) (by rw [List.length_map]; omega) (by decide) (by first | omega | (simp; omega) | (simp; done)) ?_; intro g cap' w6 how6 hgr6 hat6 hlt6; rw [List.length_map] at how6; rw [List.length_map]; have hb6 := KB.out _ _ hgr6; have O6 := Lib.hid how6; clear how6 hgr6 hat6)
        go_roundw
        case rel =>
          refine ⟨k + 1, some ⟨g, 0, none⟩, cap', by omega, by go_num, by rw [HK.out, List.length_append]; rfl, ?_, HA1, hb6⟩
          rw [HK.out, List.map_append, List.length_append]
          exact O6.out
        case measure => simp [intOf]; omega
    · obtain rfl : k = ls.length := by omega
      rw [List.take_length] at HW HA ⊢
      have HW2 : Hid (Ow wr w.heap.size 3 1 (.slice B ls.length cp) ((ls.map numOf).map intCells)) := Lib.hid (by
        have := HW.out
        rw [List.length_map] at this
        exact this)
      rw [List.length_map]
      clear HW OB
      go_wp2_with fail
      go_ret2
      exact ⟨Or.inl ⟨HA.out, B, cp, rfl, HW2.out⟩, hbw⟩
/-- the pieces of a text, in a slice of its own -/
def PartsP (b : UInt8) (l : List UInt8) (w : World) (e : Ending) (w' : World) : Prop :=
  ∃ A cap, e = .returned (.slice A (parts b l).length cap) ∧ Ow w' w.heap.size 9 1 (.slice A (parts b l).length cap) ((parts b l).map strC) ∧ Below w.heap.size w w'
set_option maxRecDepth 100000 in
set_option maxHeartbeats 1000000 in
theorem s_l04Parts (s : ByteArray) (b : UInt8) (x : Int) (w : World) (hx : x = (b.toNat : Int)) (hs : s.size ≤ 1048576) : Calls Tryz.prog 29 #[.string s, .int .u8 x] w (PartsP b s.data.toList w) := by
  have hz := Lib.hid (show s.data.toList.length = s.size from Array.length_toList)
  have HX := Lib.hid hx
  have HE0 := Lib.hid (Ow.empty_ (w := w) (g := w.heap.size) (e := 9) (size := 1) (B := w.heap.size) rfl (Nat.le_refl _))
  clear hx
  obtain ⟨i0, hi, hz0, hz1, hz2⟩ := info_parts info_str
  have HI := Lib.hid hi
  have HZ0 := Lib.hid hz0
  have HZ1 := Lib.hid hz1
  have HZ2 := Lib.hid hz2
  clear hi hz0 hz1 hz2
  go_enter Tryz.func29, Tryz.ntmps29
  go_wp2_with fail
  go_loopw [5, 6, 7] (fun v fr i wr => ∃ (k f : Nat) (D : List (List UInt8)) (B : Option Addr) (cp : Nat), k ≤ s.size ∧ f ≤ k ∧ i = .int .i64 k ∧ fr = .int .i64 f ∧ v = .slice B D.length cp ∧ D.length ≤ f ∧ Ow wr w.heap.size 9 1 (.slice B D.length cp) (D.map strC) ∧ Hid (parts b s.data.toList = D ++ parts b (s.data.toList.drop f)) ∧ Hid (b ∉ (s.data.toList.drop f).take (k - f)) ∧ Below w.heap.size w wr) (fun _ _ i _ => s.size - (intOf i).toNat)
  case atStart => exact ⟨0, 0, [], _, _, Nat.zero_le _, Nat.le_refl _, rfl, rfl, rfl, Nat.le_refl _, HE0.out, Lib.hid rfl, Lib.hid (by simp), by (first | ((repeat' first | (with_reducible (first | exact Below.refl _ _ | assumption | refine Below.setCell ?_ ?_ _ | refine Below.alloc ?_ ?_ _ | refine Below.drew ?_ | refine below_drewN ?_ _ | refine Below.trans ?_ (Below.mono (by assumption) ?_))) | omega | (simp; omega) | (simp; done)); done) | (repeat' first | exact Below.refl _ _ | assumption | refine Below.setCell ?_ (by first | omega | (simp; omega) | (simp; done)) _ | refine Below.alloc ?_ (by first | omega | (simp; omega) | (simp; done)) _ | refine Below.drew ?_ | refine below_drewN ?_ _ | refine Below.trans ?_ (Below.mono (by assumption) (by first | omega | (simp; omega) | (simp; done)))))⟩
  case round =>
    obtain ⟨k, f, D, B, cp, hk, hfk, rfl, rfl, rfl, hDf, how, HD, HN, hbw⟩ := hrel
    have hbz := hbw.size
    have OB := Lib.hid how.block
    have HW := Lib.hid how
    clear how HE0
    have KB := Lib.hid (fun o1 (w6 : World) (hgr : (wr.alloc o1).grownBy w6 (Value.slice B D.length cp).ownBlock) => (hbw.alloc (by omega) o1).grown hgr (by simp; omega) (fun k e => (OB.out k e).1))
    have f0 : (0 : Int) ≤ (f : Int) := by omega
    have f1 : (f : Int) ≤ (k : Int) := by omega
    have f2 : (k : Int) ≤ (s.size : Int) := by omega
    by_cases hlt : k < s.size
    · have HB := Lib.hid (byte_at hlt)
      by_cases hc : s[k] = b
      · have HS := Lib.hid (parts_step HD.out hfk HN.out (by rw [HB.out, hc]))
        have hcx : ((s[k].toNat : Int) == x) = true := by rw [beq_iff_eq, hc, HX.out]
        have HC := Lib.hid (str_cut s f k)
        clear hc HB
        go_wp2_with (at_builtin; refine wpList_app1 rfl _ _ _ rfl w.heap.size 9 i0 _ 1 16 Tryz.underlying51 HI.out HZ0.out HZ1.out HZ2.out rfl (by decide) (.slice B D.length cp) (D.map strC) rfl (HW.out.alloc _) wr.heap.size 1 [.string (s.extract f k)] 9 rfl (heap_at (by first | rfl | (simp; done))) rfl (by simp [Value.oneCell']) (by rw [List.length_map]; omega) (by decide) (by first | omega | (simp; omega) | (simp; done)) ?_; intro g cap' w6 how6 hgr6 hat6 hlt6; rw [List.length_map] at how6; rw [List.length_map]; have hb6 := KB.out _ _ hgr6; have O6 := Lib.hid how6; clear how6 hgr6 hat6)
        go_roundw
        case rel =>
          refine ⟨k + 1, k + 1, D ++ [(s.data.toList.drop f).take (k - f)], some ⟨g, 0, none⟩, cap', by omega, by omega, by go_num, by go_num, by rw [List.length_append]; rfl, by simp; omega, ?_, Lib.hid HS.out, Lib.hid (by simp), hb6⟩
          rw [List.map_append, List.length_append, ← HC.out]
          exact O6.out
        case measure => simp [intOf]; omega
      · have HS := Lib.hid (no_next hfk HN.out HB.out hc)
        have hcx : ((s[k].toNat : Int) == x) = false := by
          rw [beq_eq_false_iff_ne, HX.out]
          intro h
          exact hc (UInt8.toNat_inj.1 (by omega))
        clear hc HB
        go_wp2_with fail
        go_roundw
        case rel => exact ⟨k + 1, f, D, B, cp, by omega, by omega, by go_num, rfl, rfl, hDf, HW.out, HD, Lib.hid HS.out, hbw⟩
        case measure => simp [intOf]; omega
    · obtain rfl : k = s.size := by omega
      have HS := Lib.hid (parts_end HD.out (by rw [hz.out]; exact HN.out))
      have HC := Lib.hid (show (s.extract f s.size).data.toList = s.data.toList.drop f by
        rw [str_cut, List.take_of_length_le]
        rw [List.length_drop, hz.out]
        exact Nat.le_refl _)
      have HL := Lib.hid (show (parts b s.data.toList).length = D.length + 1 by rw [HS.out]; simp)
      go_wp2_with (at_builtin; refine wpList_app1 rfl _ _ _ rfl w.heap.size 9 i0 _ 1 16 Tryz.underlying51 HI.out HZ0.out HZ1.out HZ2.out rfl (by decide) (.slice B D.length cp) (D.map strC) rfl (HW.out.alloc _) wr.heap.size 1 [.string (s.extract f s.size)] 9 rfl (heap_at (by first | rfl | (simp; done))) rfl (by simp [Value.oneCell']) (by rw [List.length_map]; omega) (by decide) (by first | omega | (simp; omega) | (simp; done)) ?_; intro g cap' w6 how6 hgr6 hat6 hlt6; rw [List.length_map] at how6; rw [List.length_map]; have hb6 := KB.out _ _ hgr6; have O6 := Lib.hid how6; clear how6 hgr6 hat6)
      go_ret
      refine ⟨some ⟨g, 0, none⟩, cap', ?_, ?_, hb6⟩
      · show Ending.returned (.slice (some ⟨g, 0, none⟩) (D.length + 1) cap') = _
        rw [HL.out]
      rw [HL.out, HS.out, List.map_append, ← HC.out]
      exact O6.out
/-- the lines of a text -/
def linesL (l : List UInt8) : List (List UInt8) := if (parts 10 l).getLast? = some [] then (parts 10 l).dropLast else parts 10 l
theorem linesL_len (l : List UInt8) : (linesL l).length ≤ l.length + 1 := by
  have := parts_len 10 l
  unfold linesL
  split
  · rw [List.length_dropLast]; omega
  · exact this
theorem linesL_sub (l : List UInt8) : ∀ p ∈ linesL l, p.length ≤ l.length := by
  intro p hp
  unfold linesL at hp
  split at hp
  · exact parts_sub 10 l p (List.dropLast_subset _ hp)
  · exact parts_sub 10 l p hp
/-- the block of a slice of strings, and what its cells hold -/
theorem Ow.strs {w : World} {B g n cap : Nat} {e : TypeId} {l : List (List UInt8)} (h : Ow w B e 1 (.slice (some ⟨g, 0, none⟩) n cap) (l.map strC)) :
    ∃ cs, w.heap[g]? = some (.cells cs e (0, 0)) ∧ ∀ (j : Nat) x, l[j]? = some x → cs[j]? = some (.string ⟨x.toArray⟩) := by
  obtain ⟨cs, hh, _, _⟩ := Fill.of_ow (xs := []) h
  refine ⟨cs, hh, fun j x hx => ?_⟩
  have hj : j < l.length := (List.getElem?_eq_some_iff.1 hx).1
  obtain ⟨b, off, e1, _, hc⟩ := strs_rd h.rd hj
  simp only [Option.some.injEq, Addr.mk.injEq, and_true] at e1
  obtain ⟨rfl, rfl⟩ := e1
  rw [blk_cell hh, Nat.zero_add] at hc
  rw [List.getElem?_eq_getElem hj] at hx
  rw [hc, Option.some.inj hx]
def LinesP (l : List UInt8) (w : World) (e : Ending) (w' : World) : Prop :=
  ∃ (cap : Nat) (cs : Array Value), e = .returned (.slice (some ⟨w.heap.size, 0, none⟩) (linesL l).length cap) ∧ w'.heap[w.heap.size]? = some (.cells cs 9 (0, 0)) ∧ (∀ (j : Nat) x, (linesL l)[j]? = some x → cs[j]? = some (.string ⟨x.toArray⟩)) ∧ (linesL l).length ≤ cap ∧ Below w.heap.size w w'
set_option maxHeartbeats 1000000 in
theorem i_linesOf (s : ByteArray) (w : World) (hld : Ld w) (hs : s.size ≤ 1048576) : Calls Tryz.prog 26 #[.string s] w (LinesP s.data.toList w) := by
  have HC := Lib.hid (i_Split s 10 w hld (by omega))
  have hpl := parts_len 10 s.data.toList
  have hz : s.data.toList.length = s.size := Array.length_toList
  have hp0 : 0 < (parts 10 s.data.toList).length := by
    have := parts_ne 10 s.data.toList
    exact List.length_pos_iff.2 this
  rw [hz] at hpl
  have HD := Lib.hid (show linesL s.data.toList = if (parts 10 s.data.toList).getLast? = some [] then (parts 10 s.data.toList).dropLast else parts 10 s.data.toList from rfl)
  obtain ⟨P, hP⟩ : ∃ P, parts 10 s.data.toList = P := ⟨_, rfl⟩
  obtain ⟨LL, hLL⟩ : ∃ LL, linesL s.data.toList = LL := ⟨_, rfl⟩
  have HPost := Lib.hid (show ∀ cap cs w', w'.heap[w.heap.size]? = some (.cells cs 9 (0, 0)) → (∀ (j : Nat) x, LL[j]? = some x → cs[j]? = some (.string ⟨x.toArray⟩)) → LL.length ≤ cap → Below w.heap.size w w' → LinesP s.data.toList w (.returned (.slice (some ⟨w.heap.size, 0, none⟩) LL.length cap)) w' from fun cap cs w' h1 h2 h3 h4 => ⟨cap, cs, by rw [hLL], h1, by rw [hLL]; exact h2, by rw [hLL]; exact h3, h4⟩)
  rw [hLL, hP] at HD
  rw [hP] at HC hpl hp0
  clear hP hLL hz hld
  obtain ⟨j, hj⟩ : ∃ j, P.length = j + 1 := ⟨P.length - 1, by omega⟩
  have hjP : j < P.length := by omega
  have HG := Lib.hid (show P.getLast? = some P[j] by
    rw [List.getLast?_eq_getElem?, hj, Nat.add_sub_cancel, List.getElem?_eq_getElem hjP])
  have HJ := Lib.hid hj
  rw [hj] at HC hpl
  clear hp0 hj
  have i1 : (0 : Int) ≤ (j : Int) := by omega
  go_enter Tryz.func26, Tryz.ntmps26
  go_wp2_with fail
  refine HC.out.mono ?_
  rintro e w1 ⟨rfl, how, hb1⟩
  have z1 := hb1.size
  have HW := Lib.hid how
  obtain ⟨b, off, e1, hbB, c0⟩ := strs_rd how.rd hjP
  simp only [Option.some.injEq, Addr.mk.injEq, and_true] at e1
  obtain ⟨rfl, rfl⟩ := e1
  rw [Nat.zero_add] at c0
  clear how
  obtain ⟨x, hx⟩ : ∃ x : ByteArray, (⟨(P[j]).toArray⟩ : ByteArray) = x := ⟨_, rfl⟩
  have HXL := Lib.hid (show Str P[j] x from hx.symm)
  rw [hx] at c0
  clear hx
  by_cases hxe : x = ⟨#[]⟩
  · have HT := Lib.hid (show LL = P.dropLast by
      rw [HD.out, HG.out, if_pos]
      have := HXL.out.data
      rw [hxe] at this
      rw [← this])
    have HL := Lib.hid (show LL.length = j by rw [HT.out, List.length_dropLast, HJ.out, Nat.add_sub_cancel])
    subst hxe
    go_wp2_with fail
    go_ret
    obtain ⟨cs, h1, h2⟩ := HW.out.strs
    have := HPost.out (j + 1) cs _ h1 (fun i y hy => h2 i y (by
      rw [HT.out, List.dropLast_eq_take, List.getElem?_take] at hy
      split at hy
      · exact hy
      · cases hy)) (by rw [HL.out]; omega) hb1
    rw [HL.out] at this
    exact this
  · have HT := Lib.hid (show LL = P by
      rw [HD.out, HG.out, if_neg]
      intro h
      refine hxe ?_
      have h2 : P[j] = [] := Option.some.inj h
      have := HXL.out
      unfold Str at this
      rw [this, h2])
    have hne := neq_str hxe
    have hne1 : x.toList.isEmpty = false := by
      have h := neq_str hxe
      cases hx : x.toList with
      | nil => rw [hx] at h; simp at h
      | cons a r => rfl
    clear hne
    have HL := Lib.hid (show LL.length = j + 1 by rw [HT.out, HJ.out])
    clear hxe
    go_wp2_with fail
    go_ret
    obtain ⟨cs, h1, h2⟩ := HW.out.strs
    have := HPost.out (j + 1) cs _ h1 (fun i y hy => h2 i y (by rw [HT.out] at hy; exact hy)) (by rw [HL.out]; exact Nat.le_refl _) hb1
    rw [HL.out] at this
    exact this
end Go.Proofs.YtcjbjpobpefehaaGreatDoor

namespace Go.Proofs.YtcjbjpobpefehaaGreatDoor
open Go.RowKit

theorem gRange : Tryz.prog.globalNamed "strconv.ErrRange" = some 5 := by kernel_rfl
theorem gSyn : Tryz.prog.globalNamed "strconv.ErrSyntax" = some 4 := by kernel_rfl
theorem star_err : "*" ++ "errors.errorString" = "*errors.errorString" := by decide
theorem row_err (u : TypeId) (h : Tryz.prog.typeName? 3 u = some "*errors.errorString") : u = 186 :=
  typeName_ptr_named (nm := "errors.errorString") (by rw [star_err]; kernel_rfl) (by kernel_rfl) (by decide) u (by rw [star_err]; exact h)
theorem Le.laid {n1 n2 n4 : String} {d1 d2 d4 : DataW Unit} {t1 t2 : List UInt8} {r : List (String × DataW Unit)} {w : World}
    (h : laidMetH Tryz.prog ((n1, d1) :: (n2, d2) :: ("internal/strconv.uint64pow10", Lib.tabData .u64 Lib.pow10Tab) :: (n4, d4) ::
      ("strconv.ErrRange", .iface "*errors.errorString" (.ptr (.agg [.lit (.string t1)]))) :: ("strconv.ErrSyntax", .iface "*errors.errorString" (.ptr (.agg [.lit (.string t2)]))) :: r) w)
    (hs : w.ShapedOpen Tryz.prog)
    (hp : (((n1, d1) :: (n2, d2) :: ("internal/strconv.uint64pow10", Lib.tabData .u64 Lib.pow10Tab) :: (n4, d4) ::
      ("strconv.ErrRange", DataW.iface "*errors.errorString" (.ptr (.agg [.lit (.string t1)]))) :: ("strconv.ErrSyntax", .iface "*errors.errorString" (.ptr (.agg [.lit (.string t2)]))) :: r).all fun x => x.2.handleName?.isNone) = true) : Le w := by
  have hL := Ld.laid h hs hp
  rw [MakeChecks.laidMetH_plain _ _ _ hp] at h
  have h5 := h.tail.tail.tail.tail
  obtain ⟨a, sa, hva, _, _, _⟩ := laid_sentinel (ti := 105) (tp := 186) (te := 188) (ts := 9) h5 gRange (by kernel_rfl) Tryz.underlying105 row_err Tryz.underlying186 Tryz.underlying188 rfl rfl Tryz.underlying9 (by kernel_rfl) (by kernel_rfl)
  obtain ⟨b, sb, hvb, _, _, _⟩ := laid_sentinel (ti := 105) (tp := 186) (te := 188) (ts := 9) h5.tail gSyn (by kernel_rfl) Tryz.underlying105 row_err Tryz.underlying186 Tryz.underlying188 rfl rfl Tryz.underlying9 (by kernel_rfl) (by kernel_rfl)
  have ca := World.var?_cell gRange hva 0
  have cb := World.var?_cell gSyn hvb 0
  exact ⟨hL, ⟨_, by simpa using cb, Or.inr ⟨_, _, rfl⟩⟩, ⟨_, by simpa using ca, Or.inr ⟨_, _, rfl⟩⟩⟩
end Go.Proofs.YtcjbjpobpefehaaGreatDoor

namespace Go.Proofs.YtcjbjpobpefehaaGreatDoor
open Go

/-- the program's words of a line: those of a payment without the word for its part -/
def cutI (p : List (List UInt8)) : List (List UInt8) := if p.length = 8 ∧ p.headD [] = htlcW then p.take 6 ++ [p.getD 7 []] else p
def keptI (p : List (List UInt8)) : Bool := decide (p.length = 8) && (p.headD [] == htlcW) && (p.getD 6 [] == keptW true)
def numIx (l : List (List UInt8)) (i : Nat) : Int := numOf (l.getD i [])
def wordI (b : Bk) (h : List UInt8) (l : List (List UInt8)) (kept : Bool) : Option Bk :=
  if h = bookW ∧ l.length = 3 then some { b with t := numIx l 0, n := numIx l 1, w := numIx l 2 }
  else if h = chanW ∧ l.length = 7 ∧ b.cs.length < 20 then some { b with cs := b.cs ++ [⟨numIx l 0, numIx l 1, numIx l 2, numIx l 3, numIx l 4, numIx l 5, numIx l 6⟩] }
  else if h = htlcW ∧ l.length = 6 ∧ b.hs.length < 60 then some { b with hs := b.hs ++ [⟨numIx l 0, numIx l 1, numIx l 2, numIx l 3, numIx l 4, kept, numIx l 5⟩] }
  else if h = circW ∧ l.length = 5 ∧ b.os.length < 20 then some { b with os := b.os ++ [⟨numIx l 0, numIx l 1, numIx l 2, numIx l 3, numIx l 4⟩] }
  else if h = overW ∧ l.length = 0 then some b
  else none
def partI (b : Bk) (row : List UInt8) : Option Bk :=
  if (cutI (parts 32 row)).tail.all numOk = false then none
  else wordI b ((cutI (parts 32 row)).headD []) (cutI (parts 32 row)).tail (keptI (parts 32 row))
/-- the reference's way -/
def takeS (b : Bk) (w : List (List UInt8)) : Bk :=
  if w.headD [] = bookW then { b with t := numIx w 1, n := numIx w 2, w := numIx w 3 }
  else if w.headD [] = chanW then { b with cs := b.cs ++ [⟨numIx w 1, numIx w 2, numIx w 3, numIx w 4, numIx w 5, numIx w 6, numIx w 7⟩] }
  else if w.headD [] = htlcW then { b with hs := b.hs ++ [⟨numIx w 1, numIx w 2, numIx w 3, numIx w 4, numIx w 5, decide (6 < w.length) && (w.getD 6 [] == keptW true), numIx w 7⟩] }
  else if w.headD [] = circW then { b with os := b.os ++ [⟨numIx w 1, numIx w 2, numIx w 3, numIx w 4, numIx w 5⟩] }
  else b
theorem numOf_nil : numOf [] = 0 := num_empty.1

theorem kept_hit (b : Bool) : (keptW b == keptW true) = b := by cases b <;> rfl
section
variable {b : Bk}
theorem partI_head {t n w : Int} (h1 : numB t = true) (h2 : numB n = true) (h3 : numB w = true) : partI b (headC t n w) = some { b with t := t, n := n, w := w } := by
  have e1 := num_at h1
  have e2 := num_at h2
  have e3 := num_at h3
  unfold partI
  rw [headC_cut]
  simp [cutI, wordI, numIx, e1, e2, e3]
theorem partI_chan {c : Chan} (h : numB c.Id = true ∧ numB c.Size = true ∧ numB c.Local = true ∧ numB c.Remote = true ∧ numB c.Base = true ∧ numB c.Ppm = true ∧ numB c.Score = true) (hl : b.cs.length < 20) : partI b (chanC c) = some { b with cs := b.cs ++ [c] } := by
  have e1 := num_at h.1
  have e2 := num_at h.2.1
  have e3 := num_at h.2.2.1
  have e4 := num_at h.2.2.2.1
  have e5 := num_at h.2.2.2.2.1
  have e6 := num_at h.2.2.2.2.2.1
  have e7 := num_at h.2.2.2.2.2.2
  unfold partI
  rw [chanC_cut]
  simp [cutI, wordI, numIx, e1, e2, e3, e4, e5, e6, e7, hl, show chanW ≠ htlcW by decide, show chanW ≠ bookW by decide]
theorem partI_htlc {c : Htlc} (h : numB c.Key = true ∧ numB c.In = true ∧ numB c.Out = true ∧ numB c.AmtIn = true ∧ numB c.AmtOut = true ∧ numB c.Age = true) (hl : b.hs.length < 60) : partI b (htlcC c) = some { b with hs := b.hs ++ [c] } := by
  have e1 := num_at h.1
  have e2 := num_at h.2.1
  have e3 := num_at h.2.2.1
  have e4 := num_at h.2.2.2.1
  have e5 := num_at h.2.2.2.2.1
  have e6 := num_at h.2.2.2.2.2
  unfold partI
  rw [htlcC_cut]
  simp [cutI, wordI, numIx, keptI, kept_hit, e1, e2, e3, e4, e5, e6, hl, show htlcW ≠ chanW by decide, show htlcW ≠ bookW by decide]
theorem partI_circ {c : Circle} (h : numB c.Key = true ∧ numB c.From = true ∧ numB c.To = true ∧ numB c.Amt = true ∧ numB c.Fee = true) (hl : b.os.length < 20) : partI b (circC c) = some { b with os := b.os ++ [c] } := by
  have e1 := num_at h.1
  have e2 := num_at h.2.1
  have e3 := num_at h.2.2.1
  have e4 := num_at h.2.2.2.1
  have e5 := num_at h.2.2.2.2
  unfold partI
  rw [circC_cut]
  simp [cutI, wordI, numIx, e1, e2, e3, e4, e5, hl, show circW ≠ chanW by decide, show circW ≠ bookW by decide, show circW ≠ htlcW by decide]
theorem partI_over : partI b overW = some b := by
  unfold partI
  rw [over_cut]
  simp [cutI, wordI, show overW ≠ chanW by decide, show overW ≠ bookW by decide, show overW ≠ htlcW by decide, show overW ≠ circW by decide]
theorem takeS_head {t n w : Int} (h1 : numB t = true) (h2 : numB n = true) (h3 : numB w = true) : takeS b (parts 32 (headC t n w)) = { b with t := t, n := n, w := w } := by
  have e1 := num_at h1
  have e2 := num_at h2
  have e3 := num_at h3
  rw [headC_cut]
  simp [takeS, numIx, e1, e2, e3]
theorem takeS_chan {c : Chan} (h : numB c.Id = true ∧ numB c.Size = true ∧ numB c.Local = true ∧ numB c.Remote = true ∧ numB c.Base = true ∧ numB c.Ppm = true ∧ numB c.Score = true) : takeS b (parts 32 (chanC c)) = { b with cs := b.cs ++ [c] } := by
  have e1 := num_at h.1
  have e2 := num_at h.2.1
  have e3 := num_at h.2.2.1
  have e4 := num_at h.2.2.2.1
  have e5 := num_at h.2.2.2.2.1
  have e6 := num_at h.2.2.2.2.2.1
  have e7 := num_at h.2.2.2.2.2.2
  rw [chanC_cut]
  simp [takeS, numIx, e1, e2, e3, e4, e5, e6, e7, show chanW ≠ bookW by decide]
theorem takeS_htlc {c : Htlc} (h : numB c.Key = true ∧ numB c.In = true ∧ numB c.Out = true ∧ numB c.AmtIn = true ∧ numB c.AmtOut = true ∧ numB c.Age = true) : takeS b (parts 32 (htlcC c)) = { b with hs := b.hs ++ [c] } := by
  have e1 := num_at h.1
  have e2 := num_at h.2.1
  have e3 := num_at h.2.2.1
  have e4 := num_at h.2.2.2.1
  have e5 := num_at h.2.2.2.2.1
  have e6 := num_at h.2.2.2.2.2
  rw [htlcC_cut]
  simp [takeS, numIx, kept_hit, e1, e2, e3, e4, e5, e6, show htlcW ≠ chanW by decide, show htlcW ≠ bookW by decide]
theorem takeS_circ {c : Circle} (h : numB c.Key = true ∧ numB c.From = true ∧ numB c.To = true ∧ numB c.Amt = true ∧ numB c.Fee = true) : takeS b (parts 32 (circC c)) = { b with os := b.os ++ [c] } := by
  have e1 := num_at h.1
  have e2 := num_at h.2.1
  have e3 := num_at h.2.2.1
  have e4 := num_at h.2.2.2.1
  have e5 := num_at h.2.2.2.2
  rw [circC_cut]
  simp [takeS, numIx, e1, e2, e3, e4, e5, show circW ≠ chanW by decide, show circW ≠ bookW by decide, show circW ≠ htlcW by decide]
theorem takeS_over : takeS b (parts 32 overW) = b := by
  rw [over_cut]
  simp [takeS, show overW ≠ chanW by decide, show overW ≠ bookW by decide, show overW ≠ htlcW by decide, show overW ≠ circW by decide]
theorem takeS_nil : takeS b (parts 32 []) = b := by
  simp [takeS, parts, show [] ≠ chanW by decide, show [] ≠ bookW by decide, show [] ≠ htlcW by decide, show [] ≠ circW by decide]
end
/-- the lines, one after the other -/
def readI (b : Bk) : List (List UInt8) → Option Bk
  | [] => some b
  | r :: rs => match partI b r with | some b' => readI b' rs | none => none
theorem readI_append : ∀ (x y : List (List UInt8)) (b : Bk), readI b (x ++ y) = match readI b x with | some b' => readI b' y | none => none
  | [], y, b => rfl
  | r :: x, y, b => by
    rw [List.cons_append, readI, readI]
    cases partI b r with
    | none => rfl
    | some b' => exact readI_append x y b'
theorem readI_succ {b0 b : Bk} {L : List (List UInt8)} {k : Nat} (hk : k < L.length) (h : readI b0 (L.take k) = some b) : readI b0 (L.take (k + 1)) = partI b L[k] := by
  rw [List.take_succ_eq_append_getElem hk, readI_append, h]
  simp only [readI]
  cases partI b L[k] <;> rfl
theorem readI_stop {b0 b : Bk} {L : List (List UInt8)} {k : Nat} (hk : k < L.length) (h : readI b0 (L.take k) = some b) (hn : partI b L[k] = none) : readI b0 L = none := by
  have e : L = L.take (k + 1) ++ L.drop (k + 1) := (List.take_append_drop _ _).symm
  rw [e, readI_append, readI_succ hk h, hn]
theorem readI_chans : ∀ (cs : List Chan) (b : Bk) (r : List (List UInt8)), (∀ c ∈ cs, numB c.Id = true ∧ numB c.Size = true ∧ numB c.Local = true ∧ numB c.Remote = true ∧ numB c.Base = true ∧ numB c.Ppm = true ∧ numB c.Score = true) → b.cs.length + cs.length ≤ 20 → readI b (cs.map chanC ++ r) = readI { b with cs := b.cs ++ cs } r
  | [], b, r, _, _ => by simp
  | c :: cs, b, r, h, hl => by
    simp only [List.length_cons] at hl
    rw [List.map_cons, List.cons_append, readI, partI_chan (h c (by simp)) (by omega)]
    show readI _ _ = _
    rw [readI_chans cs _ r (fun x hx => h x (by simp [hx])) (by simp; omega)]
    simp
theorem readI_htlcs : ∀ (cs : List Htlc) (b : Bk) (r : List (List UInt8)), (∀ c ∈ cs, numB c.Key = true ∧ numB c.In = true ∧ numB c.Out = true ∧ numB c.AmtIn = true ∧ numB c.AmtOut = true ∧ numB c.Age = true) → b.hs.length + cs.length ≤ 60 → readI b (cs.map htlcC ++ r) = readI { b with hs := b.hs ++ cs } r
  | [], b, r, _, _ => by simp
  | c :: cs, b, r, h, hl => by
    simp only [List.length_cons] at hl
    rw [List.map_cons, List.cons_append, readI, partI_htlc (h c (by simp)) (by omega)]
    show readI _ _ = _
    rw [readI_htlcs cs _ r (fun x hx => h x (by simp [hx])) (by simp; omega)]
    simp
theorem readI_circs : ∀ (cs : List Circle) (b : Bk) (r : List (List UInt8)), (∀ c ∈ cs, numB c.Key = true ∧ numB c.From = true ∧ numB c.To = true ∧ numB c.Amt = true ∧ numB c.Fee = true) → b.os.length + cs.length ≤ 20 → readI b (cs.map circC ++ r) = readI { b with os := b.os ++ cs } r
  | [], b, r, _, _ => by simp
  | c :: cs, b, r, h, hl => by
    simp only [List.length_cons] at hl
    rw [List.map_cons, List.cons_append, readI, partI_circ (h c (by simp)) (by omega)]
    show readI _ _ = _
    rw [readI_circs cs _ r (fun x hx => h x (by simp [hx])) (by simp; omega)]
    simp
def readS (b : Bk) (L : List (List UInt8)) : Bk := L.foldl (fun b r => takeS b (parts 32 r)) b
theorem readS_succ {b0 : Bk} {L : List (List UInt8)} {k : Nat} (hk : k < L.length) : readS b0 (L.take (k + 1)) = takeS (readS b0 (L.take k)) (parts 32 L[k]) := by
  unfold readS
  rw [List.take_succ_eq_append_getElem hk, List.foldl_append]
  rfl
theorem readS_chans : ∀ (cs : List Chan) (b : Bk) (r : List (List UInt8)), (∀ c ∈ cs, numB c.Id = true ∧ numB c.Size = true ∧ numB c.Local = true ∧ numB c.Remote = true ∧ numB c.Base = true ∧ numB c.Ppm = true ∧ numB c.Score = true) → readS b (cs.map chanC ++ r) = readS { b with cs := b.cs ++ cs } r
  | [], b, r, _ => by simp
  | c :: cs, b, r, h => by
    have ih := readS_chans cs { b with cs := b.cs ++ [c] } r (fun x hx => h x (by simp [hx]))
    unfold readS at ih ⊢
    rw [List.map_cons, List.cons_append, List.foldl_cons, takeS_chan (h c (by simp)), ih]
    simp
theorem readS_htlcs : ∀ (cs : List Htlc) (b : Bk) (r : List (List UInt8)), (∀ c ∈ cs, numB c.Key = true ∧ numB c.In = true ∧ numB c.Out = true ∧ numB c.AmtIn = true ∧ numB c.AmtOut = true ∧ numB c.Age = true) → readS b (cs.map htlcC ++ r) = readS { b with hs := b.hs ++ cs } r
  | [], b, r, _ => by simp
  | c :: cs, b, r, h => by
    have ih := readS_htlcs cs { b with hs := b.hs ++ [c] } r (fun x hx => h x (by simp [hx]))
    unfold readS at ih ⊢
    rw [List.map_cons, List.cons_append, List.foldl_cons, takeS_htlc (h c (by simp)), ih]
    simp
theorem readS_circs : ∀ (cs : List Circle) (b : Bk) (r : List (List UInt8)), (∀ c ∈ cs, numB c.Key = true ∧ numB c.From = true ∧ numB c.To = true ∧ numB c.Amt = true ∧ numB c.Fee = true) → readS b (cs.map circC ++ r) = readS { b with os := b.os ++ cs } r
  | [], b, r, _ => by simp
  | c :: cs, b, r, h => by
    have ih := readS_circs cs { b with os := b.os ++ [c] } r (fun x hx => h x (by simp [hx]))
    unfold readS at ih ⊢
    rw [List.map_cons, List.cons_append, List.foldl_cons, takeS_circ (h c (by simp)), ih]
    simp
section
variable {bt bn bw : Int} {cs : List Chan} {hs : List Htlc} {os : List Circle}
theorem book_lines (h : bookB bt bn bw cs hs os = true) : linesL (bookL bt bn bw cs hs os) = headC bt bn bw :: bookRows cs hs os := by
  unfold linesL
  rw [book_cut h, if_pos]
  · rw [List.dropLast_concat]
  · rw [List.getLast?_concat]
theorem readI_book (h : bookB bt bn bw cs hs os = true) : readI bk0 (linesL (bookL bt bn bw cs hs os)) = some ⟨bt, bn, bw, cs, hs, os⟩ := by
  have n := book_nums h
  have f := bookB_facts h
  have hc := f.cl
  have hh := f.small.hl
  have ho := f.small.ol
  rw [book_lines h, readI, partI_head n.t n.n n.w]
  show readI _ (bookRows cs hs os) = _
  unfold bookRows
  rw [readI_chans cs _ _ n.c (by simpa [bk0] using hc), readI_htlcs hs _ _ n.h (by simpa [bk0] using hh), readI_circs os _ _ n.o (by simpa [bk0] using ho), readI, partI_over]
  simp [readI, bk0]
theorem readS_book (h : bookB bt bn bw cs hs os = true) : readS bk0 (parts 10 (bookL bt bn bw cs hs os)) = ⟨bt, bn, bw, cs, hs, os⟩ := by
  have n := book_nums h
  rw [book_cut h]
  show readS (takeS bk0 (parts 32 (headC bt bn bw))) (bookRows cs hs os ++ [[]]) = _
  rw [takeS_head n.t n.n n.w]
  unfold bookRows
  rw [List.append_assoc, readS_chans cs _ _ n.c, List.append_assoc, readS_htlcs hs _ _ n.h, List.append_assoc, readS_circs os _ _ n.o]
  simp only [readS, List.cons_append, List.nil_append, List.foldl_cons, List.foldl_nil]
  rw [takeS_over, takeS_nil]
  simp [bk0]
theorem book_count (h : bookB bt bn bw cs hs os = true) : (parts 10 (bookL bt bn bw cs hs os)).length ≤ 104 := by
  have f := bookB_facts h
  have hc := f.cl
  have hh := f.small.hl
  have ho := f.small.ol
  rw [book_cut h]
  simp [bookRows]
  omega
theorem bookL_ne (h : bookB bt bn bw cs hs os = true) : bookL bt bn bw cs hs os ≠ [] := fun e => by
  have := book_cut h
  rw [e] at this
  simp [parts, bookRows] at this
theorem book_hit {s : List UInt8} (hs0 : s ≠ []) (h : bookL bt bn bw cs hs os = s) : BookIs s bt bn bw cs hs os true := by
  refine Or.inl ⟨rfl, ?_, h⟩
  cases hb : bookB bt bn bw cs hs os with
  | true => rfl
  | false =>
    exfalso
    refine hs0 ?_
    rw [← h]
    unfold bookL
    rw [hb]
    rfl
end
theorem book_none {s : List UInt8} (h : ∀ bt bn bw cs hs os, bookB bt bn bw cs hs os = true → bookL bt bn bw cs hs os = s → False) : BookIs s 0 0 0 [] [] [] false := Or.inr ⟨rfl, rfl, rfl, rfl, rfl, rfl, rfl, fun _ _ _ _ _ _ h1 h2 => h _ _ _ _ _ _ h1 h2⟩
/-- the program's readers' ends -/
theorem book_noneI {s : List UInt8} (h : readI bk0 (linesL s) = none) : BookIs s 0 0 0 [] [] [] false := book_none fun _ _ _ _ _ _ h1 h2 => by
  rw [← h2, readI_book h1] at h
  cases h
theorem book_missI {s : List UInt8} {b : Bk} (h : readI bk0 (linesL s) = some b) (hn : bookL b.t b.n b.w b.cs b.hs b.os ≠ s) : BookIs s 0 0 0 [] [] [] false := book_none fun _ _ _ _ _ _ h1 h2 => by
  rw [← h2, readI_book h1] at h
  cases h
  exact hn h2
theorem book_manyS {s : List UInt8} (h : 104 < (parts 10 s).length) : BookIs s 0 0 0 [] [] [] false := book_none fun _ _ _ _ _ _ h1 h2 => by
  have := book_count h1
  rw [h2] at this
  omega
theorem book_missS {s : List UInt8} {b : Bk} (h : readS bk0 (parts 10 s) = b) (hn : bookL b.t b.n b.w b.cs b.hs b.os ≠ s) : BookIs s 0 0 0 [] [] [] false := book_none fun _ _ _ _ _ _ h1 h2 => by
  rw [← h2, readS_book h1] at h
  subst h
  exact hn h2
theorem book_empty : BookIs [] 0 0 0 [] [] [] false := book_none fun _ _ _ _ _ _ h1 h2 => bookL_ne h1 h2
/-- how long what stands read can be -/
theorem partI_len {b b' : Bk} {r : List UInt8} (h : partI b r = some b') (h1 : b.cs.length ≤ 20) (h2 : b.hs.length ≤ 60) (h3 : b.os.length ≤ 20) : b'.cs.length ≤ 20 ∧ b'.hs.length ≤ 60 ∧ b'.os.length ≤ 20 := by
  unfold partI at h
  split at h
  · cases h
  · unfold wordI at h
    repeat' split at h
    all_goals first | (cases h; done) | skip
    all_goals
      injection h with h
      subst h
      first | exact ⟨h1, h2, h3⟩ | (simp; omega)
theorem takeS_len {b : Bk} {w : List (List UInt8)} : (takeS b w).cs.length ≤ b.cs.length + 1 ∧ (takeS b w).hs.length ≤ b.hs.length + 1 ∧ (takeS b w).os.length ≤ b.os.length + 1 := by
  unfold takeS
  repeat' split
  all_goals simp
end Go.Proofs.YtcjbjpobpefehaaGreatDoor

namespace Go.Proofs.YtcjbjpobpefehaaGreatDoor
open Go.RowKit Go.Deep

/-- a book that is read -/
def RdB (s : List UInt8) (w : World) (e : Ending) (w' : World) : Prop :=
  ∃ (b : Bk) (A1 A2 A3 : Option Addr) (p1 p2 p3 : Nat) (ok : Bool), e = .returned (.tuple #[bkVal b A1 A2 A3 p1 p2 p3, .bool ok]) ∧ OwB w' w.heap.size b A1 A2 A3 p1 p2 p3 ∧ BookIs s b.t b.n b.w b.cs b.hs b.os ok ∧ Below w.heap.size w w'
theorem RdB.zero {s : List UInt8} {w w' : World} (h : BookIs s 0 0 0 [] [] [] false) (hb : Below w.heap.size w w') : RdB s w (.returned (.tuple #[.agg #[.int .i64 0, .int .i64 0, .int .i64 0, .slice none 0 0, .slice none 0 0, .slice none 0 0], .bool false])) w' :=
  ⟨bk0, none, none, none, 0, 0, 0, false, rfl, OwB.nil_ _ _ _ _ _, h, hb⟩
/-- six stores into a box that lies below the slices' blocks -/
theorem OwB.six_aside {w : World} {B B' R : Nat} {b : Bk} {A1 A2 A3 : Option Addr} {p1 p2 p3 : Nat} {t : TypeId} {cs : Array Value} (h : OwB w B b A1 A2 A3 p1 p2 p3) (hB : B' ≤ B ∧ R < B) (_ : w.heap[R]? = some (.cells cs t (0, 0))) (u0 u1 u2 u3 u4 u5 : Value) :
    OwB ((((((w.setCell ⟨R, 0, none⟩ u0).setCell ⟨R, 1, none⟩ u1).setCell ⟨R, 2, none⟩ u2).setCell ⟨R, 3, none⟩ u3).setCell ⟨R, 4, none⟩ u4).setCell ⟨R, 5, none⟩ u5) B' b A1 A2 A3 p1 p2 p3 := by
  refine OwB.more (B := B) ?_ hB.1
  have far : ∀ {W : World} {e : TypeId} {n i : Nat} {v : Value} {rows : List (List Value)} {u : Value}, Ow W B e n v rows → Ow (W.setCell ⟨R, i, none⟩ u) B e n v rows := fun h => h.far (show R < B from hB.2) _
  exact ⟨far (far (far (far (far (far h.c))))), far (far (far (far (far (far h.h))))), far (far (far (far (far (far h.o)))))⟩
end Go.Proofs.YtcjbjpobpefehaaGreatDoor
